/-
  The ghost takes in what the real world has: the empty renaming; one block more; two renami
-/
import Derived.Deep.RegionHeldLaw
import Derived.Conc.LeavingOf
import Derived.Test.YtnpcandaehejbaaGreatSqT6
import Derived.Test.YtnpcandaehejbaaGreatSqT7
import Derived.Test.YtnpcandaehejbaaGreatSqT8
import Derived.Test.YtnpcandaehejbaaGreatSqT10
import Derived.Test.YtnpcandaehejbaaGreatSqT11
set_option linter.unusedVariables false
set_option linter.unusedSimpArgs false
set_option linter.unusedSectionVars false
set_option maxHeartbeats 6400000
set_option maxRecDepth 100000
namespace Go.Proofs.YtnpcandaehejbaaGreat
section
namespace Cw
open Go Go.Conc Go.ConcN Rn
section
variable {P:Program}
def ren0(P:Program)(S:Nat→Bool):Ren P where
 rel _ _:=False
 inj:=by intro a a' b b' h;exact h.elim
 low:=by intro a a' h;exact h.elim
 shut _:=False
 ok f:=S f=true
theorem ren0_ok(S:Nat→Bool)(M:List String):RhoOk (ren0 P S) S M:=⟨fun _=>Iff.rfl,fun _ _ h=>h⟩
theorem rs_empty{S:Nat→Bool}{wp w:World}(h1:P.globals.size≤wp.heap.size)(h2:P.globals.size≤w.heap.size):RS (ren0 P S) wp w :=
 ⟨⟨fun h=>h.elim,fun h=>h.elim,fun h=>h.elim⟩,fun h=>h.elim,h1,h2⟩
variable {ρ ρ':Ren P}{wp wp' w w':World}
theorem rs_real(h:RS ρ wp w)(hb:∀ b b',ρ.rel b b'→w'.heap[b']?=w.heap[b']?)(hs:w.heap.size≤w'.heap.size):RS ρ wp w':=by
 refine⟨⟨fun {b b'} hr hlt=>?_,fun {b b'} hr hge=>?_,h.both.shut⟩,h.full,h.lowp,Nat.le_trans h.lowr hs⟩
 ·obtain⟨o,o',e1,e2,e3⟩:=h.both.obj hr hlt;exact⟨o,o',e1,(hb b b' hr).trans e2,e3⟩
 ·have:=h.full hr;omega
theorem rs_ghost(h:RS ρ wp w)(hb:∀ b,b<wp.heap.size→wp'.heap[b]?=wp.heap[b]?)(hs:wp.heap.size≤wp'.heap.size)(hsh:∀ b,¬ρ.shut b):RS ρ wp' w:=by
 refine⟨⟨fun {b b'} hr hlt=>?_,fun {b b'} hr hge=>?_,fun {b} hx=>(hsh b hx).elim⟩,fun hr=>Nat.lt_of_lt_of_le (h.full hr) hs,Nat.le_trans h.lowp hs,h.lowr⟩
 ·obtain⟨o,o',e1,e2,e3⟩:=h.both.obj hr (h.full hr);exact⟨o,o',(hb b (h.full hr)).trans e1,e2,e3⟩
 ·have:=h.full hr;omega
def addPair(ρ:Ren P)(x x':Nat)(hx:∀ b b',ρ.rel b b'→b≠x∧b'≠x')(h1:P.globals.size≤x)(h2:P.globals.size≤x'):Ren P where
 rel b b':=ρ.rel b b'∨(b=x∧b'=x')
 inj:=by
  rintro a a' b b' (ha|⟨rfl,rfl⟩) (hb|⟨rfl,rfl⟩)
  ·exact ρ.inj ha hb
  ·have:=hx _ _ ha;exact⟨fun e=>(this.1 e).elim,fun e=>(this.2 e).elim⟩
  ·have:=hx _ _ hb;exact⟨fun e=>(this.1 e.symm).elim,fun e=>(this.2 e.symm).elim⟩
  ·exact⟨fun _=>rfl,fun _=>rfl⟩
 low:=by
  rintro a a' (ha|⟨rfl,rfl⟩)
  ·exact ρ.low ha
  ·exact⟨h1,h2⟩
 shut:=ρ.shut
 ok:=ρ.ok
theorem kge7(x x':Nat)(hx:∀ b b',ρ.rel b b'→b≠x∧b'≠x')(h1:P.globals.size≤x)(h2:P.globals.size≤x'):Le ρ (addPair ρ x x' hx h1 h2):=⟨fun h=>.inl h,fun _=>Iff.rfl,fun _=>Iff.rfl⟩
theorem rs_import(h:RS ρ wp w)(hsh:∀ b,¬ρ.shut b)(x':Nat)(hx:∀ b b',ρ.rel b b'→b≠wp.heap.size∧b'≠x')(h2:P.globals.size≤x'){o o':Obj}(hb:w.heap[x']?=some o')(ho:OR (addPair ρ wp.heap.size x' hx h.lowp h2) o o') :
  RS (addPair ρ wp.heap.size x' hx h.lowp h2) (wp.alloc o) w:=by
 have hle:=kge7 (ρ:=ρ) wp.heap.size x' hx h.lowp h2;have hs:(wp.alloc o).heap.size=wp.heap.size+1:=by simp
 refine⟨⟨fun {b b'} hr hlt=>?_,fun {b b'} hr hge=>?_,fun {b} hx=>(hsh b hx).elim⟩,fun {b b'} hr=>?_,by rw[hs];have:=h.lowp;omega,h.lowr⟩
 ·rcases hr with hr|⟨rfl,rfl⟩
  ·obtain⟨q,q',e1,e2,e3⟩:=h.both.obj hr (h.full hr);exact⟨q,q',(Go.RowKit.Below.heap_alloc wp o b (h.full hr)).trans e1,e2,e3.mono hle⟩
  ·exact⟨o,o',Go.heap_alloc_new wp o,hb,ho⟩
 ·rcases hr with hr|⟨rfl,rfl⟩
  ·have:=h.full hr;omega
  ·omega
 ·rcases hr with hr|⟨rfl,rfl⟩
  ·have:=h.full hr;omega
  ·omega
def joinR(ρ ρ':Ren P)(hd:∀ a a' b b',ρ.rel a a'→ρ'.rel b b'→a≠b∧a'≠b'):Ren P where
 rel b b':=ρ.rel b b'∨ρ'.rel b b'
 inj:=by
  rintro a a' b b' (ha|ha) (hb|hb)
  ·exact ρ.inj ha hb
  ·have:=hd _ _ _ _ ha hb;exact⟨fun e=>(this.1 e).elim,fun e=>(this.2 e).elim⟩
  ·have:=hd _ _ _ _ hb ha;exact⟨fun e=>(this.1 e.symm).elim,fun e=>(this.2 e.symm).elim⟩
  ·exact ρ'.inj ha hb
 low:=by
  rintro a a' (ha|ha)
  ·exact ρ.low ha
  ·exact ρ'.low ha
 shut:=ρ.shut
 ok:=ρ.ok
theorem le_joinL(hd:∀ a a' b b',ρ.rel a a'→ρ'.rel b b'→a≠b∧a'≠b'):Le ρ (joinR ρ ρ' hd):=⟨fun h=>.inl h,fun _=>Iff.rfl,fun _=>Iff.rfl⟩
theorem le_joinR(hd:∀ a a' b b',ρ.rel a a'→ρ'.rel b b'→a≠b∧a'≠b')(hs:∀ b,¬ρ.shut b)(hs':∀ b,¬ρ'.shut b)(ho:∀ f,ρ.ok f↔ρ'.ok f):Le ρ' (joinR ρ ρ' hd) :=
 ⟨fun h=>.inr h,fun b=>⟨fun h=>(hs b h).elim,fun h=>(hs' b h).elim⟩,ho⟩
theorem rs_join(h:RS ρ wp w)(h':RS ρ' wp w)(hd:∀ a a' b b',ρ.rel a a'→ρ'.rel b b'→a≠b∧a'≠b')(hs:∀ b,¬ρ.shut b)(hs':∀ b,¬ρ'.shut b)(ho:∀ f,ρ.ok f↔ρ'.ok f):RS (joinR ρ ρ' hd) wp w:=by
 refine⟨⟨fun {b b'} hr hlt=>?_,fun {b b'} hr hge=>?_,fun {b} hx=>(hs b hx).elim⟩,fun {b b'} hr=>?_,h.lowp,h.lowr⟩
 ·rcases hr with hr|hr
  ·obtain⟨q,q',e1,e2,e3⟩:=h.both.obj hr hlt;exact⟨q,q',e1,e2,e3.mono (le_joinL hd)⟩
  ·obtain⟨q,q',e1,e2,e3⟩:=h'.both.obj hr hlt;exact⟨q,q',e1,e2,e3.mono (le_joinR hd hs hs' ho)⟩
 ·rcases hr with hr|hr
  ·exact h.both.fut hr hge
  ·exact h'.both.fut hr hge
 ·rcases hr with hr|hr
  ·exact h.full hr
  ·exact h'.full hr
end
end Cw
end
section
namespace Cw
open Go Go.Conc Go.ConcN Rn
open PB (K10 T10a T10b T10c)
theorem body10:Tryz.f10.body=some (K10 0):=by kernel_rfl
theorem ntmps10:Tryz.f10.ntmps=68:=by kernel_rfl
theorem K10_seq(i:Nat)(h:i≤5):K10 i=.seq (sq1 (K10 i)) (K10 (i+1)):=by
 rcases(by omega:i=0∨i=1∨i=2∨i=3∨i=4∨i=5) with rfl|rfl|rfl|rfl|rfl|rfl<;>kernel_rfl
theorem ok10(i:Nat)(h:i=0∨i=1∨i=2):okCode Tryz.prog S0 M1 (sq1 (K10 i))=true:=by
 rcases h with rfl|rfl|rfl<;>kernel_rfl
def Grew(w w':World):Prop:=w.heap.size≤w'.heap.size∧∀ b,b<w.heap.size→w'.heap[b]?=w.heap[b]?
theorem Grew.of{w w':World}(h:Go.RowKit.Below w.heap.size w w'):Grew w w':=⟨h.size,h.block⟩
theorem r0_lone(w:World):(sq1 (K10 0)).wp Tryz.prog (fun e a w'=>e=.normal∧a.defers=[]∧(a.tmps=T10a∧Grew w w')) ⟨#[]++Array.replicate (68-(#[]:Array Value).size) undef,[]⟩ w:=by
 have e:(#[]++Array.replicate (68-(#[]:Array Value).size) undef:Array Value)=#[undef,undef,undef,undef,undef,undef,undef,undef,undef,undef,undef,undef,undef,undef,undef,undef,undef,undef,undef,undef,undef,undef,undef,undef,undef,undef,undef,undef,undef,undef,undef,undef,undef,undef,undef,undef,undef,undef,undef,undef,undef,undef,undef,undef,undef,undef,undef,undef,undef,undef,undef,undef,undef,undef,undef,undef,undef,undef,undef,undef,undef,undef,undef,undef,undef,undef,undef,undef]:=by kernel_rfl
 rw[e];dsimp only[K10,sq1,sq2,Tryz.f10,Option.getD_some,T10a]
 go_wp2
 exact⟨Nat.le_refl _,fun _ _=>rfl⟩
theorem _root_.Go.Proofs.YtnpcandaehejbaaGreat.PB.Rd.grew{w w':World}{A:Option Addr}{n c:Nat}{xs:List Value}(h:PB.Rd w A n c xs)(g:Grew w w'):PB.Rd w' A n c xs:=by
 obtain⟨h1,h2,h3,h4⟩:=h;refine⟨h1,h2,h3,fun hn=>?_⟩;obtain⟨b,off,e,hb,hc⟩:=h4 hn;exact⟨b,off,e,Nat.lt_of_lt_of_le hb g.1,fun j u hu=>(World.cell?_of_block (g.2 b hb)).trans (hc j u hu)⟩
section
variable {PostF:Value→World→Prop}{B:Nat→Prop}{q0:Nat}
theorem packs_pre{cs:List Frame}{W0:World}(hB:∀ b,B b→b<W0.heap.size)(hlo:Tryz.prog.globals.size≤W0.heap.size)
  (hEnd:∀ (ρ:Ren Tryz.prog) (A:Option Addr) (n c g:Nat) (A2:Option Addr) (n2 c2 g2 gl:Nat) (T':Array Value) (wp w:World),RhoOk ρ S0 M1→ARR ρ (T10c A n c g A2 n2 c2 g2 gl) T'→RS ρ wp w→Aft (ren0 Tryz.prog S0) W0 W0 ρ wp w →
   PB.Rd wp A n c (PB.bcells [0])→PB.Two wp g 24 (.int .i64 0) (.int .i64 0)→PB.Rd wp A2 n2 c2 (PB.bcells [97,97,97,97])→PB.Two wp g2 24 (.int .i64 0) (.int .i64 0) →
   Fin Tryz.prog PostF B q0 (G ((base 10).at ⟨T',[]⟩ [.code (K10 3)]) cs) w) :
  Fin Tryz.prog PostF B q0 (G (Frame.enter Tryz.prog 10 #[] .normal) cs) W0:=by
 rw[enter_at _ Tryz.func10 body10,ntmps10];have hpb:Plainb (base 10):=⟨rfl⟩
 have hu:ARR (ren0 Tryz.prog S0) (#[]++Array.replicate (68-(#[]:Array Value).size) undef) (#[]++Array.replicate (68-(#[]:Array Value).size) undef):=by
  have:(#[]++Array.replicate (68-(#[]:Array Value).size) undef:Array Value)=Array.replicate 68 undef:=by simp
  rw[this];exact ARR.replicate _ (.tuple rfl fun i v v' h=>by simp at h)
 have e0:=K10_seq 0 (by omega);have e1:=K10_seq 1 (by omega);have e2:=K10_seq 2 (by omega);rw[e0];refine kk7 rfl (fun w₁=>stepG_seq) fun w₁ r=>?_;obtain⟨d,rfl⟩:=r;refine kgc7 khz7 (its:=[.code (sq1 (K10 0))]) (k:=[.code (K10 1)]) (wp:=W0) (ρ:=ren0 Tryz.prog S0) (Q:=fun a w'=>a.tmps=T10a∧Grew W0 w') hpb (by
   intro it hit;obtain rfl:=List.mem_singleton.1 hit;exact ok10 0 (.inl rfl)) (ren0_ok S0 M1) (kgd7 (Q:=fun a w'=>a.tmps=T10a∧Grew W0 w') fun u=>r0_lone (tp W0 u)) hu ((rs_empty hlo hlo).at d) (fun _ _ h=>h.elim) hB ?_
 rintro ρ1 T1 T1' wp1 w1 u1 hr1 le1 ⟨hT1,g1⟩ ha1 hs1 af1;simp only at hT1;subst hT1;replace af1:Aft (ren0 Tryz.prog S0) W0 W0 ρ1 wp1 w1:=(Aft.at (ren0 Tryz.prog S0) W0 W0 d).trans af1;obtain⟨hB1,hBl1⟩:=aft_B af1 (fun _ _ h=>h.elim) hB;rw[e1];refine kk7 rfl (fun w₁=>stepG_seq) fun w₁ r=>?_;obtain⟨d1,rfl⟩:=r;refine kgc7 khz7 (its:=[.code (sq1 (K10 1))]) (k:=[.code (K10 2)]) (wp:=wp1) (ρ:=ρ1) (Q:=fun a w'=>∃ A n c g,a.tmps=T10b A n c g∧PB.Rd w' A n c (PB.bcells [0])∧PB.Two w' g 24 (.int .i64 0) (.int .i64 0)∧Grew wp1 w') hpb (by
   intro it hit;obtain rfl:=List.mem_singleton.1 hit;exact ok10 1 (.inr (.inl rfl))) hr1 (kgd7 (Q:=fun a w'=>∃ A n c g,a.tmps=T10b A n c g∧PB.Rd w' A n c (PB.bcells [0])∧PB.Two w' g 24 (.int .i64 0) (.int .i64 0)∧Grew wp1 w') fun u=>Code.wp_mono (fun e a w ⟨h1,h2,A,n,c,g,h3,h4,h5,h6⟩=>⟨h1,h2,A,n,c,g,h3,h4,h5,Grew.of (w:=tp wp1 u) h6⟩) (PB.r1_lone (tp wp1 u))) ha1 (hs1.at d1) hB1 hBl1 ?_
 rintro ρ2 T2 T2' wp2 w2 u2 hr2 le2 ⟨A,n,c,g,hT2,q1,q2,g2⟩ ha2 hs2 af2;simp only at hT2;subst hT2;replace af2:Aft (ren0 Tryz.prog S0) W0 W0 ρ2 wp2 w2:=(af1.trans (Aft.at ρ1 wp1 w1 d1)).trans af2;obtain⟨hB2,hBl2⟩:=aft_B af2 (fun _ _ h=>h.elim) hB;rw[e2];refine kk7 rfl (fun w₁=>stepG_seq) fun w₁ r=>?_;obtain⟨d2,rfl⟩:=r;refine kgc7 khz7 (its:=[.code (sq1 (K10 2))]) (k:=[.code (K10 3)]) (wp:=wp2) (ρ:=ρ2) (Q:=fun a w'=>∃ A2 n2 c2 g2 gl,a.tmps=T10c A n c g A2 n2 c2 g2 gl∧PB.Rd w' A2 n2 c2 (PB.bcells [97,97,97,97])∧PB.Two w' g2 24 (.int .i64 0) (.int .i64 0)∧Grew wp2 w') hpb (by
   intro it hit;obtain rfl:=List.mem_singleton.1 hit;exact ok10 2 (.inr (.inr rfl))) hr2 (kgd7 (Q:=fun a w'=>∃ A2 n2 c2 g2 gl,a.tmps=T10c A n c g A2 n2 c2 g2 gl∧PB.Rd w' A2 n2 c2 (PB.bcells [97,97,97,97])∧PB.Two w' g2 24 (.int .i64 0) (.int .i64 0)∧Grew wp2 w') fun u=>Code.wp_mono (fun e a w ⟨h1,h2,A2,n2,c2,g2,gl,h3,h4,h5,h6⟩=>⟨h1,h2,A2,n2,c2,g2,gl,h3,h4,h5,Grew.of (w:=tp wp2 u) h6⟩) (PB.r2_lone A n c g (tp wp2 u))) ha2 (hs2.at d2) hB2 hBl2 ?_
 rintro ρ3 T3 T3' wp3 w3 u3 hr3 le3 ⟨A2,n2,c2,g2',gl,hT3,q3,q4,g3⟩ ha3 hs3 af3;simp only at hT3;subst hT3;have p1:PB.Rd wp3 A n c (PB.bcells [0]):=PB.Rd.grew q1 g3;have p2:PB.Two wp3 g 24 (.int .i64 0) (.int .i64 0):=(g3.2 g (PB.Blk.lt (w:=wp2) q2)).trans q2;exact hEnd ρ3 A n c g A2 n2 c2 g2' gl T3' wp3 w3 hr3 ha3 hs3 ((af2.trans (Aft.at ρ2 wp2 w2 d2)).trans af3) p1 p2 q3 q4
end
end Cw
end
section
open Go.RowKit
attribute [local go_sem ↓] Go.wp_at_zero Go.wp_at_succ
namespace PB
open Cw (sq1 sq2)
set_option maxHeartbeats 40000000 in
theorem tail_lone{A A2 A3:Option Addr}{n c g n2 c2 g2 gl gm gr n3 c3:Nat}{w:World}(h1:Rd w A n c (bcells [0]))(f1:Two w g 24 (.int .i64 0) (.int .i64 0))(h2:Rd w A2 n2 c2 (bcells [97,97,97,97]))(f2:Two w g2 24 (.int .i64 0) (.int .i64 0))(h3:Rd w A3 n3 c3 (bcells [0]))(b3:One w gr 22 (.slice A3 n3 c3)) :
  wpOps Tryz.prog ops3 (fun e a w=>e=.normal∧(K10 4).wp Tryz.prog (bodyPost Tryz.prog Tryz.f10 fun e w=>∃ v,e=.returned v∧v=.bool true) a w) [2,3,4,5,6,7] ⟨T10d A n c g A2 n2 c2 g2 gl gm gr,[]⟩ w:=by
 have e1:([2,3,4,5,6,7]:List Nat)=List.range' 2 (ops3.toList.drop 2).length:=by kernel_rfl
 rw[e1,wpOps_eq_wpList (ops3.toList.drop 2) 2 (fun j=>by rw[List.getElem?_drop,Array.getElem?_toList])];dsimp only[ops3,K10,sq1,sq2,Tryz.f10,Option.getD_some,T10d,List.drop];have R1:=h1.alloc (.cells #[.int .i64 0,.int .i64 0] 24);have G1:=f1.alloc (.cells #[.int .i64 0,.int .i64 0] 24);have R2:=h2.alloc (.cells #[.int .i64 0,.int .i64 0] 24);have G2:=f2.alloc (.cells #[.int .i64 0,.int .i64 0] 24);have R3:=h3.alloc (.cells #[.int .i64 0,.int .i64 0] 24);have B3:=b3.alloc (.cells #[.int .i64 0,.int .i64 0] 24);have G3:=Two.new w 24 (.int .i64 0) (.int .i64 0);clear h1 f1 h2 f2 h3 b3
 go_wp2_with fail
 refine(unpack_nil_lone _).mono ?_;rintro e w1 ⟨A5,n5,c5,rfl,y1⟩;have R4:=(R1.on y1).alloc (.cells #[.int .i64 16,.int .i64 (-1)] 24);have G4:=(G1.on y1).alloc (.cells #[.int .i64 16,.int .i64 (-1)] 24);have R5:=(R2.on y1).alloc (.cells #[.int .i64 16,.int .i64 (-1)] 24);have G5:=(G2.on y1).alloc (.cells #[.int .i64 16,.int .i64 (-1)] 24);have R6:=(R3.on y1).alloc (.cells #[.int .i64 16,.int .i64 (-1)] 24);have B6:One _ gr _ _:=(Blk.on B3 y1).alloc (.cells #[.int .i64 16,.int .i64 (-1)] 24);have G6:=(G3.on y1).alloc (.cells #[.int .i64 16,.int .i64 (-1)] 24);have G7:=Two.new w1 24 (.int .i64 16) (.int .i64 (-1));clear R1 G1 R2 G2 R3 B3 G3 y1
 go_upto_region 5 with(fail)
 generalize w1.alloc (.cells #[.int .i64 16,.int .i64 (-1)] 24)=W at R4 G4 R5 G5 R6 B6 G6 G7 ⊢;have g40:W.cell? ⟨g,0,none⟩=some (.int .i64 0):=G4.c0;have g50:W.cell? ⟨g2,0,none⟩=some (.int .i64 0):=G5.c0;have g60:W.cell? ⟨w.heap.size,0,none⟩=some (.int .i64 0):=G6.c0;have g70:W.cell? ⟨w1.heap.size,0,none⟩=some (.int .i64 16):=G7.c0;have g71:W.cell? ⟨w1.heap.size,1,none⟩=some (.int .i64 (-1)):=G7.c1;have b60:W.cell? ⟨gr,0,none⟩=some (.slice A3 n3 c3):=B6.c0;have R4d:Rd W.drew A n c (bcells [0]):=R4;have R5d:Rd W.drew A2 n2 c2 (bcells [97,97,97,97]):=R5;have R6d:Rd W.drew A3 n3 c3 (bcells [0]):=R6;have G7d:Two W.drew w1.heap.size 24 (.int .i64 16) (.int .i64 (-1)):=G7;have X1:Rd (W.drew.alloc (.cells #[.int .u8 0] 5)) (some ⟨W.heap.size,0,none⟩) 1 1 (bcells [0]):=rd_lit W.drew rfl 5 [0] 1 rfl (by decide);have X2:Rd ((W.drew.alloc (.cells #[.int .u8 0] 5)).alloc (.cells #[.int .u8 97,.int .u8 97,.int .u8 97,.int .u8 97] 5 (4,5))) (some ⟨W.heap.size+1,0,none⟩) 4 4 (bcells [97,97,97,97]):=Rd.litM (W.drew.alloc (.cells #[.int .u8 0] 5)) (by simp) 5 #[.int .u8 97,.int .u8 97,.int .u8 97,.int .u8 97] (4,5) 4 rfl (by decide);have X3:Rd (((W.drew.alloc (.cells #[.int .u8 0] 5)).alloc (.cells #[.int .u8 97,.int .u8 97,.int .u8 97,.int .u8 97] 5 (4,5))).alloc (.cells #[.int .u8 0] 5)) (some ⟨W.heap.size+2,0,none⟩) 1 1 (bcells [0]):=rd_lit _ (by simp) 5 [0] 1 rfl (by decide)
 have C1:Hid (Calls Tryz.prog 11 #[.slice A n c,.slice (some ⟨W.heap.size,0,none⟩) 1 1] ((W.alloc (.cells #[.int .u8 0] 5)).drew) fun e w'=>e=.returned (.bool true)∧((W.alloc (.cells #[.int .u8 0] 5)).drew)=w'):=Lib.hid (kcy7 _ _ _ [0] _ _ _ [0] _ (R4d.alloc _) X1 (by intro k;rcases k with _|k<;>simp) (by intro k;rcases k with _|k<;>simp));have C2:Hid (Calls Tryz.prog 11 #[.slice A2 n2 c2,.slice (some ⟨W.heap.size+1,0,none⟩) 4 4] (((W.alloc (.cells #[.int .u8 0] 5)).alloc (.cells #[.int .u8 97,.int .u8 97,.int .u8 97,.int .u8 97] 5 (4,5))).drew) fun e w'=>e=.returned (.bool true)∧(((W.alloc (.cells #[.int .u8 0] 5)).alloc (.cells #[.int .u8 97,.int .u8 97,.int .u8 97,.int .u8 97] 5 (4,5))).drew)=w'):=Lib.hid (kcy7 _ _ _ [97,97,97,97] _ _ _ [97,97,97,97] _ ((R5d.alloc _).alloc _) X2 (by intro k;rcases k with _|_|_|_|k<;>simp) (by intro k;rcases k with _|_|_|_|k<;>simp))
 have C3:Hid (Calls Tryz.prog 11 #[.slice A3 n3 c3,.slice (some ⟨W.heap.size+2,0,none⟩) 1 1] ((((W.alloc (.cells #[.int .u8 0] 5)).alloc (.cells #[.int .u8 97,.int .u8 97,.int .u8 97,.int .u8 97] 5 (4,5))).alloc (.cells #[.int .u8 0] 5)).drew) fun e w'=>e=.returned (.bool true)∧((((W.alloc (.cells #[.int .u8 0] 5)).alloc (.cells #[.int .u8 97,.int .u8 97,.int .u8 97,.int .u8 97] 5 (4,5))).alloc (.cells #[.int .u8 0] 5)).drew)=w'):=Lib.hid (kcy7 _ _ _ [0] _ _ _ [0] _ (((R6d.alloc _).alloc _).alloc _) X3 (by intro k;rcases k with _|k<;>simp) (by intro k;rcases k with _|k<;>simp));have e30:Two ((((W.alloc (.cells #[.int .u8 0] 5)).alloc (.cells #[.int .u8 97,.int .u8 97,.int .u8 97,.int .u8 97] 5 (4,5))).alloc (.cells #[.int .u8 0] 5)).drew) g 24 (.int .i64 0) (.int .i64 0):=((G4.alloc (.cells #[.int .u8 0] 5)).alloc (.cells #[.int .u8 97,.int .u8 97,.int .u8 97,.int .u8 97] 5 (4,5))).alloc (.cells #[.int .u8 0] 5);have e31:Two ((((W.alloc (.cells #[.int .u8 0] 5)).alloc (.cells #[.int .u8 97,.int .u8 97,.int .u8 97,.int .u8 97] 5 (4,5))).alloc (.cells #[.int .u8 0] 5)).drew) g2 24 (.int .i64 0) (.int .i64 0):=((G5.alloc (.cells #[.int .u8 0] 5)).alloc (.cells #[.int .u8 97,.int .u8 97,.int .u8 97,.int .u8 97] 5 (4,5))).alloc (.cells #[.int .u8 0] 5)
 have e32:Two ((((W.alloc (.cells #[.int .u8 0] 5)).alloc (.cells #[.int .u8 97,.int .u8 97,.int .u8 97,.int .u8 97] 5 (4,5))).alloc (.cells #[.int .u8 0] 5)).drew) w.heap.size 24 (.int .i64 0) (.int .i64 0):=((G6.alloc (.cells #[.int .u8 0] 5)).alloc (.cells #[.int .u8 97,.int .u8 97,.int .u8 97,.int .u8 97] 5 (4,5))).alloc (.cells #[.int .u8 0] 5);have e33:One ((((W.alloc (.cells #[.int .u8 0] 5)).alloc (.cells #[.int .u8 97,.int .u8 97,.int .u8 97,.int .u8 97] 5 (4,5))).alloc (.cells #[.int .u8 0] 5)).drew) gr 22 (.slice A3 n3 c3):=((B6.alloc (.cells #[.int .u8 0] 5)).alloc (.cells #[.int .u8 97,.int .u8 97,.int .u8 97,.int .u8 97] 5 (4,5))).alloc (.cells #[.int .u8 0] 5);have e34:Two ((((W.alloc (.cells #[.int .u8 0] 5)).alloc (.cells #[.int .u8 97,.int .u8 97,.int .u8 97,.int .u8 97] 5 (4,5))).alloc (.cells #[.int .u8 0] 5)).drew) w1.heap.size 24 (.int .i64 16) (.int .i64 (-1)):=((G7.alloc (.cells #[.int .u8 0] 5)).alloc (.cells #[.int .u8 97,.int .u8 97,.int .u8 97,.int .u8 97] 5 (4,5))).alloc (.cells #[.int .u8 0] 5)
 have k30:((((W.alloc (.cells #[.int .u8 0] 5)).alloc (.cells #[.int .u8 97,.int .u8 97,.int .u8 97,.int .u8 97] 5 (4,5))).alloc (.cells #[.int .u8 0] 5)).drew).cell? ⟨g,0,none⟩=some (.int .i64 0):=(((G4.alloc (.cells #[.int .u8 0] 5)).alloc (.cells #[.int .u8 97,.int .u8 97,.int .u8 97,.int .u8 97] 5 (4,5))).alloc (.cells #[.int .u8 0] 5)).c0;have k31:((((W.alloc (.cells #[.int .u8 0] 5)).alloc (.cells #[.int .u8 97,.int .u8 97,.int .u8 97,.int .u8 97] 5 (4,5))).alloc (.cells #[.int .u8 0] 5)).drew).cell? ⟨g2,0,none⟩=some (.int .i64 0):=(((G5.alloc (.cells #[.int .u8 0] 5)).alloc (.cells #[.int .u8 97,.int .u8 97,.int .u8 97,.int .u8 97] 5 (4,5))).alloc (.cells #[.int .u8 0] 5)).c0;have k32:((((W.alloc (.cells #[.int .u8 0] 5)).alloc (.cells #[.int .u8 97,.int .u8 97,.int .u8 97,.int .u8 97] 5 (4,5))).alloc (.cells #[.int .u8 0] 5)).drew).cell? ⟨w.heap.size,0,none⟩=some (.int .i64 0):=(((G6.alloc (.cells #[.int .u8 0] 5)).alloc (.cells #[.int .u8 97,.int .u8 97,.int .u8 97,.int .u8 97] 5 (4,5))).alloc (.cells #[.int .u8 0] 5)).c0
 have k33:((((W.alloc (.cells #[.int .u8 0] 5)).alloc (.cells #[.int .u8 97,.int .u8 97,.int .u8 97,.int .u8 97] 5 (4,5))).alloc (.cells #[.int .u8 0] 5)).drew).cell? ⟨gr,0,none⟩=some (.slice A3 n3 c3):=(((B6.alloc (.cells #[.int .u8 0] 5)).alloc (.cells #[.int .u8 97,.int .u8 97,.int .u8 97,.int .u8 97] 5 (4,5))).alloc (.cells #[.int .u8 0] 5)).c0;have k34:((((W.alloc (.cells #[.int .u8 0] 5)).alloc (.cells #[.int .u8 97,.int .u8 97,.int .u8 97,.int .u8 97] 5 (4,5))).alloc (.cells #[.int .u8 0] 5)).drew).cell? ⟨w1.heap.size,0,none⟩=some (.int .i64 16):=(((G7.alloc (.cells #[.int .u8 0] 5)).alloc (.cells #[.int .u8 97,.int .u8 97,.int .u8 97,.int .u8 97] 5 (4,5))).alloc (.cells #[.int .u8 0] 5)).c0;have k35:((((W.alloc (.cells #[.int .u8 0] 5)).alloc (.cells #[.int .u8 97,.int .u8 97,.int .u8 97,.int .u8 97] 5 (4,5))).alloc (.cells #[.int .u8 0] 5)).drew).cell? ⟨w1.heap.size,1,none⟩=some (.int .i64 (-1)):=(((G7.alloc (.cells #[.int .u8 0] 5)).alloc (.cells #[.int .u8 97,.int .u8 97,.int .u8 97,.int .u8 97] 5 (4,5))).alloc (.cells #[.int .u8 0] 5)).c1;clear R4 R5 R6 B6 G4 G5 G6 G7 R4d R5d R6d G7d X1 X2 X3
 have hcv:Sem.run Tryz.prog (convert 22 22 (.slice (some ⟨W.heap.size+1,0,none⟩) 4 4)) (((W.alloc (.cells #[.int .u8 0] 5)).alloc (.cells #[.int .u8 97,.int .u8 97,.int .u8 97,.int .u8 97] 5)).drew)=.ok (.slice (some ⟨W.heap.size+1,0,none⟩) 4 4) (((W.alloc (.cells #[.int .u8 0] 5)).alloc (.cells #[.int .u8 97,.int .u8 97,.int .u8 97,.int .u8 97] 5 (4,5))).drew):=run_conv_g (W.drew.alloc (.cells #[.int .u8 0] 5)) (W.heap.size+1) #[.int .u8 97,.int .u8 97,.int .u8 97,.int .u8 97] 4 4 (by simp)
 go_region_held_law (fun w'=>w'.cell? ⟨g,0,none⟩=some (.int .i64 0)∧w'.cell? ⟨g2,0,none⟩=some (.int .i64 0)∧w'.cell? ⟨w.heap.size,0,none⟩=some (.int .i64 0)∧w'.cell? ⟨gr,0,none⟩=some (.slice A3 n3 c3)∧w'.cell? ⟨w1.heap.size,0,none⟩=some (.int .i64 16)∧w'.cell? ⟨w1.heap.size,1,none⟩=some (.int .i64 (-1))) (go_keep) (first
  | (go_at_call 11;first
   | ((with_reducible refine C1.out.mono ?_);rintro e w9 ⟨rfl,rfl⟩)
   | ((with_reducible refine C2.out.mono ?_);rintro e w9 ⟨rfl,rfl⟩)
   | ((with_reducible refine C3.out.mono ?_);rintro e w9 ⟨rfl,rfl⟩))
  | (go_at_call 15;refine(refat_any _ _ _).mono ?_;rintro e w9 ⟨rfl,y9⟩;have j0:=(e30.on y9).c0;have j1:=(e31.on y9).c0;have j2:=(e32.on y9).c0;have j3:=(Blk.on e33 y9);have j4:=(One.c0 j3);have j5:=(e34.on y9).c0;have j6:=(e34.on y9).c1))
 go_wp2
 go_ret
 rfl
end PB
end
section
namespace Cw
open Go Go.Conc Go.ConcN Rn Go.RowKit
open PB (K10 T10c T10d ops3)
theorem K10_3:K10 3=.seq (.region 3 ops3 false) (K10 4):=by kernel_rfl
theorem ops3_size:List.range ops3.size=[0,1,2,3,4,5,6,7]:=by kernel_rfl
theorem ok10_4:okCode Tryz.prog S0 M1 (K10 4)=true:=by kernel_rfl
theorem ops3_rest:([2,3,4,5,6,7]:List Nat).all (fun i=>match ops3[i]? with|some o=>okOp Tryz.prog S0 M1 o.op|none=>true)=true:=by kernel_rfl
theorem ok_ops3:∀ it∈([.inRegion ops3 [2,3,4,5,6,7],.code (K10 4)]:List Item),okItem Tryz.prog S0 M1 it:=by
 intro it hit;simp only[List.mem_cons,List.not_mem_nil,or_false] at hit;rcases hit with rfl|rfl
 ·intro i hi o ho;have h:=(List.all_eq_true.1 ops3_rest) i hi;rw[ho] at h;exact h
 ·exact ok10_4
theorem pack_nil(W:World):Calls Tryz.prog 20 #[.slice none 0 0,.slice none 0 0] W fun e w'=>∃ v,e=.returned v∧∃ A' n' c',v=.slice A' n' c'∧PB.Rd w' A' n' c' (PB.bcells [0])∧Below W.heap.size W w':=by
 have nil:PB.Rd W none 0 0 (PB.bcells []):=PB.Reads.nil _ _ none 0 (Nat.zero_le _);refine(PB.pack_any nil nil (by decide) (by decide) (by simp) (by simp)).mono ?_;rintro e w' ⟨A',n',c',ts,rfl,hT,ho,hb⟩;have h1:PB.pk1 []=[0]:=by
  unfold PB.pk1;rw[if_neg]
  ·unfold PB.fr1;simp
 have h2:PB.pk2 [] ts=[0]:=by
  unfold PB.pk2;rw[h1,if_neg]
  ·unfold PB.fr2;simp
 rw[h2] at ho;exact⟨_,rfl,A',n',c',rfl,PB.Rd.own ho,hb⟩
def ResN(wpM:World)(c:Nat)(v:Value)(V:Nat→Prop)(w:World):Prop :=
 ∃ (ρ:Ren Tryz.prog) (A':Option Addr) (n' c':Nat) (wp:World),RhoOk ρ S0 M1∧(∀ b,¬ρ.shut b)∧VR ρ (.slice A' n' c') v∧PB.Rd wp A' n' c' (PB.bcells [0])∧Grew wpM wp ∧
  (∀ b b',ρ.rel b b'→V b'∧wpM.heap.size≤b∧b<wp.heap.size∧∃ o o',wp.heap[b]?=some o∧w.heap[b']?=some o'∧OR ρ o o')
theorem resN_keep{wpM:World}:∀ c v V w w',ResN wpM c v V w→(∀ b,V b→w'.heap[b]?=w.heap[b]?)→ResN wpM c v V w':=by
 rintro c v V w w' ⟨ρ,A',n',c',wp,h1,h2,h3,h4,h5,h6⟩ hk;refine⟨ρ,A',n',c',wp,h1,h2,h3,h4,h5,fun b b' hb=>?_⟩;obtain⟨k1,k2,k3,o,o',k4,k5,k6⟩:=h6 b b' hb;exact⟨k1,k2,k3,o,o',k4,(hk b' k1).trans k5,k6⟩
theorem packG_nil{wpM W0:World}(hp:Tryz.prog.globals.size≤wpM.heap.size)(hl:Tryz.prog.globals.size≤W0.heap.size){C Wg c:Nat}{F R:Nat→Prop} :
  PackG C Wg 1 c (.slice none 0 0) (.slice none 0 0) (fun _=>False) F R (fun w=>(∀ b,False→Exa W0 w b)∧W0.heap.size≤w.heap.size) (ResN wpM):=by
 refine⟨fun w hk=>⟨S0,M1,ren0 Tryz.prog S0,#[.slice none 0 0,.slice none 0 0],wpM,fun v w'=>∃ A' n' c',v=.slice A' n' c'∧PB.Rd w' A' n' c' (PB.bcells [0])∧Grew wpM w',khz7,by kernel_rfl,ren0_ok S0 M1,?_,?_,rs_empty hp (Nat.le_trans hl hk.2),⟨fun b b' h=>h.elim,fun b b' h=>h.elim⟩,fun csr=>⟨_,Obs.none (fun _ h=>h),trivial⟩,?_⟩⟩
 ·exact ARR.push (xs:=#[.slice none 0 0]) (xs':=#[.slice none 0 0]) (ARR.one (.snone 0 0)) (.snone 0 0)
 ·intro u;refine(pack_nil (tp wpM u)).mono ?_;rintro e w' ⟨v,rfl,A',n',c',rfl,h1,h2⟩;exact⟨_,rfl,A',n',c',rfl,h1,Grew.of (w:=tp wpM u) h2⟩
 ·rintro ρ1 v v' wp1 w1 V1 u hle ⟨A',n',c',rfl,hr,hg⟩ hv hrs hin hlie hnew;refine⟨⟨ρ1,A',n',c',wp1,(ren0_ok S0 M1).mono hle,fun b hb=>((hle.shut b).1 hb).elim,hv,hr,hg,fun b b' hb=>?_⟩,?_⟩
  ·have h1:¬ρ1.shut b:=fun h=>((hle.shut b).1 h).elim;obtain⟨o,o',e1,e2,e3⟩:=hrs.both.obj hb (hrs.full hb);exact⟨hin.own b b' hb h1,(hnew b b' hb).resolve_left fun h=>h.elim,hrs.full hb,o,o',e1,e2,e3⟩
  ·cases hv with
   | snone l c=>exact⟨_,_,_,rfl⟩
   | slice l c h=>exact⟨_,_,_,rfl⟩
section
variable {PostF:Value→World→Prop}{B:Nat→Prop}{q0:Nat}
theorem rs_res{wpM wp w:World}{ρ:Ren Tryz.prog}{V:Nat→Prop}(hlo:Tryz.prog.globals.size≤wp.heap.size)(hlr:Tryz.prog.globals.size≤w.heap.size)(hs:∀ b,¬ρ.shut b)
  (h:∀ b b',ρ.rel b b'→V b'∧wpM.heap.size≤b∧b<wp.heap.size∧∃ o o',wp.heap[b]?=some o∧w.heap[b']?=some o'∧OR ρ o o'):RS ρ wp w:=by
 refine⟨⟨fun {b b'} hb _=>?_,fun {b b'} hb hge=>?_,fun {b} hb=>(hs b hb).elim⟩,fun {b b'} hb=>(h b b' hb).2.2.1,hlo,hlr⟩
 ·obtain⟨_,_,_,o,o',e1,e2,e3⟩:=h b b' hb;exact⟨o,o',e1,e2,e3⟩
 ·have:=(h b b' hb).2.2.1;omega
theorem t10d(A:Option Addr)(n c g:Nat)(A2:Option Addr)(n2 c2 g2 gl gm gr:Nat) :
 ((T10c A n c g A2 n2 c2 g2 gl).setIfInBounds 19 (.slice (some ⟨gm,0,none⟩) 1 1)).setIfInBounds 20 (.tuple #[.slice (some ⟨gr,0,none⟩) 1 1,.agg #[.int .i64 0,.int .i64 0]])=T10d A n c g A2 n2 c2 g2 gl gm gr:=rfl
structure Left0(W0 w:World):Prop where
 size:W0.heap.size≤w.heap.size
 old:∀ b,b<W0.heap.size→w.heap[b]?=W0.heap[b]?
 os:w.os=W0.os
 tape:w.tape=W0.tape
 output:w.output=W0.output
abbrev o30:Oper:=({ dst:=some 19,op:=Op.buildSlice 35 1 #[(0,Operand.const (Value.slice none 0 0))],type:=35,pos := "pack.go:150",after:=#[],guard:=none }:Oper)
abbrev o31:Oper:=({ dst:=some 20,op:=Op.call { callee:=Callee.value (Operand.func 17),args:=#[Operand.tmp 19,Operand.const (Value.slice none 0 0)],argTypes:=#[35,22] },type:=36,pos := "pack.go:150",after:=#[{ on:=0,ground:=Ground.data }],guard:=none }:Oper)
theorem ops3_0:ops3[0]?=some o30:=by kernel_rfl
theorem ops3_1:ops3[1]?=some o31:=by kernel_rfl
theorem hf10:Tryz.prog.funcs[10]?=some Tryz.f10:=Tryz.func10
theorem packs_mid{c:Frame}{cs:List Frame}{W0:World}(hB:∀ b,B b→b<W0.heap.size)(hlo:Tryz.prog.globals.size≤W0.heap.size)
  {ρ:Ren Tryz.prog}{A:Option Addr}{n k g:Nat}{A2:Option Addr}{n2 k2 g2 gl:Nat}{T':Array Value}{wp w:World} (hρ:RhoOk ρ S0 M1) (ha:ARR ρ (T10c A n k g A2 n2 k2 g2 gl) T') (hs:RS ρ wp w) (haft:Aft (ren0 Tryz.prog S0) W0 W0 ρ wp w)
  (p1:PB.Rd wp A n k (PB.bcells [0])) (p2:PB.Two wp g 24 (.int .i64 0) (.int .i64 0)) (p3:PB.Rd wp A2 n2 k2 (PB.bcells [97,97,97,97])) (p4:PB.Two wp g2 24 (.int .i64 0) (.int .i64 0))
  (hq:q0+1<2147483648)
  (hEnd:∀ (w':World) (N:Nat),W0.heap.size≤N→N<w'.heap.size→Left0 W0 w'→Fin Tryz.prog PostF (fun b=>B b∨b=N) (q0+1) (G (c.finish (.bool true)) cs) w') :
  Fin Tryz.prog PostF B q0 (G ((base 10).at ⟨T',[]⟩ [.code (K10 3)]) (c::cs)) w:=by
 obtain⟨hB1,hBl1⟩:=aft_B haft (fun _ _ h=>h.elim) hB;have hns:∀ b,¬ρ.shut b:=fun b h=>(haft.le.shut b).1 h;have hsT:T'.size=68:=ha.size.symm;have hnew:∀ b b',ρ.rel b b'→W0.heap.size≤b':=fun b b' hb=>(haft.new hb).elim (fun h=>h.elim) fun h=>h.2;rw[K10_3];refine kk7 rfl (fun w₁=>stepG_seq) fun w₁ r=>?_;obtain⟨d1,rfl⟩:=r;refine kk7 rfl (fun w₁=>stepG_region) fun w₁ r=>?_;obtain⟨d2,rfl⟩:=r;rw[ops3_size];refine kfs7 (o:=o30) (ob:=.cells #[.slice none 0 0] 22) (v:=fun w=>.slice (some ⟨w.heap.size,0,none⟩) 1 1) ops3_0 (by rfl) (by decide) (fun w₁ r=>by constructor<;>simp[go_sem,Act.eval]) fun w₁ r=>?_;obtain⟨d3,rfl⟩:=r;have hs1:RS ρ wp (((w.at d1).at d2).at d3):=((hs.at d1).at d2).at d3;have haft1:Aft (ren0 Tryz.prog S0) W0 W0 ρ wp (((w.at d1).at d2).at d3):=((haft.trans (Aft.at ρ wp w d1)).trans (Aft.at ρ wp _ d2)).trans (Aft.at ρ wp _ d3);have hwl:w.heap.size=(((w.at d1).at d2).at d3).heap.size:=rfl;generalize ((w.at d1).at d2).at d3=wr at hs1 haft1 hwl ⊢;rw[hwl] at hBl1;clear hs haft hwl w;have hfull:∀ b b',ρ.rel b b'→b<wp.heap.size∧b'<wr.heap.size:=fun b b' hb=>⟨hs1.full hb,hs1.fullr hb⟩
 have hx:∀ b b',ρ.rel b b'→b≠wp.heap.size∧b'≠wr.heap.size:=fun b b' hb=>by have:=hfull b b' hb;omega
 simp only[Act.put];refine fin_enter (o:=o31) (f:=17) (fn:=Tryz.f17) (c:=K17 0) (vs:=#[.slice (some ⟨wr.heap.size,0,none⟩) 1 1,.slice none 0 0]) ops3_1 (by rfl) (by decide) rfl Tryz.func17 (by kernel_rfl) body17 (by simp[Act.eval,hsT]) fun w₁ r=>?_;obtain⟨d4,rfl⟩:=r;obtain⟨wc,hwc⟩:∃ wc,wc=(wr.alloc (.cells #[.slice none 0 0] 22)).at d4:=⟨_,rfl⟩
 rw[←hwc];have csz:wc.heap.size=wr.heap.size+1:=by
  have h:(wr.alloc (.cells #[.slice none 0 0] 22)).heap.size=wr.heap.size+1:=by simp
  rw[hwc];exact h
 have cold:∀ b,b<wr.heap.size→wc.heap[b]?=wr.heap[b]?:=fun b hb=>by rw[hwc];exact Below.heap_alloc wr _ b hb
 have cnew:wc.heap[wr.heap.size]?=some (.cells #[.slice none 0 0] 22):=by rw[hwc];exact heap_alloc_new wr _
 have cos:wc.os=wr.os∧wc.tape=wr.tape∧wc.output=wr.output:=by rw[hwc];exact⟨rfl,rfl,rfl⟩
 clear hwc;have hs2:RS ρ wp wc:=rs_real hs1 (fun b b' hb=>cold b' (hfull b b' hb).2) (by omega);have hlr:Tryz.prog.globals.size≤wr.heap.size:=hs1.lowr;have hs3:=rs_import hs2 hns wr.heap.size hx hlr cnew (.cells (c:=#[.slice none 0 0]) (f:=(0,0)) 22 (ARR.one (.snone 0 0)) (.inl rfl));obtain⟨wpM,hwpM⟩:∃ x,x=wp.alloc (.cells #[.slice none 0 0] 22):=⟨_,rfl⟩
 rw[←hwpM] at hs3;have gM:Grew wp wpM:=by rw[hwpM];exact⟨by simp,fun b hb=>Below.heap_alloc wp _ b hb⟩
 have szM:wpM.heap.size=wp.heap.size+1:=by rw[hwpM];simp
 clear hwpM;have hC:CallP (some ⟨wr.heap.size,0,none⟩) 1 1 (fun _=>.slice none 0 0) none 0 0 B (fun _=>False) (fun _=>False) (ResN wpM) wc:=by
  refine⟨by decide,fun _=>⟨_,rfl⟩,fun j ad hj e=>?_,fun ad e _ hb=>?_,fun j _=>⟨none,0,0,rfl,by decide⟩,by decide,fun b hb=>?_,fun b hb=>hb.elim,fun b hb=>hb.elim,resN_keep,fun C Wg Bd Bo c Bb Bi _ _ _=>?_⟩
  ·cases e;obtain rfl:j=0:=by omega
   simp[World.cell?,Addr.add,cnew]
  ·cases e;exact absurd (hBl1 _ hb) (Nat.lt_irrefl _)
  ·have:=hBl1 b hb;omega
  ·exact packG_nil hs3.lowp (by rw[csz];omega)
 refine packall_fin (q0:=q0) hC hq fun w' V hL=>?_;have ef:=Frame.finish_at (base 10) ⟨T'.setIfInBounds 19 (.slice (some ⟨wr.heap.size,0,none⟩) 1 1),[]⟩ ops3 1 [2,3,4,5,6,7] [.code (K10 4)] (.tuple #[.slice (some ⟨wc.heap.size+2,0,none⟩) 1 1,.agg #[.int .i64 0,.int .i64 0]]);rw[ops3_1] at ef;simp only[Option.bind_some,Act.put] at ef;rw[ef];clear ef;obtain⟨v0,hhas,ρ1,A',n',c',wp1,hρ1,hns1,hv0,hr1,hg1,hrel1⟩:=hL.has 0 (by decide);obtain⟨pcs,hpay,hpsz⟩:=hL.pay;have hpcs:pcs=#[v0]:=by
  have h0:pcs[0]?=some v0:=by
   unfold Has World.cell? at hhas
   simpa [hpay] using hhas
  apply Array.ext_getElem?;intro i;rcases i with _|i
  ·simpa using h0
  ·rw[Array.getElem?_eq_none (by omega),Array.getElem?_eq_none (by simp)]
 subst hpcs;have hsz':=hL.size;have hs4:=rs_real hs3 (w':=w') (fun b b' hb=>hL.old b' (hs3.fullr hb) (by simp)) (by omega);have hns3:∀ b,¬(addPair ρ wp.heap.size wr.heap.size hx hs2.lowp hlr).shut b:=hns;have hs5:=rs_ghost hs4 hg1.2 hg1.1 hns3;have hlp1:Tryz.prog.globals.size≤wp1.heap.size:=hs5.lowp;have hw1:=rs_res (wpM:=wpM) hlp1 hs5.lowr hns1 hrel1;have hd:∀ a a' b b',(addPair ρ wp.heap.size wr.heap.size hx hs2.lowp hlr).rel a a'→ρ1.rel b b'→a≠b∧a'≠b':=by
  intro a a' b b' ha hb;have q1:=hs3.full ha;have q2:=hs3.fullr ha;obtain⟨r1,r2,r3,_⟩:=hrel1 b b' hb;have r4:=hL.vs 0 b' (by decide) r1;omega
 have hok:∀ f,(addPair ρ wp.heap.size wr.heap.size hx hs2.lowp hlr).ok f↔ρ1.ok f:=fun f=>(hρ.ok f).trans (hρ1.ok f).symm;have hs6:=rs_join hs5 hw1 hd hns3 hns1 hok;obtain⟨ρ6,hρ6e⟩:∃ x,x=joinR (addPair ρ wp.heap.size wr.heap.size hx hs2.lowp hlr) ρ1 hd:=⟨_,rfl⟩
 have le3:Le (addPair ρ wp.heap.size wr.heap.size hx hs2.lowp hlr) ρ6:=by rw[hρ6e];exact le_joinL hd
 have le1:Le ρ1 ρ6:=by rw[hρ6e];exact le_joinR hd hns3 hns1 hok
 have le0:Le ρ ρ6:=(kge7 (ρ:=ρ) wp.heap.size wr.heap.size hx hs2.lowp hlr).trans le3;have hrel6:∀ b b',ρ6.rel b b'→(ρ.rel b b'∨b'=wr.heap.size)∨V 0 b':=by
  intro b b' hb;rw[hρ6e] at hb;rcases hb with(hb|⟨_,hb⟩)|hb
  ·exact .inl (.inl hb)
  ·exact .inl (.inr hb)
  ·exact .inr (hrel1 b b' hb).1
 have hns6:∀ b,¬ρ6.shut b:=fun b hb=>hns3 b ((le3.shut b).1 hb);have hρ6:RhoOk ρ6 S0 M1:=hρ.mono le0;rw[←hρ6e] at hs6;clear hρ6e hd hok hw1 hs5 hs4;have h19:ρ6.rel wp.heap.size wr.heap.size:=le3.rel (.inr ⟨rfl,rfl⟩);have hC2:wc.heap.size+2<w'.heap.size:=by omega
 have hx6:∀ b b',ρ6.rel b b'→b≠wp1.heap.size∧b'≠wc.heap.size+2:=by
  intro b b' hb;have q1:=hs6.full hb;refine⟨by omega,?_⟩;rcases hrel6 b b' hb with(h|h)|h
  ·have:=hfull b b' h;omega
  ·omega
  ·have:=hL.vs 0 b' (by decide) h;omega
 have hs7:=rs_import hs6 hns6 (wc.heap.size+2) hx6 (by omega) hpay (.cells (c:=#[.slice A' n' c']) (f:=(0,0)) 22 (ARR.one (hv0.mono (le1.trans (kge7 _ _ hx6 _ _)))) (.inl rfl));have le7:=kge7 (ρ:=ρ6) wp1.heap.size (wc.heap.size+2) hx6 hs6.lowp (by omega);have h20:(addPair ρ6 wp1.heap.size (wc.heap.size+2) hx6 hs6.lowp (by omega)).rel wp1.heap.size (wc.heap.size+2):=.inr ⟨rfl,rfl⟩;generalize hρ7:addPair ρ6 wp1.heap.size (wc.heap.size+2) hx6 hs6.lowp _=ρ7 at hs7 le7 h20;have hrel7:∀ b b',ρ7.rel b b'→((ρ.rel b b'∨b'=wr.heap.size)∨V 0 b')∨b'=wc.heap.size+2:=by
  intro b b' hb;rw[←hρ7] at hb;rcases hb with hb|⟨_,hb⟩
  ·exact .inl (hrel6 b b' hb)
  ·exact .inr hb
 clear hρ7;have ha7:ARR ρ7 (T10d A n k g A2 n2 k2 g2 gl wp.heap.size wp1.heap.size) ((T'.setIfInBounds 19 (.slice (some ⟨wr.heap.size,0,none⟩) 1 1)).setIfInBounds 20 (.tuple #[.slice (some ⟨wc.heap.size+2,0,none⟩) 1 1,.agg #[.int .i64 0,.int .i64 0]])):=by
  rw[←t10d];refine((ha.mono (le0.trans le7)).set 19 (.slice 1 1 (AR.at (le7.rel h19) 0 none))).set 20 (VR.tuple' ?_);refine ARR.push (xs:=#[_]) (xs':=#[_]) (ARR.one (.slice 1 1 (AR.at h20 0 none))) (VR.agg' ?_);exact ARR.push (xs:=#[_]) (xs':=#[_]) (ARR.one (.int .i64 0)) (.int .i64 0)
 obtain⟨N,hN⟩:∃ N,N=wc.heap.size+4:=⟨_,rfl⟩
 rw[←hN];have gA:Grew wp wp1:=⟨Nat.le_trans gM.1 hg1.1,fun b hb=>(hg1.2 b (Nat.lt_of_lt_of_le hb gM.1)).trans (gM.2 b hb)⟩
 have gB:Grew wp1 (wp1.alloc (.cells #[.slice A' n' c'] 22)):=⟨by simp,fun b hb=>Below.heap_alloc wp1 _ b hb⟩
 have gC:Grew wp (wp1.alloc (.cells #[.slice A' n' c'] 22)):=⟨Nat.le_trans gA.1 gB.1,fun b hb=>(gB.2 b (Nat.lt_of_lt_of_le hb gA.1)).trans (gA.2 b hb)⟩
 have hnB:∀ b b',ρ7.rel b b'→¬(B b'∨b'=N):=by
  rintro b b' hb (hbb|rfl)
  ·have:=hBl1 b' hbb;rcases hrel7 b b' hb with((h|h)|h)|h
   ·exact hB1 b b' h hbb
   ·omega
   ·have:=hL.vs 0 b' (by decide) h;omega
   ·omega
  ·rcases hrel7 b _ hb with((h|h)|h)|h
   ·have:=hfull b _ h;omega
   ·omega
   ·have:=hL.vs 0 _ (by decide) h;omega
   ·omega
 have hlB:∀ b,(B b∨b=N)→b<w'.heap.size:=by
  rintro b (hb|rfl)
  ·have:=hBl1 b hb;omega
  ·omega
 refine fin_tail khz7 (b:=base 10) (its:=[.inRegion ops3 [2,3,4,5,6,7],.code (K10 4)]) (r:=0) (Q:=fun v _=>v=.bool true) ⟨rfl⟩ ok_ops3 (hρ6.mono le7)
  (tail_of_body (fn:=Tryz.f10) rfl fun u=>(PB.tail_lone (w:=tp (wp1.alloc (.cells #[.slice A' n' c'] 22)) u) (PB.Rd.grew p1 gC) ((gC.2 g (PB.Blk.lt p2)).trans p2) (PB.Rd.grew p3 gC) ((gC.2 g2 (PB.Blk.lt p4)).trans p4) (PB.Rd.grew hr1 gB) (heap_alloc_new wp1 _)))
  ha7 hs7 hnB hlB ?_
 intro ρ8 v T8 wp8 w8 u todo hρ8 le8 hQ hv8 hs8 haft8;subst hQ;refine fin_back ⟨rfl⟩ hf10 (r:=0) rfl fun w9 r9=>?_;obtain⟨d9,rfl⟩:=r9;have hres:T8.getD 0 undef=.bool true:=by
  generalize T8.getD 0 undef=x at hv8;cases hv8;rfl
 rw[hres];have hsz8:=haft8.sizer;refine hEnd _ N (by have:=haft1.sizer;omega) (by show N<w8.heap.size;omega) ⟨?_,fun b hb=>?_,?_,?_,?_⟩
 ·have:=haft1.sizer;show W0.heap.size≤w8.heap.size;omega
 ·have h1:=haft1.sizer;have e8:w8.heap[b]?=w'.heap[b]?:=haft8.others b (by omega) fun b2 hb2=>by
   rcases hrel7 b2 b hb2 with((h|h)|h)|h
   ·have:=hnew b2 b h;omega
   ·omega
   ·have:=hL.vs 0 b (by decide) h;omega
   ·omega
  have e7:=hL.old b (by omega) (by simp);have e6:=cold b (by omega);have e5:=haft1.others b hb fun b2 h=>h.elim;show w8.heap[b]?=W0.heap[b]?;rw[e8,e7,e6,e5]
 ·show w8.os=W0.os;rw[haft8.os,hL.os,cos.1,haft1.os]
 ·show w8.tape=W0.tape;rw[haft8.tape,hL.tape,cos.2.1,haft1.tape]
 ·show w8.output=W0.output;rw[haft8.output,hL.output,cos.2.2,haft1.output]
theorem packs_fin{c:Frame}{cs:List Frame}{W0:World}(hB:∀ b,B b→b<W0.heap.size)(hlo:Tryz.prog.globals.size≤W0.heap.size)(hq:q0+1<2147483648)
  (hEnd:∀ (w':World) (N:Nat),W0.heap.size≤N→N<w'.heap.size→Left0 W0 w'→Fin Tryz.prog PostF (fun b=>B b∨b=N) (q0+1) (G (c.finish (.bool true)) cs) w') :
  Fin Tryz.prog PostF B q0 (G (Frame.enter Tryz.prog 10 #[] .normal) (c::cs)) W0 :=
 packs_pre hB hlo fun ρ A n k g A2 n2 k2 g2 gl T' wp w hρ ha hs haft p1 p2 p3 p4=>packs_mid hB hlo hρ ha hs haft p1 p2 p3 p4 hq hEnd
end
end Cw
end
section
namespace Cw
open Go Go.Conc Go.ConcN Rn
theorem junk_ex:∀ v:Value,∃ g:Value,(∀ {P:Program} (ρ:Ren P),VR ρ g v)∧(((∃ k n,v=.int k n)∨∃ l c,v=.slice none l c)→g=v)∧(¬Stiff g→∀ {P:Program} (ρ:Ren P) (v':Value),VR ρ g v'→v'=v)
 | .bool b=>⟨.bool b,fun ρ=>.bool b,by simp,fun _ P ρ v' h=>by cases h;rfl⟩
 | .int k n=>⟨.int k n,fun ρ=>.int k n,fun _=>rfl,fun _ P ρ v' h=>by cases h;rfl⟩
 | .float k n=>⟨.float k n,fun ρ=>.float k n,by simp,fun _ P ρ v' h=>by cases h;rfl⟩
 | .complex k x y=>⟨.complex k x y,fun ρ=>.complex k x y,by simp,fun _ P ρ v' h=>by cases h;rfl⟩
 | .string s=>⟨.string s,fun ρ=>.string s,by simp,fun _ P ρ v' h=>by cases h;rfl⟩
 | .pointer none=>⟨.pointer none,fun ρ=>.pnone,by simp,fun _ P ρ v' h=>by cases h;rfl⟩
 | .pointer (some a)=>⟨.tuple #[],fun ρ=>.wild rfl,by simp,fun h=>absurd (.inl ⟨_,rfl⟩) h⟩
 | .slice none l c=>⟨.slice none l c,fun ρ=>.snone l c,fun _=>rfl,fun _ P ρ v' h=>by cases h;rfl⟩
 | .slice (some a) l c=>⟨.tuple #[],fun ρ=>.wild rfl,by simp,fun h=>absurd (.inl ⟨_,rfl⟩) h⟩
 | .map none=>⟨.map none,fun ρ=>.mnone,by simp,fun _ P ρ v' h=>by cases h;rfl⟩
 | .map (some r)=>⟨.tuple #[],fun ρ=>.wild rfl,by simp,fun h=>absurd (.inl ⟨_,rfl⟩) h⟩
 | .chan none=>⟨.chan none,fun ρ=>.cnone,by simp,fun _ P ρ v' h=>by cases h;rfl⟩
 | .chan (some r)=>⟨.tuple #[],fun ρ=>.wild rfl,by simp,fun h=>absurd (.inl ⟨_,rfl⟩) h⟩
 | .func (.func f) a b=>⟨.tuple #[],fun ρ=>.wild rfl,by simp,fun h=>absurd (.inl ⟨_,rfl⟩) h⟩
 | .func (.methodOf t n) a b=>⟨.tuple #[],fun ρ=>.wild rfl,by simp,fun h=>absurd (.inl ⟨_,rfl⟩) h⟩
 | .func (.via t p f q) a b=>⟨.tuple #[],fun ρ=>.wild rfl,by simp,fun h=>absurd (.inl ⟨_,rfl⟩) h⟩
 | .func (.yield n) a b=>⟨.tuple #[],fun ρ=>.wild rfl,by simp,fun h=>absurd (.inl ⟨_,rfl⟩) h⟩
 | .func (.method n) a b=>⟨.func (.method "") #[.nilIface,.func (.method n) a b] #[],fun ρ=>.wildM n a b,by simp,fun _ P ρ v' h=>by cases h;rfl⟩
 | .nilFunc=>⟨.nilFunc,fun ρ=>.nilFunc,by simp,fun _ P ρ v' h=>by cases h;rfl⟩
 | .iface t v=>⟨.tuple #[],fun ρ=>.wild rfl,by simp,fun h=>absurd (.inl ⟨_,rfl⟩) h⟩
 | .nilIface=>⟨.nilIface,fun ρ=>.nilIface,by simp,fun _ P ρ v' h=>by cases h;rfl⟩
 | .tuple cs=>⟨.tuple #[],fun ρ=>.wild rfl,by simp,fun h=>absurd (.inl ⟨_,rfl⟩) h⟩
 | .agg cs=>by
  have ih:∀ i:_root_.Fin cs.size,∃ g:Value,∀ {P:Program} (ρ:Ren P),VR ρ g cs[i]:=fun i=>by
   obtain⟨g,h,_⟩:=junk_ex cs[i];exact⟨g,h⟩
  refine⟨.agg (Array.ofFn fun i:_root_.Fin cs.size=>Classical.choose (ih i)),fun {P} ρ=>.agg (by simp) fun i v v' h1 h2=>?_,by simp,fun h=>absurd (.inr ⟨_,rfl⟩) h⟩;obtain⟨hi,rfl⟩:=Array.getElem?_eq_some_iff.1 h2;rw[Array.getElem?_ofFn,dif_pos hi] at h1;cases h1;exact Classical.choose_spec (ih ⟨i,hi⟩) ρ
termination_by v=>SizeOf.sizeOf v
decreasing_by
 have:=Array.sizeOf_getElem cs i.1 i.2;simp only[Fin.getElem_fin,Value.agg.sizeOf_spec];omega
noncomputable def junk(v:Value):Value:=Classical.choose (junk_ex v)
theorem junk_vr{P:Program}(ρ:Ren P)(v:Value):VR ρ (junk v) v:=(Classical.choose_spec (junk_ex v)).1 ρ
theorem junk_int(k:IntKind)(n:Int):junk (.int k n)=.int k n:=(Classical.choose_spec (junk_ex (.int k n))).2.1 (.inl ⟨k,n,rfl⟩)
theorem junk_eq{P:Program}{ρ:Ren P}{v v':Value}(hs:¬Stiff (junk v))(h:VR ρ (junk v) v'):v'=v:=(Classical.choose_spec (junk_ex v)).2.2 hs ρ v' h
section
variable {P:Program}
open Classical in
noncomputable def junkS(S:Nat→Prop)(v:Value):Value:=if ∃ a l c,v=.slice (some a) l c∧S a.block then v else junk v
theorem junkS_int(S:Nat→Prop)(k:IntKind)(n:Int):junkS S (.int k n)=.int k n:=by
 unfold junkS;rw[if_neg (by rintro⟨a,l,c,h,_⟩;cases h)];exact junk_int k n
open Classical in
noncomputable def veilObj(S:Nat→Prop)(b:Nat)(o:Obj):Obj:=if S b then(match o with|.cells c t f=>.cells (c.map (junkS S)) t f|o=>o) else o
noncomputable def veil(S:Nat→Prop)(w:World):World:={ w with heap:=w.heap.mapIdx fun b o=>veilObj S b o }
theorem veil_heap(S:Nat→Prop)(w:World)(b:Nat):(veil S w).heap[b]?=(w.heap[b]?).map (veilObj S b):=by
 simp[veil,Array.getElem?_mapIdx]
theorem ker7(S:Nat→Prop)(w:World):(veil S w).heap.size=w.heap.size:=by simp[veil]
theorem veil_row{S:Nat→Prop}{w:World}{b:Nat}{c:Array Value}{t:TypeId}{f:Nat×Nat}(hS:S b)(h:w.heap[b]?=some (.cells c t f)):(veil S w).heap[b]?=some (.cells (c.map (junkS S)) t f):=by
 rw[veil_heap,h];simp[veilObj,hS]
theorem veil_cell{S:Nat→Prop}{w:World}{a:Addr}{k:IntKind}{n:Int}(h:w.cell? a=some (.int k n)):(veil S w).cell? a=some (.int k n):=by
 unfold World.cell? at h ⊢;rw[veil_heap];cases hb:w.heap[a.block]? with
 | none=>rw[hb] at h;cases h
 | some o =>
  rw[hb] at h;cases o with
  | cells c t f =>
   simp only at h
   split at h
   ·cases h
   ·rename_i hs
    by_cases hS:S a.block
    ·simp only[Option.map_some,veilObj,if_pos hS];rw[if_neg hs,Array.getElem?_map,h];simp[junkS_int]
    ·simp only[Option.map_some,veilObj,if_neg hS];rw[if_neg hs];exact h
  | _=>cases h
theorem rd_veil{S:Nat→Prop}{w:World}{A:Option Addr}{n c:Nat}{bs:List Nat}(h:PB.Rd w A n c (PB.bcells bs)):PB.Rd (veil S w) A n c (PB.bcells bs):=by
 obtain⟨h1,h2,h3,h4⟩:=h;refine⟨h1,h2,h3,fun hn=>?_⟩;obtain⟨b,off,e,hb,hc⟩:=h4 hn;refine⟨b,off,e,by rw[ker7];exact hb,fun j u hu=>?_⟩;have hi:∃ x:Int,u=.int .u8 x:=by
  unfold PB.bcells at hu;rw[List.getElem?_map] at hu;obtain⟨x,_,rfl⟩:=Option.map_eq_some_iff.1 hu;exact⟨_,rfl⟩
 obtain⟨x,rfl⟩:=hi;exact veil_cell (hc j _ hu)
def renA(P:Program)(F:Nat→Bool)(S:Nat→Prop)(hS:∀ b,S b→P.globals.size≤b):Ren P where
 rel b b':=S b∧b'=b
 inj:=by
  rintro a a' b b' ⟨_,rfl⟩ ⟨_,rfl⟩;exact Iff.rfl
 low:=by
  rintro a a' ⟨h,rfl⟩;exact⟨hS _ h,hS _ h⟩
 shut _:=False
 ok f:=F f=true
theorem renA_ok{F:Nat→Bool}{S:Nat→Prop}{hS:∀ b,S b→P.globals.size≤b}(M:List String):RhoOk (renA P F S hS) F M:=⟨fun _=>Iff.rfl,fun _ _ h=>h⟩
theorem junkS_vr{F:Nat→Bool}{S:Nat→Prop}(hS:∀ b,S b→P.globals.size≤b)(v:Value):VR (renA P F S hS) (junkS S v) v:=by
 unfold junkS
 split
 ·rename_i h
  obtain⟨a,l,c,rfl,h⟩:=h;exact .slice l c ⟨⟨h,rfl⟩,rfl,rfl⟩
 ·exact junk_vr _ _
theorem junkS_eq{F:Nat→Bool}{S:Nat→Prop}{hS:∀ b,S b→P.globals.size≤b}{ρ:Ren P}(hle:Le (renA P F S hS) ρ){v v':Value}(hs:¬Stiff (junkS S v))(h:VR ρ (junkS S v) v'):v'=v:=by
 unfold junkS at hs h
 split at h
 ·rename_i hx
  obtain⟨a,l,c,rfl,hx⟩:=hx;cases h with
  | @slice _ a' _ _ ha =>
   have e1:ρ.rel a.block a.block:=hle.rel ⟨hx,rfl⟩;have e2:a'.block=a.block:=((ρ.inj ha.block e1).1 rfl)
   obtain⟨b,o,s⟩:=a;obtain⟨b',o',s'⟩:=a';have e3:=ha.off;have e4:=ha.spot;simp only at e2 e3 e4;subst e2 e3 e4;rfl
 ·rename_i hx
  rw[if_neg hx] at hs;exact junk_eq hs h
theorem frLe_refl(f:Nat×Nat):FrLe f f:=by
 unfold FrLe;by_cases h:f.1=f.2
 ·exact .inl h
 ·exact .inr ⟨h,Nat.le_refl _,Nat.le_refl _⟩
theorem rs_veil{F:Nat→Bool}{S:Nat→Prop}{hS:∀ b,S b→P.globals.size≤b}{w:World}(hrow:∀ b,S b→∃ c t f,w.heap[b]?=some (.cells c t f))(hlo:P.globals.size≤w.heap.size):RS (renA P F S hS) (veil S w) w:=by
 have lt:∀ b,S b→b<w.heap.size:=fun b h=>by
  obtain⟨c,t,f,e⟩:=hrow b h;exact(Array.getElem?_eq_some_iff.1 e).1
 refine⟨⟨fun {b b'} h _=>?_,fun {b b'} h hge=>?_,fun h=>h.elim⟩,fun {b b'} h=>by rw[ker7];exact lt b h.1,by rw[ker7];exact hlo,hlo⟩
 ·obtain⟨h,rfl⟩:=h;obtain⟨c,t,f,e⟩:=hrow _ h;refine⟨_,_,veil_row h e,e,.cells t ⟨by simp,fun i v v' h1 h2=>?_⟩ (frLe_refl f)⟩;rw[Array.getElem?_map,h2] at h1;cases h1;exact junkS_vr _ _
 ·rw[ker7] at hge;have:=lt b h.1;omega
theorem veil_exact{F:Nat→Bool}{S:Nat→Prop}{hS:∀ b,S b→P.globals.size≤b}{W:World}(hrow:∀ b,S b→∃ c t f,W.heap[b]?=some (.cells c t f))
  {ρ:Ren P}{wp w:World} (haft:Aft (renA P F S hS) (veil S W) W ρ wp w) (hrs:RS ρ wp w) (hg:∀ b,b<W.heap.size→wp.heap[b]?=(veil S W).heap[b]?) :
  ∀ b,b<W.heap.size→w.heap[b]?=W.heap[b]?:=by
 intro b hb;by_cases hs:S b
 ·obtain⟨c,t,f,e⟩:=hrow b hs;have hr0:(renA P F S hS).rel b b:=⟨hs,rfl⟩
  have hr:=haft.le.rel hr0;obtain⟨o,o',e1,e2,ho⟩:=hrs.both.obj hr (hrs.full hr);rw[hg b hb,veil_row hs e] at e1;cases e1;obtain⟨c2,f2,e3,hup⟩:=haft.up b c t f e;rw[e2] at e3;cases e3;cases ho with
  | cells t hc hf =>
   have hf2:=hup.eq hf;subst hf2;have hcc:c2=c:=by
    refine Array.ext_getElem? fun i=>?_;have hsz:=hc.size;rw[Array.size_map] at hsz;rcases Nat.lt_or_ge i c.size with hi|hi
    ·have hv:c[i]?=some c[i]:=Array.getElem?_eq_getElem hi;have hv2:c2[i]?=some (c2[i]'(by omega)):=Array.getElem?_eq_getElem (by omega);have hg1:(c.map (junkS S))[i]?=some (junkS S c[i]):=by rw[Array.getElem?_map,hv];rfl
     by_cases hst:Stiff (junkS S c[i])
     ·obtain⟨_,hk⟩:=haft.keep b b i hr0 (by rw[ker7];exact hb) ⟨_,_,_,_,(hg b hb).trans (veil_row hs e),hg1,hst⟩;unfold cellAt at hk;rw[e2,e] at hk;exact hk
     ·rw[hv2,hv,junkS_eq haft.le hst (hc.get i _ _ hg1 hv2)]
    ·rw[Array.getElem?_eq_none hi,Array.getElem?_eq_none (by omega)]
   subst hcc;rw[e2,e]
 ·exact haft.others b hb fun b0 h0=>hs (h0.2 ▸ h0.1)
end
end Cw
end
section
namespace Cw
open Go Go.Conc Go.ConcN Rn Go.RowKit
open PB (K10)
theorem Grew.trans{a b c:World}(h:Grew a b)(k:Grew b c):Grew a c:=⟨Nat.le_trans h.1 k.1,fun i hi=>(k.2 i (Nat.lt_of_lt_of_le hi h.1)).trans (h.2 i hi)⟩
theorem Grew.on_veil{S:Nat→Prop}{W w:World}(h:Grew (veil S W) w):∀ b,b<W.heap.size→w.heap[b]?=(veil S W).heap[b]?:=fun b hb=>h.2 b (by rw[ker7];exact hb)
theorem wanted_free{o:Oper}{y:Nat→Option Bool}(h:o.guard=none):Region.wanted o y=true:=by
 unfold Region.wanted;rw[h]
theorem eval_bool{ρ:Ren Tryz.prog}{T T':Array Value}{k:Nat}{t:Bool}(h:ARR ρ T T')(e:T[k]?=some (.bool t)):(⟨T',[]⟩:Act).eval (.tmp k)=.bool t:=by
 rcases h.get? k with⟨e1,_⟩|⟨v,v',e1,e2,hv⟩
 ·rw[e] at e1;cases e1
 ·rw[e] at e1;cases e1;cases hv;simp[Act.eval,kf7 e2]
def ArgS(A A2:Option Addr)(b:Nat):Prop:=(∃ a,A=some a∧a.block=b)∨∃ a,A2=some a∧a.block=b
def ArgOk(W:World)(A:Option Addr):Prop:=∀ a,A=some a→Tryz.prog.globals.size≤a.block∧∃ c t f,W.heap[a.block]?=some (.cells c t f)
theorem args_low{W:World}{A A2:Option Addr}(h:ArgOk W A)(h2:ArgOk W A2):∀ b,ArgS A A2 b→Tryz.prog.globals.size≤b:=by
 rintro b (⟨a,e,rfl⟩|⟨a,e,rfl⟩)
 ·exact(h a e).1
 ·exact(h2 a e).1
theorem args_row{W:World}{A A2:Option Addr}(h:ArgOk W A)(h2:ArgOk W A2):∀ b,ArgS A A2 b→∃ c t f,W.heap[b]?=some (.cells c t f):=by
 rintro b (⟨a,e,rfl⟩|⟨a,e,rfl⟩)
 ·exact(h a e).2
 ·exact(h2 a e).2
theorem slice_vr{S:Nat→Prop}{hS:∀ b,S b→Tryz.prog.globals.size≤b}{A:Option Addr}(n c:Nat)(h:∀ a,A=some a→S a.block):VR (renA Tryz.prog S0 S hS) (.slice A n c) (.slice A n c):=by
 cases A with
 | none=>exact .snone n c
 | some a=>exact .slice n c ⟨⟨h a rfl,rfl⟩,rfl,rfl⟩
theorem args_arr{A A2:Option Addr}{n c n2 c2 m:Nat}{hS:∀ b,ArgS A A2 b→Tryz.prog.globals.size≤b} :
  ARR (renA Tryz.prog S0 (ArgS A A2) hS) (#[.slice A n c,.slice A2 n2 c2]++Array.replicate m undef) (#[.slice A n c,.slice A2 n2 c2]++Array.replicate m undef):=by
 refine ARR.append ?_ (ARR.replicate _ (.tuple rfl fun i v v' h=>by simp at h));exact ARR.push (xs:=#[_]) (xs':=#[_]) (ARR.one (slice_vr n c fun a e=>.inl ⟨a,e,rfl⟩)) (slice_vr n2 c2 fun a e=>.inr ⟨a,e,rfl⟩)
structure Gh(S:Nat→Prop)(hS:∀ b,S b→Tryz.prog.globals.size≤b)(W:World)(B:Nat→Prop)(ρ:Ren Tryz.prog)(wp w:World):Prop where
 rs:RS ρ wp w
 aft:Aft (renA Tryz.prog S0 S hS) (veil S W) W ρ wp w
 nb:∀ b b',ρ.rel b b'→¬B b'
 bl:∀ b,B b→b<w.heap.size
section
variable {S:Nat→Prop}{hS:∀ b,S b→Tryz.prog.globals.size≤b}{W:World}{B:Nat→Prop}{ρ:Ren Tryz.prog}{wp w:World}
theorem Gh.rho(h:Gh S hS W B ρ wp w):RhoOk ρ S0 M1:=(renA_ok M1).mono h.aft.le
theorem Gh.at(h:Gh S hS W B ρ wp w)(d:Nat):Gh S hS W B ρ wp (w.at d):=⟨h.rs.at d,h.aft.trans (Aft.at ρ wp w d),h.nb,h.bl⟩
theorem Gh.atRel(h:Gh S hS W B ρ wp w){w₁:World}(r:AtRel w w₁):Gh S hS W B ρ wp w₁:=by obtain⟨d,rfl⟩:=r;exact h.at d
theorem Gh.go(h:Gh S hS W B ρ wp w){ρ2:Ren Tryz.prog}{wp2 w2:World}(hs:RS ρ2 wp2 w2)(ha:Aft ρ wp w ρ2 wp2 w2):Gh S hS W B ρ2 wp2 w2:=by
 obtain⟨h1,h2⟩:=aft_B ha h.nb h.bl;exact⟨hs,h.aft.trans ha,h1,h2⟩
theorem Gh.begin(hrow:∀ b,S b→∃ c t f,W.heap[b]?=some (.cells c t f))(hlo:Tryz.prog.globals.size≤W.heap.size):Gh S hS W (fun _=>False) (renA Tryz.prog S0 S hS) (veil S W) W :=
 ⟨rs_veil hrow hlo,Aft.refl _ _ _,fun _ _ _ h=>h,fun _ h=>h.elim⟩
theorem Gh.left(h:Gh S hS W B ρ wp w){w':World}(L:Left0 w w'){N:Nat}(h1:w.heap.size≤N)(h2:N<w'.heap.size):Gh S hS W (fun b=>B b∨b=N) ρ wp w':=by
 have hl:∀ b b',ρ.rel b b'→b'<w.heap.size:=fun b b' hb=>h.rs.fullr hb;refine⟨rs_real h.rs (fun b b' hb=>L.old b' (hl b b' hb)) L.size,⟨h.aft.le,fun hb=>h.aft.new hb,h.aft.size,Nat.le_trans h.aft.sizer L.size,fun b' hb hn=>(L.old b' (Nat.lt_of_lt_of_le hb h.aft.sizer)).trans (h.aft.others b' hb hn),h.aft.sealG,fun b b' hs hr=>hs.elim,L.tape.trans h.aft.tape,L.os.trans h.aft.os,L.output.trans h.aft.output,h.aft.up.trans fun b c t f e=>⟨c,f,(L.old b (Array.getElem?_eq_some_iff.1 e).1).trans e,.inl rfl⟩,fun b b' i hr hb hx=>?_⟩,fun b b' hb=>?_,fun b hb=>?_⟩
 ·obtain⟨k1,k2⟩:=h.aft.keep b b' i hr hb hx;exact⟨k1,(khb7 (L.old b' (hl b b' (h.aft.le.rel hr)))).trans k2⟩
 ·rintro(hbb|rfl)
  ·exact h.nb b b' hb hbb
  ·have:=hl b _ hb;omega
 ·rcases hb with hb|rfl
  ·exact Nat.lt_of_lt_of_le (h.bl b hb) L.size
  ·exact h2
variable {PostF:Value→World→Prop}{q0:Nat}{b:Frame}{k:List Item}{cs:List Frame}{T T':Array Value}
theorem gh_code(hg:Gh S hS W B ρ wp w)(hb:Plainb b){c1:Code}(hc:okCode Tryz.prog S0 M1 c1=true){Q:Array Value→World→Prop}(hT:ARR ρ T T')
  (hlone:∀ u,c1.wp Tryz.prog (fun e a w'=>e=.normal∧a.defers=[]∧Q a.tmps w') ⟨T,[]⟩ (tp wp u))
  (hEnd:∀ (ρ2:Ren Tryz.prog) (T1 T1':Array Value) (wp2 w2:World) (u:Nat→Question→Nat),Gh S hS W B ρ2 wp2 w2→Q T1 (tp wp2 u)→ARR ρ2 T1 T1'→Fin Tryz.prog PostF B q0 (G (b.at ⟨T1',[]⟩ k) cs) w2) :
  Fin Tryz.prog PostF B q0 (G (b.at ⟨T',[]⟩ (.code c1::k)) cs) w:=by
 have:=kgc7 (PostF:=PostF) (q0:=q0) (cs:=cs) khz7 (its:=[.code c1]) (k:=k) (wp:=wp) (ρ:=ρ) (Q:=fun a w'=>Q a.tmps w') hb (by
  intro it hit;obtain rfl:=List.mem_singleton.1 hit;exact hc) hg.rho (kgd7 (Q:=fun a w'=>Q a.tmps w') hlone) hT hg.rs hg.nb hg.bl (by
  rintro ρ2 T1 T1' wp2 w2 u hr le hQ ha hs haft;exact hEnd ρ2 T1 T1' wp2 w2 u (hg.go hs haft) hQ ha)
 exact this
theorem gh_seq(hg:Gh S hS W B ρ wp w)(hb:Plainb b){c1 c2:Code}(hc:okCode Tryz.prog S0 M1 c1=true){Q:Array Value→World→Prop}(hT:ARR ρ T T')
  (hlone:∀ u,c1.wp Tryz.prog (fun e a w'=>e=.normal∧a.defers=[]∧Q a.tmps w') ⟨T,[]⟩ (tp wp u))
  (hEnd:∀ (ρ2:Ren Tryz.prog) (T1 T1':Array Value) (wp2 w2:World) (u:Nat→Question→Nat),Gh S hS W B ρ2 wp2 w2→Q T1 (tp wp2 u)→ARR ρ2 T1 T1'→Fin Tryz.prog PostF B q0 (G (b.at ⟨T1',[]⟩ (.code c2::k)) cs) w2) :
  Fin Tryz.prog PostF B q0 (G (b.at ⟨T',[]⟩ (.code (.seq c1 c2)::k)) cs) w:=by
 refine kk7 rfl (fun w₁=>stepG_seq) fun w₁ r=>?_;exact gh_code (hg.atRel r) hb hc hT hlone hEnd
theorem gh_ops(hg:Gh S hS W B ρ wp w)(hb:Plainb b){ops:Array Oper}{rest:List Nat}(hc:rest.all (fun i=>match ops[i]? with|some o=>okOp Tryz.prog S0 M1 o.op|none=>true)=true){Q:Array Value→World→Prop}(hT:ARR ρ T T')
  (hlone:∀ u,wpOps Tryz.prog ops (fun e a w'=>e=.normal∧a.defers=[]∧Q a.tmps w') rest ⟨T,[]⟩ (tp wp u))
  (hEnd:∀ (ρ2:Ren Tryz.prog) (T1 T1':Array Value) (wp2 w2:World) (u:Nat→Question→Nat),Gh S hS W B ρ2 wp2 w2→Q T1 (tp wp2 u)→ARR ρ2 T1 T1'→Fin Tryz.prog PostF B q0 (G (b.at ⟨T1',[]⟩ k) cs) w2) :
  Fin Tryz.prog PostF B q0 (G (b.at ⟨T',[]⟩ (.inRegion ops rest::k)) cs) w:=by
 have:=kgc7 (PostF:=PostF) (q0:=q0) (cs:=cs) khz7 (its:=[.inRegion ops rest]) (k:=k) (wp:=wp) (ρ:=ρ) (Q:=fun a w'=>Q a.tmps w') hb (by
  intro it hit;obtain rfl:=List.mem_singleton.1 hit;intro i hi o ho;have h:=(List.all_eq_true.1 hc) i hi;rw[ho] at h;exact h) hg.rho (piece_ops (Q:=fun a w'=>Q a.tmps w') hlone) hT hg.rs hg.nb hg.bl (by
  rintro ρ2 T1 T1' wp2 w2 u hr le hQ ha hs haft;exact hEnd ρ2 T1 T1' wp2 w2 u (hg.go hs haft) hQ ha)
 exact this
theorem kiu7(hg:Gh S hS W B ρ wp w){g g':Goroutine}(hr:g.status=.running)(hs:∀ w₁,stepG Tryz.prog true g w₁=.go g' w₁ #[])(h:∀ w₁,Gh S hS W B ρ wp w₁→Fin Tryz.prog PostF B q0 g' w₁):Fin Tryz.prog PostF B q0 g w :=
 kk7 hr hs fun w₁ r=>h w₁ (hg.atRel r)
theorem gh_packs(hg:Gh S hS W B ρ wp w)(hk:b.kind≠.early){ops:Array Oper}{i:Nat}{rest:List Nat}{o:Oper}{d:Nat}(ho:ops[i]?=some o)(hw:Region.wanted o (yielded ops T')=true)(hd:o.dst=some d)
  (hop:o.op=.call { callee:=.value (.func 10),args:=#[],argTypes:=#[] }) (hq:q0+1<2147483648) (hT:ARR ρ T T')
  (hEnd:∀ (w':World) (N:Nat),Gh S hS W (fun b=>B b∨b=N) ρ wp w'→ARR ρ (T.setIfInBounds d (.bool true)) (T'.setIfInBounds d (.bool true))→Fin Tryz.prog PostF (fun b=>B b∨b=N) (q0+1) (G (b.at ⟨T'.setIfInBounds d (.bool true),[]⟩ (.inRegion ops rest::k)) cs) w') :
  Fin Tryz.prog PostF B q0 (G (b.at ⟨T',[]⟩ (.inRegion ops (i::rest)::k)) cs) w:=by
 refine fin_enter (fn:=Tryz.f10) (c:=K10 0) (vs:=#[]) ho hw hk hop hf10 (by kernel_rfl) body10 (by simp) fun w₁ r=>?_;have hg1:=hg.atRel r;refine packs_fin hg1.bl hg1.rs.lowr hq fun w' N h1 h2 L=>?_;have ef:=Frame.finish_at b ⟨T',[]⟩ ops i rest k (.bool true);rw[ho] at ef;simp only[Option.bind_some,hd,Act.put] at ef;rw[ef];exact hEnd w' N (hg1.left L h1 h2) (hT.set d (.bool true))
structure Same(W w:World):Prop where
 size:W.heap.size≤w.heap.size
 old:∀ b,b<W.heap.size→w.heap[b]?=W.heap[b]?
 os:w.os=W.os
 tape:w.tape=W.tape
 output:w.output=W.output
theorem gh_done(hrow:∀ b,S b→∃ c t f,W.heap[b]?=some (.cells c t f))(hg:Gh S hS W B ρ wp w)(hb:Plainb b){fn:Func}(hf:Tryz.prog.funcs[b.fn]?=some fn)(hi:Tryz.prog.inits.idxOf? b.fn=none){r:Nat}(hr:fn.results=#[.tmp r]){todo:List Item}
  (hT:ARR ρ T T') (hres:T.getD r undef=.bool true) (hold:∀ b,b<W.heap.size→wp.heap[b]?=(veil S W).heap[b]?) :
  Fin Tryz.prog (fun v w'=>v=.bool true∧Same W w') B q0 (G { b.at ⟨T',[]⟩ todo with mode:=.returning } []) w:=by
 refine fin_done hb hf hi hr fun w₁ r1=>?_;have hg1:=hg.atRel r1;have hv:=vr_getD hT r;rw[hres] at hv;have e:T'.getD r undef=.bool true:=by
  generalize T'.getD r undef=x at hv;cases hv;rfl
 exact⟨e,hg1.aft.sizer,veil_exact hrow hg1.aft hg1.rs hold,hg1.aft.os,hg1.aft.tape,hg1.aft.output⟩
end
end Cw
end
section
namespace PB
open Go Go.RowKit
theorem Rd.le_max{w:World}{A:Option Addr}{n c:Nat}{xs:List Value}(h:Rd w A n c xs):n≤maxLen:=by
 obtain⟨_,h2,h3,_⟩:=h;exact Nat.le_trans h2 h3
end PB
end
section
open Go.RowKit
attribute [local go_sem ↓] Go.wp_at_zero Go.wp_at_succ
namespace PB
def szf(n most n2:Nat):Int×Int:=if most<n then(3,-1) else if 512<n2 then(3,-2) else(0,0)
theorem sizefault_any{A A2:Option Addr}{n c n2 c2 most:Nat}(hm:most≤2000)(hn:n≤maxLen)(hn2:n2≤maxLen)(w:World)(F:Int×Int)(hF:F=szf n most n2) :
  Calls Tryz.prog 9 #[.slice A n c,.int .i64 (most:Nat),.slice A2 n2 c2] w fun e w'=>e=.returned (.agg #[.int .i64 F.1,.int .i64 F.2])∧Below w.heap.size w w':=by
 unfold maxLen at hn hn2;have F0:=Two.new w 24 (.int .i64 0) (.int .i64 0);have y0:=(Below.refl w.heap.size w).alloc (Nat.le_refl _) (.cells #[.int .i64 0,.int .i64 0] 24);by_cases h1:most<n
 ·have h1z:(most:Int)<(n:Int):=by omega
  have hF2:F=(3,-1):=by rw[hF,szf,if_pos h1]
  subst hF2;clear hF
  go_enter Tryz.func9,Tryz.ntmps9
  go_wp2_with fail
  refine(refat_any _ _ _).mono ?_;rintro e w1 ⟨rfl,y1⟩;have F1:=F0.on y1;have Y1:=y0.trans (y1.mono y0.size);obtain⟨f0,f1,f2,f3,f4⟩:=F1.facts;have F2:=(F1.set0 (.int .i64 3)).set1 (.int .i64 (-1));have r0:=F2.c0;have r1:=F2.c1;clear y1 F0
  go_wp2
  exact bodyPost_ret (v:=.agg #[.int .i64 3,.int .i64 (-1)]) (by simp[results,Tryz.results9,go_sem,r0,r1]) rfl ⟨rfl,(Y1.setCell (p:=⟨w.heap.size,0,none⟩) (Nat.le_refl _) _).setCell (p:=⟨w.heap.size,1,none⟩) (Nat.le_refl _) _⟩
 ·have h1z:¬(most:Int)<(n:Int):=by omega
  by_cases h2:512<n2
  ·have h2z:(512:Int)<(n2:Int):=by omega
   have hF2:F=(3,-2):=by rw[hF,szf,if_neg h1,if_pos h2]
   subst hF2;clear hF
   go_enter Tryz.func9,Tryz.ntmps9
   go_wp2_with fail
   refine(refat_any _ _ _).mono ?_;rintro e w1 ⟨rfl,y1⟩;have F1:=F0.on y1;have Y1:=y0.trans (y1.mono y0.size);obtain⟨f0,f1,f2,f3,f4⟩:=F1.facts;have F2:=(F1.set0 (.int .i64 3)).set1 (.int .i64 (-2));have r0:=F2.c0;have r1:=F2.c1;clear y1 F0
   go_wp2
   exact bodyPost_ret (v:=.agg #[.int .i64 3,.int .i64 (-2)]) (by simp[results,Tryz.results9,go_sem,r0,r1]) rfl ⟨rfl,(Y1.setCell (p:=⟨w.heap.size,0,none⟩) (Nat.le_refl _) _).setCell (p:=⟨w.heap.size,1,none⟩) (Nat.le_refl _) _⟩
  ·have h2z:¬(512:Int)<(n2:Int):=by omega
   have hF2:F=(0,0):=by rw[hF,szf,if_neg h1,if_neg h2]
   subst hF2;clear hF
   go_enter Tryz.func9,Tryz.ntmps9
   have r0:=F0.c0;have r1:=F0.c1
   go_wp2
   exact bodyPost_ret (v:=.agg #[.int .i64 0,.int .i64 0]) (by simp[results,Tryz.results9,go_sem,r0,r1]) rfl ⟨rfl,y0⟩
theorem ncells_snoc(l:List Nat)(x:Nat):ncells (l++[x])=ncells l++[.int .i64 (x:Nat)]:=by rw[kas7];rfl
theorem steps_any{lo hi p:Int}{b:Nat}(h:Wid lo hi)(h1:1≤p)(h2:p≤4095)(hb:b≤1)(LO HI:Int)(R:List Nat)(hLO:LO=(stp lo hi b p).1)(hHI:HI=(stp lo hi b p).2.1)(hR:R=(stp lo hi b p).2.2)(bi:Int)(hbi:bi=(b:Nat))(w:World) :
  Calls Tryz.prog 48 #[.int .i64 lo,.int .i64 hi,.int .i64 bi,.int .i64 p] w fun e w'=>∃ A n c,e=.returned (.tuple #[.int .i64 LO,.int .i64 HI,.slice A n c])∧R.length=n∧w'.ownsRow w.heap.size 3 1 (.slice A n c) n (ncells R)∧Below w.heap.size w w':=by
 obtain⟨i0,hi0,hz0,hz1,hz2⟩:=info_parts kce7;have hr0:=part_rng b h h1 h2;obtain⟨st1,st2,st3,st4⟩:=kch7 b h h1 h2;obtain⟨l2,hl2⟩:∃ l2,l2=(partOf lo hi b p).1:=⟨_,rfl⟩
 obtain⟨u2,hu2⟩:∃ u2,u2=(partOf lo hi b p).2:=⟨_,rfl⟩
 have hD0:dbl 20 l2 u2=(LO,HI,R):=by rw[hl2,hu2,hLO,hHI,hR];rfl
 have HD0:=Lib.hid hD0;have HR0:=Lib.hid (show Rng l2 u2 by rw[hl2,hu2];exact hr0);have HF0:=Lib.hid (show 65536<(u2-l2+1)*(2:Int) ^ 20 by
  obtain⟨r1,r2,r3⟩:=hr0;have e:(2:Int) ^ 20=1048576:=by decide
  rw[e,hl2,hu2];omega)
 obtain⟨sp,hsp⟩:∃ sp,sp=splitOf lo hi p:=⟨_,rfl⟩
 have HSP:=Lib.hid (fun(W:World)=>split_any h h1 h2 sp hsp W);have hs1:=split_in h h1 h2;rw[←hsp] at hs1;obtain⟨hs1a,hs1b⟩:=hs1;obtain⟨hw1,hw2,hw3,hw4,hw5⟩:=h;have hP:if b=1 then l2=lo∧u2=sp else l2=sp+1∧u2=hi:=by
  rw[hl2,hu2];unfold partOf;rw[←hsp];split<;>exact⟨rfl,rfl⟩
 clear hw5 hl2 hu2 hD0 hR hLO hHI st1 st2 st3 st4 hr0 hsp h1 h2;rcases(by omega:b=1∨b=0) with rfl|rfl
 ·obtain⟨rfl,rfl⟩:=hP;subst hbi;have k1:(((1:Nat):Int) == 1)=true:=rfl
  go_enter Tryz.func48,Tryz.ntmps48
  go_wp2_with fail
  refine(HSP.out _).mono ?_;rintro e w9 ⟨rfl,rfl⟩
  go_wp2_with fail
  go_loopw [0,1,11,12] (fun lv uv s _ wr=>∃ (l u:Int) (f m:Nat) (rest out:List Nat) (A':Option Addr) (c':Nat),Rng l u∧dbl f l u=(LO,HI,rest)∧65536<(u-l+1)*(2:Int) ^ f∧out++rest=R∧m=out.length∧m+f=20 ∧
    lv=.int .i64 l∧uv=.int .i64 u∧s=.slice A' m c'∧Below w.heap.size w wr∧wr.ownsRow w.heap.size 3 1 (.slice A' m c') m (ncells out)) (fun lv uv _ _ _=>(65536-(intOf uv-intOf lv)).toNat)
  case atStart=>exact⟨_,_,20,0,R,[],none,0,HR0.out,HD0.out,HF0.out,rfl,rfl,rfl,rfl,rfl,rfl,Below.refl _ _,World.ownsRow_nil _ _ _ _⟩
  case round =>
   obtain⟨l,u,f,m,rest,out,A',c',hrg,hd,hf,hs,hm,hmf,rfl,rfl,rfl,yr,ho⟩:=hrel;have HD:=Lib.hid hd;have HF:=Lib.hid hf;have HS1:=Lib.hid hs;have HRG:=Lib.hid hrg;have HO:=Lib.hid ho;have HM:=Lib.hid hm;have HMF:=Lib.hid hmf;have hys:=yr.size;obtain⟨rg1,rg2,rg3⟩:=hrg;clear hd hf hs ho hm hmf;rcases khf7 HRG.out with⟨hn,hW⟩|⟨k,hk,hk2,hR'⟩
   ·have HTW:=Lib.hid (fun(W:World)=>khg7 (lo:=l) (hi:=u) (-1) (by rw[hn]) W);have e1:=HD.out;rw[dbl_none hn] at e1;injection e1 with e1 e2;injection e2 with e2 e3;subst e1 e2 e3;have HB:=Lib.hid (show out=R by have:=HS1.out;simpa using this);clear hn hW
    go_wp2_with fail
    refine(HTW.out _).mono ?_;rintro e w9 ⟨rfl,rfl⟩
    go_wp2
    go_ret3
    exact⟨A',m,c',rfl,by rw[←HB.out];exact HM.out.symm,by rw[←HB.out];exact HO.out,yr⟩
   ·obtain⟨g,rfl⟩:=fuel_pos HRG.out HF.out;have hd1:=HD.out;rw[dbl_some hk] at hd1;injection hd1 with e1 e2;injection e2 with e2 e3;obtain⟨l',hl'⟩:∃ l',l'=2*(l-16384*(k:Int)):=⟨_,rfl⟩
    obtain⟨u',hu'⟩:∃ u',u'=2*(u-16384*(k:Int))+1:=⟨_,rfl⟩
    rw[←hl',←hu'] at e1 e2 e3 hR';obtain⟨rest',hrest⟩:∃ r,r=(dbl g l' u').2.2:=⟨_,rfl⟩
    have HD2:=Lib.hid (show dbl g l' u'=(LO,HI,rest') by rw[←e1,←e2,hrest]);rw[←hrest] at e3;subst e3;have HF2:=Lib.hid (show 65536<(u'-l'+1)*(2:Int) ^ g by have:=fuel_next (k:=k) HF.out;rwa [←hl',←hu'] at this);have HL2:=Lib.hid hR';have HTW:=Lib.hid (fun(W:World)=>khg7 (lo:=l) (hi:=u) (k:Nat) (by rw[hk]) W);have hmm:u'-l'=2*(u-l)+1:=by rw[hl',hu'];omega
    have hm20:m<20:=by have:=HMF.out;omega
    have HBC:=Lib.hid (ncells_snoc out k);obtain⟨n1,n2,n3⟩:=hR';have HLL:=Lib.hid hl';have HUU:=Lib.hid hu';have kge:decide ((0:Int)≤(k:Int))=true:=by simp
    have klt:decide ((m:Int)<20)=true:=by simp;omega
    have q1:IntKind.i64.wrap (16384*(k:Int))=16384*(k:Int):=IntWalk.i64_in _ (by omega);have q2:IntKind.i64.wrap (l-16384*(k:Int))=l-16384*(k:Int):=IntWalk.i64_in _ (by omega);have q3:IntKind.i64.wrap (2*(l-16384*(k:Int)))=2*(l-16384*(k:Int)):=IntWalk.i64_in _ (by omega);clear hk e1 e2 hrest
    go_wp2_with fail
    refine(HTW.out _).mono ?_;rintro e w9 ⟨rfl,rfl⟩
    go_wp2_with fail
    refine(HTW.out _).mono ?_;rintro e w9 ⟨rfl,rfl⟩
    go_wp2_with (at_builtin;refine kbv7 _ rfl _ _ _ rfl w.heap.size 3 i0 _ 8 Tryz.underlying41 hi0 hz0 hz1 hz2 rfl _ _ _ rfl HO.out (.int .i64 (k:Nat)) rfl rfl ?g1 ?g2 hys ?_)
    case g1=>unfold maxLen;omega
    case g2=>omega
    intro A5 c5 w5 ho5 hg5;have Y5:=kr7 yr HO.out hg5 (Nat.le_refl _) hys;rw[←HBC.out] at ho5;have HO5:=Lib.hid ho5;clear ho5 hg5
    go_wp2_with fail
    go_roundw
    case rel=>exact⟨l',u',g,m+1,rest',out++[k],A5,c5,HL2.out,HD2.out,HF2.out,by have:=HS1.out;rw[List.append_assoc];exact this,by rw[List.length_append,←HM.out];rfl,by have:=HMF.out;omega,by rw[HLL.out],by rw[HUU.out],rfl,Y5,HO5.out⟩
    case measure=>simp[intOf]<;>omega
 ·obtain⟨rfl,rfl⟩:=hP;subst hbi;have k1:(((0:Nat):Int) == 1)=false:=rfl
  go_enter Tryz.func48,Tryz.ntmps48
  go_wp2_with fail
  refine(HSP.out _).mono ?_;rintro e w9 ⟨rfl,rfl⟩
  go_wp2_with fail
  go_loopw [0,1,11,12] (fun lv uv s _ wr=>∃ (l u:Int) (f m:Nat) (rest out:List Nat) (A':Option Addr) (c':Nat),Rng l u∧dbl f l u=(LO,HI,rest)∧65536<(u-l+1)*(2:Int) ^ f∧out++rest=R∧m=out.length∧m+f=20 ∧
    lv=.int .i64 l∧uv=.int .i64 u∧s=.slice A' m c'∧Below w.heap.size w wr∧wr.ownsRow w.heap.size 3 1 (.slice A' m c') m (ncells out)) (fun lv uv _ _ _=>(65536-(intOf uv-intOf lv)).toNat)
  case atStart=>exact⟨_,_,20,0,R,[],none,0,HR0.out,HD0.out,HF0.out,rfl,rfl,rfl,rfl,rfl,rfl,Below.refl _ _,World.ownsRow_nil _ _ _ _⟩
  case round =>
   obtain⟨l,u,f,m,rest,out,A',c',hrg,hd,hf,hs,hm,hmf,rfl,rfl,rfl,yr,ho⟩:=hrel;have HD:=Lib.hid hd;have HF:=Lib.hid hf;have HS1:=Lib.hid hs;have HRG:=Lib.hid hrg;have HO:=Lib.hid ho;have HM:=Lib.hid hm;have HMF:=Lib.hid hmf;have hys:=yr.size;obtain⟨rg1,rg2,rg3⟩:=hrg;clear hd hf hs ho hm hmf;rcases khf7 HRG.out with⟨hn,hW⟩|⟨k,hk,hk2,hR'⟩
   ·have HTW:=Lib.hid (fun(W:World)=>khg7 (lo:=l) (hi:=u) (-1) (by rw[hn]) W);have e1:=HD.out;rw[dbl_none hn] at e1;injection e1 with e1 e2;injection e2 with e2 e3;subst e1 e2 e3;have HB:=Lib.hid (show out=R by have:=HS1.out;simpa using this);clear hn hW
    go_wp2_with fail
    refine(HTW.out _).mono ?_;rintro e w9 ⟨rfl,rfl⟩
    go_wp2
    go_ret3
    exact⟨A',m,c',rfl,by rw[←HB.out];exact HM.out.symm,by rw[←HB.out];exact HO.out,yr⟩
   ·obtain⟨g,rfl⟩:=fuel_pos HRG.out HF.out;have hd1:=HD.out;rw[dbl_some hk] at hd1;injection hd1 with e1 e2;injection e2 with e2 e3;obtain⟨l',hl'⟩:∃ l',l'=2*(l-16384*(k:Int)):=⟨_,rfl⟩
    obtain⟨u',hu'⟩:∃ u',u'=2*(u-16384*(k:Int))+1:=⟨_,rfl⟩
    rw[←hl',←hu'] at e1 e2 e3 hR';obtain⟨rest',hrest⟩:∃ r,r=(dbl g l' u').2.2:=⟨_,rfl⟩
    have HD2:=Lib.hid (show dbl g l' u'=(LO,HI,rest') by rw[←e1,←e2,hrest]);rw[←hrest] at e3;subst e3;have HF2:=Lib.hid (show 65536<(u'-l'+1)*(2:Int) ^ g by have:=fuel_next (k:=k) HF.out;rwa [←hl',←hu'] at this);have HL2:=Lib.hid hR';have HTW:=Lib.hid (fun(W:World)=>khg7 (lo:=l) (hi:=u) (k:Nat) (by rw[hk]) W);have hmm:u'-l'=2*(u-l)+1:=by rw[hl',hu'];omega
    have hm20:m<20:=by have:=HMF.out;omega
    have HBC:=Lib.hid (ncells_snoc out k);obtain⟨n1,n2,n3⟩:=hR';have HLL:=Lib.hid hl';have HUU:=Lib.hid hu';have kge:decide ((0:Int)≤(k:Int))=true:=by simp
    have klt:decide ((m:Int)<20)=true:=by simp;omega
    have q1:IntKind.i64.wrap (16384*(k:Int))=16384*(k:Int):=IntWalk.i64_in _ (by omega);have q2:IntKind.i64.wrap (l-16384*(k:Int))=l-16384*(k:Int):=IntWalk.i64_in _ (by omega);have q3:IntKind.i64.wrap (2*(l-16384*(k:Int)))=2*(l-16384*(k:Int)):=IntWalk.i64_in _ (by omega);clear hk e1 e2 hrest
    go_wp2_with fail
    refine(HTW.out _).mono ?_;rintro e w9 ⟨rfl,rfl⟩
    go_wp2_with fail
    refine(HTW.out _).mono ?_;rintro e w9 ⟨rfl,rfl⟩
    go_wp2_with (at_builtin;refine kbv7 _ rfl _ _ _ rfl w.heap.size 3 i0 _ 8 Tryz.underlying41 hi0 hz0 hz1 hz2 rfl _ _ _ rfl HO.out (.int .i64 (k:Nat)) rfl rfl ?g1 ?g2 hys ?_)
    case g1=>unfold maxLen;omega
    case g2=>omega
    intro A5 c5 w5 ho5 hg5;have Y5:=kr7 yr HO.out hg5 (Nat.le_refl _) hys;rw[←HBC.out] at ho5;have HO5:=Lib.hid ho5;clear ho5 hg5
    go_wp2_with fail
    go_roundw
    case rel=>exact⟨l',u',g,m+1,rest',out++[k],A5,c5,HL2.out,HD2.out,HF2.out,by have:=HS1.out;rw[List.append_assoc];exact this,by rw[List.length_append,←HM.out];rfl,by have:=HMF.out;omega,by rw[HLL.out],by rw[HUU.out],rfl,Y5,HO5.out⟩
    case measure=>simp[intOf]<;>omega
def RdC(w:World)(A:Option Addr)(n c:Nat)(xs:List Cho):Prop :=
 xs.length=n∧n≤c∧c≤maxLen∧(0<n→∃ b off,A=some ⟨b,off,none⟩∧b<w.heap.size∧∀ i x,xs[i]?=some x →
  w.cell? ⟨b,off+i*2,none⟩=some (.int .i64 x.b)∧w.cell? ⟨b,off+i*2+1,none⟩=some (.int .i64 x.p))
section
variable {w w':World}{A:Option Addr}{n c:Nat}{xs:List Cho}
theorem RdC.on(h:RdC w A n c xs)(hb:Below w.heap.size w w'):RdC w' A n c xs:=by
 obtain⟨h1,h2,h3,h4⟩:=h;refine⟨h1,h2,h3,fun hn=>?_⟩;obtain⟨b,off,e,hlt,hc⟩:=h4 hn;refine⟨b,off,e,Nat.lt_of_lt_of_le hlt hb.size,fun i x hx=>?_⟩;obtain⟨q1,q2⟩:=hc i x hx;exact⟨(hb.cell (p:=⟨b,off+i*2,none⟩) hlt).trans q1,(hb.cell (p:=⟨b,off+i*2+1,none⟩) hlt).trans q2⟩
theorem RdC.drew(h:RdC w A n c xs):RdC w.drew A n c xs:=h
theorem RdC.len(h:RdC w A n c xs):xs.length=n:=h.1
theorem RdC.at(h:RdC w A n c xs)(k:Nat)(hk:k<xs.length):∃ b off,A=some ⟨b,off,none⟩∧b<w.heap.size ∧
  w.cell? ⟨b,off+k*2,none⟩=some (.int .i64 xs[k].b)∧w.cell? ⟨b,off+k*2+1,none⟩=some (.int .i64 xs[k].p):=by
 obtain⟨h1,h2,h3,h4⟩:=h;obtain⟨b,off,e,hlt,hc⟩:=h4 (by omega);exact⟨b,off,e,hlt,hc k _ (List.getElem?_eq_getElem hk)⟩
theorem RdC.cells{b off:Nat}{k:Nat}{x:Cho}(h:RdC w (some ⟨b,off,none⟩) n c xs)(hx:xs[k]?=some x):b<w.heap.size ∧
  w.cell? ⟨b,off+k*2,none⟩=some (.int .i64 x.b)∧w.cell? ⟨b,off+k*2+1,none⟩=some (.int .i64 x.p):=by
 have hk:k<xs.length:=by
  rcases Nat.lt_or_ge k xs.length with h|h
  ·exact h
  ·rw[List.getElem?_eq_none h] at hx;cases hx
 obtain⟨b',off',e,hlt,hc⟩:=h.2.2.2 (by have:=h.1;omega);injection e with e;injection e with e1 e2;subst e1 e2;exact⟨hlt,hc k x hx⟩
end
end PB
end
section
open Go.RowKit
attribute [local go_sem ↓] Go.wp_at_zero Go.wp_at_succ
namespace PB
theorem own_addr{w:World}{base:Nat}{e:TypeId}{A:Option Addr}{n c:Nat}{xs:List Value}(h:w.ownsRow base e 1 (.slice A n c) n xs)(hn:0<n):∃ g,A=some ⟨g,0,none⟩∧base≤g∧g<w.heap.size∧n≤c∧c≤maxLen:=by
 obtain⟨h1,h2⟩:=h;rcases h2 with⟨h2,h3⟩|⟨g,cap,cur,h2,h3,h4,h5,h6,_⟩
 ·subst h3;simp at h1;omega
 ·injection h2 with e1 e2 e3;subst e1 e3;refine⟨g,rfl,h3,?_,h5,h6⟩;rcases Nat.lt_or_ge g w.heap.size with h|h
  ·exact h
  ·rw[Array.getElem?_eq_none h] at h4;cases h4
theorem erun_take_succ(cs:List Cho)(k:Nat)(h:k<cs.length)(lo hi:Int):erun (cs.take (k+1)) lo hi=((stp (erun (cs.take k) lo hi).1 (erun (cs.take k) lo hi).2.1 cs[k].n cs[k].p).1,(stp (erun (cs.take k) lo hi).1 (erun (cs.take k) lo hi).2.1 cs[k].n cs[k].p).2.1,(erun (cs.take k) lo hi).2.2++(stp (erun (cs.take k) lo hi).1 (erun (cs.take k) lo hi).2.1 cs[k].n cs[k].p).2.2):=by
 rw[List.take_succ_eq_append_getElem h,erun_snoc]
theorem mid_le{ds:List Nat}(h:∀ d∈ds,d≤2){j:Nat}(hj:j<ds.length):(mid ds j).getD j 0≤3:=by
 rw[mid_get hj,kap7 hj];have a:=h _ (List.getElem_mem hj);have b:=res_carry (ds.drop (j+1)) (fun d hd=>h d (List.mem_of_mem_drop hd));omega
theorem mid_le2{ds:List Nat}(h:∀ d∈ds,d≤2){j i:Nat}(hj:j<ds.length)(hi:i<j):(mid ds j).getD i 0≤2:=by
 rw[mid_low hj hi,kap7 (by omega)];exact h _ (List.getElem_mem _)
theorem kgf7(l:List Nat)(i v:Nat):ncells (l.set i v)=(ncells l).set i (.int .i64 (v:Nat)):=by simp[ncells,List.map_set]
def digsAt(cs:List Cho)(k:Nat):List Nat:=0::(erun (cs.take k) 0 65535).2.2
theorem refcode_any{A:Option Addr}{n c:Nat}{cs:List Cho}{w:World}(h:RdC w A n c cs)(hall:AllCho cs)(hl:cs.length≤8192) :
  Calls Tryz.prog 39 #[.slice A n c] w fun e w'=>∃ A' n' c',e=.returned (.slice A' n' c')∧(acode cs).length=n'∧w'.ownsRow w.heap.size 3 1 (.slice A' n' c') n' (ncells (acode cs))∧Below w.heap.size w w':=by
 obtain⟨i0,hi0,hz0,hz1,hz2⟩:=info_parts kce7;have hn:=h.len;have hcap:=h.2.1;have hcm:=h.2.2.1;unfold maxLen at hcm;obtain rfl:=hn;have HA:=Lib.hid hall;have HTL:=Lib.hid (fun k=>kcd7 (cs.take k) (hall.take k) 0 65535 wid0);have HEND:=Lib.hid (mid_end hall);have HDL:=Lib.hid (show ∀ d∈digsOf cs,d≤2 by
  intro d hd;obtain⟨_,_,f3⟩:=kcd7 cs hall 0 65535 wid0;unfold digsOf at hd;rcases List.mem_cons.1 hd with rfl|hd
  ·omega
  ·rcases List.mem_append.1 hd with hd|hd
   ·exact f3 d hd
   ·rw[List.mem_singleton] at hd;rw[hd];split<;>omega)
 have HCL:=Lib.hid (show(acode cs).length=(digsOf cs).length by rw[kip7];unfold digsOf;simp);have HDN:=Lib.hid (show(digsOf cs).length≤114690 by rw[←HCL.out];exact acode_le hall hl);clear hall;have z0:Below w.heap.size w (w.alloc (.cells #[.int .i64 0] 3)):=(Below.refl _ _).alloc (Nat.le_refl _) _;have o0:(w.alloc (.cells #[.int .i64 0] 3)).ownsRow w.heap.size 3 1 (.slice (some ⟨w.heap.size,0,none⟩) 1 1) 1 (ncells [0]) :=
  ⟨rfl,.inr ⟨w.heap.size,1,#[.int .i64 0],rfl,Nat.le_refl _,heap_alloc_new w _,Nat.le_refl _,by decide,rfl,rfl⟩⟩
 go_enter Tryz.func39,Tryz.ntmps39
 go_wp2_with fail
 generalize (w.alloc (.cells #[.int .i64 0] 3))=W at z0 o0 ⊢
 go_loopw [3,4,5,6,7,16] (fun lv uv s i _ _ wr=>∃ (k m:Nat) (l u:Int) (A':Option Addr) (c':Nat),k≤cs.length∧i=.int .i64 (k:Nat)∧lv=.int .i64 l∧uv=.int .i64 u∧s=.slice A' m c'∧l=(erun (cs.take k) 0 65535).1∧u=(erun (cs.take k) 0 65535).2.1∧m=(digsAt cs k).length ∧
   Below w.heap.size w wr∧wr.ownsRow w.heap.size 3 1 (.slice A' m c') m (ncells (digsAt cs k))) (fun _ _ _ i _ _ _=>cs.length-(intOf i).toNat)
 case atStart=>exact⟨0,1,0,65535,_,1,Nat.zero_le _,rfl,rfl,rfl,rfl,rfl,rfl,rfl,z0,o0⟩
 case round =>
  obtain⟨k,m,l,u,A',c',hk,rfl,rfl,rfl,rfl,hlo,hhi,hm,yr,ho⟩:=hrel;have HO:=Lib.hid ho;have HLO:=Lib.hid hlo;have HHI:=Lib.hid hhi;have HM:=Lib.hid hm;have hys:=yr.size;have hmb:m≤200000:=by
   have:=(HTL.out k).2.1;rw[List.length_take] at this;rw[hm];unfold digsAt;rw[List.length_cons];omega
  clear ho hlo hhi hm z0 o0;by_cases hlt:k<cs.length
  ·have hR:=h.on yr;obtain⟨g,off,rfl,hg,q1,q2⟩:=hR.at k hlt;obtain⟨x,hx⟩:∃ x,x=cs[k]:=⟨_,rfl⟩
   have hok:=HA.out _ (List.getElem_mem hlt);have hes:=erun_take_succ cs k hlt 0 65535;rw[←hx] at q1 q2 hok hes;rw[←HLO.out,←HHI.out] at hes;obtain⟨LO,hLO⟩:∃ LO,LO=(stp l u x.n x.p).1:=⟨_,rfl⟩
   obtain⟨HI,hHI⟩:∃ HI,HI=(stp l u x.n x.p).2.1:=⟨_,rfl⟩
   obtain⟨R,hRR⟩:∃ R,R=(stp l u x.n x.p).2.2:=⟨_,rfl⟩
   rw[←hLO,←hHI,←hRR] at hes;have hw:Wid l u:=by have:=(HTL.out k).1;rwa [←HLO.out,←HHI.out] at this
   have hR14:R.length≤14:=by rw[hRR];exact(kch7 x.n hw hok.2.1 hok.2.2).2.1
   have HSN:=Lib.hid hes;have HDA:=Lib.hid (show digsAt cs (k+1)=digsAt cs k++R by unfold digsAt;rw[hes];rfl);have HXX:=Lib.hid (show cs[k]?=some x by rw[hx];exact List.getElem?_eq_getElem hlt);have hbe:=hok.n_eq;have HST:=Lib.hid (fun(W:World)=>steps_any hw hok.2.1 hok.2.2 hok.n_le LO HI R hLO hHI hRR x.b hbe W);obtain⟨xb,xp⟩:=x;dsimp only at q1 q2 HST;have i1:(0:Int)≤(k:Int):=by omega
   have i2:(k:Int)<(cs.length:Int):=by omega
   clear hes hw hLO hHI hRR hok hx hbe
   go_wp2_with fail
   go_region_held3 (fun w'=>w'.cell? ⟨g,off+k*2,none⟩=some (.int .i64 xb)∧w'.cell? ⟨g,off+k*2+1,none⟩=some (.int .i64 xp)) (go_keep) ((go_at_call 48;refine(HST.out _).mono ?_;rintro e w5 ⟨A5,n5,c5,rfl,hn5,o5,y5⟩;have Y5:Below wr.heap.size wr.drew w5:=y5;have R5:=RdC.on (w:=wr.drew) hR.drew Y5;have a1:=(R5.cells HXX.out).2.1;have a2:=(R5.cells HXX.out).2.2))
   have HO1:=Lib.hid (kbn7 (w:=wr.drew) (kcf7 HO.out) Y5);have Y6:=(belowD yr).trans (Below.mono (w:=wr.drew) Y5 yr.size);have ys6:=Y6.size;have R6:=Rd.own o5;have hn14:n5≤14:=by omega
   have HN5:=Lib.hid hn5;have HBC:=Lib.hid (show ncells (digsAt cs (k+1))=ncells (digsAt cs k)++ncells R by rw[HDA.out,kas7]);clear a1 a2 R5 y5 Y5 o5 q1 q2 hn5 hR
   go_wp2_with (at_builtin;refine ko7 _ rfl _ _ _ rfl w.heap.size 3 i0 _ 8 Tryz.underlying41 hi0 hz0 hz1 hz2 rfl _ _ _ rfl HO1.out _ _ n5 c5 _ rfl R6 (keh7 _) ?g1 ?g2 ys6 ?_)
   case g1=>unfold maxLen;omega
   case g2=>omega
   intro A4 c4 w4 o4 g4 a4;have Y4:=kr7 Y6 HO1.out g4 (Nat.le_refl _) ys6;rw[←HBC.out] at o4;have HO4:=Lib.hid o4;clear o4 a4 g4
   go_wp2_with fail
   go_roundw
   case rel=>exact⟨k+1,m+n5,LO,HI,A4,c4,by omega,by go_num,rfl,rfl,rfl,by rw[HSN.out],by rw[HSN.out],by rw[HDA.out,List.length_append,←HM.out,HN5.out],Y4,HO4.out⟩
   case measure=>simp[intOf]<;>omega
  ·obtain rfl:k=cs.length:=by omega
   have e1:=HLO.out;have e2:=HM.out;have e3:=HO.out;rw[List.take_of_length_le (Nat.le_refl _)] at e1;have e4:digsOf cs=digsAt cs cs.length++[if l<16384 then 1 else 2]:=by unfold digsOf digsAt;rw[e1,List.take_of_length_le (Nat.le_refl _)];rfl
   have HD4:=Lib.hid e4;have HM2:=Lib.hid (show m+1=(digsOf cs).length by rw[e4,List.length_append,←e2];rfl);clear e1 e2 e3 e4;by_cases hlast:l<16384
   ·have k1:decide (l<16384)=true:=by simpa using hlast
    have HBC:=Lib.hid (show ncells (digsOf cs)=ncells (digsAt cs cs.length)++[.int .i64 1] by rw[HD4.out,if_pos hlast,kas7];rfl);clear hlast
    go_wp2_with (at_builtin;refine kbv7 _ rfl _ _ _ rfl w.heap.size 3 i0 _ 8 Tryz.underlying41 hi0 hz0 hz1 hz2 rfl _ _ _ rfl HO.out (.int .i64 1) rfl rfl ?g1 ?g2 hys ?_)
    case g1=>unfold maxLen;omega
    case g2=>omega
    intro A4 c4 w4 o4 g4;have Y4:=kr7 yr HO.out g4 (Nat.le_refl _) hys;rw[←HBC.out] at o4;obtain⟨g,rfl,hg1,hg2,hg3,hg4⟩:=own_addr o4 (by omega);unfold maxLen at hg4;have HO4:=Lib.hid o4;have Y4s:=Y4.size;clear o4 g4
    go_wp2_with fail
    go_loopw [8] (fun i wr=>∃ j:Nat,j≤m∧i=.int .i64 (j:Nat)∧Below w.heap.size w wr∧wr.ownsRow w.heap.size 3 1 (.slice (some ⟨g,0,none⟩) (m+1) c4) (m+1) (ncells (mid (digsOf cs) j))) (fun i _=>(intOf i).toNat)
    case atStart=>exact⟨m,Nat.le_refl _,by go_num,Y4,by have e:=mid_start (ds:=digsOf cs) (by rw[←HM2.out];omega);rw[←HM2.out,Nat.add_sub_cancel] at e;rw[e];exact HO4.out⟩
    case round =>
     obtain⟨j,hj,rfl,Y5,o5⟩:=hrel;have HO5:=Lib.hid o5;by_cases hj0:0<j
     ·have hjl:j<(digsOf cs).length:=by rw[←HM2.out];omega
      obtain⟨av,hav⟩:∃ av,av=(mid (digsOf cs) j).getD (j-1) 0:=⟨_,rfl⟩
      obtain⟨bv,hbv⟩:∃ bv,bv=(mid (digsOf cs) j).getD j 0:=⟨_,rfl⟩
      have ha2:av≤2:=by rw[hav];exact mid_le2 HDL.out hjl (by omega)
      have hb3:bv≤3:=by rw[hbv];exact mid_le HDL.out hjl
      have HSTP:=Lib.hid (show ncells (mid (digsOf cs) (j-1))=((ncells (mid (digsOf cs) j)).set (j-1) (.int .i64 ((av:Int)+(bv:Int) / 2))).set j (.int .i64 ((bv:Int) % 2)) by rw[mid_step hj0 hjl,kgf7,kgf7,←hav,←hbv];simp);have hl1:(mid (digsOf cs) j).length=m+1:=by rw[mid_length hjl,HM2.out]
      have ca:=o5.cellAt (j-1) (by omega);have cb:=o5.cellAt j (by omega);rw[kad7 _ _ (by omega),←hav] at ca;rw[kad7 _ _ (by omega),←hbv] at cb;have fa:=o5.frozenAt (j-1);have fb:=o5.frozenAt j;have s1:=kcf7 (o5.stored (j-1) (.int .i64 ((av:Int)+(bv:Int) / 2))).1;have cb2:(wr.setCell ⟨g,j-1,none⟩ (.int .i64 ((av:Int)+(bv:Int) / 2))).drew.cell? ⟨g,j,none⟩=some (.int .i64 (bv:Nat)):=by
       have:=s1.cellAt j (by omega);rw[List.getElem?_set_ne (by omega),kad7 _ _ (by omega),←hbv] at this;exact this
      have s2:=(s1.stored j (.int .i64 ((bv:Int) % 2))).1;rw[←HSTP.out] at s2;have HS2:=Lib.hid s2;have Y6:=(belowD (Y5.setCell (p:=⟨g,j-1,none⟩) hg1 (.int .i64 ((av:Int)+(bv:Int) / 2)))).setCell (p:=⟨g,j,none⟩) hg1 (.int .i64 ((bv:Int) % 2));have t1:(((j:Int)-1)).toNat=j-1:=by omega
      have t2:(0:Int)≤(j:Int)-1:=by omega
      have t3:(j:Int)-1<((m+1:Nat):Int):=by omega
      have t4:(j:Int)<((m+1:Nat):Int):=by omega
      have t5:IntKind.i64.wrap ((j:Int)-1)=(j:Int)-1:=IntWalk.i64_in _ (by omega);have t6:(bv:Int).tdiv 2=((bv / 2:Nat):Int):=by rw[Int.tdiv_eq_ediv_of_nonneg (by omega)];omega
      have t7:IntKind.i64.wrap (((bv / 2:Nat):Int))=((bv / 2:Nat):Int):=IntWalk.i64_in _ (by omega);have t8:IntKind.i64.wrap ((av:Int)+((bv / 2:Nat):Int))=((av+bv / 2:Nat):Int):=by rw[IntWalk.i64_in _ (by omega)];omega
      clear o5 s1 s2 hav hbv hl1
      go_wp2_with fail
      go_region
      clear t5 t6 t7 t8
      go_wp2_with fail
      go_roundw
      case rel=>exact⟨j-1,by omega,by congr 1;omega,Y6,HS2.out⟩
      case measure=>simp[intOf]<;>omega
     ·obtain rfl:j=0:=by omega
      have e1:=HO5.out;rw[HEND.out] at e1
      go_wp2
      go_ret
      exact⟨_,m+1,c4,rfl,by rw[HCL.out,HM2.out],e1,Y5⟩
   ·have k1:decide (l<16384)=false:=by simpa using hlast
    have HBC:=Lib.hid (show ncells (digsOf cs)=ncells (digsAt cs cs.length)++[.int .i64 2] by rw[HD4.out,if_neg hlast,kas7];rfl);clear hlast
    go_wp2_with (at_builtin;refine kbv7 _ rfl _ _ _ rfl w.heap.size 3 i0 _ 8 Tryz.underlying41 hi0 hz0 hz1 hz2 rfl _ _ _ rfl HO.out (.int .i64 2) rfl rfl ?g1 ?g2 hys ?_)
    case g1=>unfold maxLen;omega
    case g2=>omega
    intro A4 c4 w4 o4 g4;have Y4:=kr7 yr HO.out g4 (Nat.le_refl _) hys;rw[←HBC.out] at o4;obtain⟨g,rfl,hg1,hg2,hg3,hg4⟩:=own_addr o4 (by omega);unfold maxLen at hg4;have HO4:=Lib.hid o4;have Y4s:=Y4.size;clear o4 g4
    go_wp2_with fail
    go_loopw [8] (fun i wr=>∃ j:Nat,j≤m∧i=.int .i64 (j:Nat)∧Below w.heap.size w wr∧wr.ownsRow w.heap.size 3 1 (.slice (some ⟨g,0,none⟩) (m+1) c4) (m+1) (ncells (mid (digsOf cs) j))) (fun i _=>(intOf i).toNat)
    case atStart=>exact⟨m,Nat.le_refl _,by go_num,Y4,by have e:=mid_start (ds:=digsOf cs) (by rw[←HM2.out];omega);rw[←HM2.out,Nat.add_sub_cancel] at e;rw[e];exact HO4.out⟩
    case round =>
     obtain⟨j,hj,rfl,Y5,o5⟩:=hrel;have HO5:=Lib.hid o5;by_cases hj0:0<j
     ·have hjl:j<(digsOf cs).length:=by rw[←HM2.out];omega
      obtain⟨av,hav⟩:∃ av,av=(mid (digsOf cs) j).getD (j-1) 0:=⟨_,rfl⟩
      obtain⟨bv,hbv⟩:∃ bv,bv=(mid (digsOf cs) j).getD j 0:=⟨_,rfl⟩
      have ha2:av≤2:=by rw[hav];exact mid_le2 HDL.out hjl (by omega)
      have hb3:bv≤3:=by rw[hbv];exact mid_le HDL.out hjl
      have HSTP:=Lib.hid (show ncells (mid (digsOf cs) (j-1))=((ncells (mid (digsOf cs) j)).set (j-1) (.int .i64 ((av:Int)+(bv:Int) / 2))).set j (.int .i64 ((bv:Int) % 2)) by rw[mid_step hj0 hjl,kgf7,kgf7,←hav,←hbv];simp);have hl1:(mid (digsOf cs) j).length=m+1:=by rw[mid_length hjl,HM2.out]
      have ca:=o5.cellAt (j-1) (by omega);have cb:=o5.cellAt j (by omega);rw[kad7 _ _ (by omega),←hav] at ca;rw[kad7 _ _ (by omega),←hbv] at cb;have fa:=o5.frozenAt (j-1);have fb:=o5.frozenAt j;have s1:=kcf7 (o5.stored (j-1) (.int .i64 ((av:Int)+(bv:Int) / 2))).1;have cb2:(wr.setCell ⟨g,j-1,none⟩ (.int .i64 ((av:Int)+(bv:Int) / 2))).drew.cell? ⟨g,j,none⟩=some (.int .i64 (bv:Nat)):=by
       have:=s1.cellAt j (by omega);rw[List.getElem?_set_ne (by omega),kad7 _ _ (by omega),←hbv] at this;exact this
      have s2:=(s1.stored j (.int .i64 ((bv:Int) % 2))).1;rw[←HSTP.out] at s2;have HS2:=Lib.hid s2;have Y6:=(belowD (Y5.setCell (p:=⟨g,j-1,none⟩) hg1 (.int .i64 ((av:Int)+(bv:Int) / 2)))).setCell (p:=⟨g,j,none⟩) hg1 (.int .i64 ((bv:Int) % 2));have t1:(((j:Int)-1)).toNat=j-1:=by omega
      have t2:(0:Int)≤(j:Int)-1:=by omega
      have t3:(j:Int)-1<((m+1:Nat):Int):=by omega
      have t4:(j:Int)<((m+1:Nat):Int):=by omega
      have t5:IntKind.i64.wrap ((j:Int)-1)=(j:Int)-1:=IntWalk.i64_in _ (by omega);have t6:(bv:Int).tdiv 2=((bv / 2:Nat):Int):=by rw[Int.tdiv_eq_ediv_of_nonneg (by omega)];omega
      have t7:IntKind.i64.wrap (((bv / 2:Nat):Int))=((bv / 2:Nat):Int):=IntWalk.i64_in _ (by omega);have t8:IntKind.i64.wrap ((av:Int)+((bv / 2:Nat):Int))=((av+bv / 2:Nat):Int):=by rw[IntWalk.i64_in _ (by omega)];omega
      clear o5 s1 s2 hav hbv hl1
      go_wp2_with fail
      go_region
      clear t5 t6 t7 t8
      go_wp2_with fail
      go_roundw
      case rel=>exact⟨j-1,by omega,by congr 1;omega,Y6,HS2.out⟩
      case measure=>simp[intOf]<;>omega
     ·obtain rfl:j=0:=by omega
      have e1:=HO5.out;rw[HEND.out] at e1
      go_wp2
      go_ret
      exact⟨_,m+1,c4,rfl,by rw[HCL.out,HM2.out],e1,Y5⟩
theorem Rd.elem{w:World}{b off n c:Nat}{xs:List Value}(h:Rd w (some ⟨b,off,none⟩) n c xs){k:Nat}{u:Value}(hx:xs[k]?=some u):w.cell? ⟨b,off+k,none⟩=some u:=by
 have hk:k<xs.length:=by
  rcases Nat.lt_or_ge k xs.length with h|h
  ·exact h
  ·rw[List.getElem?_eq_none h] at hx;cases hx
 obtain⟨b',off',e,_,hc⟩:=h.2.2.2 (by have:=h.1;omega);injection e with e;injection e with e1 e2;subst e1 e2;exact hc k u hx
theorem kgp7{h:List Nat}(b k:Nat)(hb:b≤k)(hk:k<h.length):2*num (1::(h.drop b).take (k-b))+h.getD k 0=num (1::(h.drop b).take (k+1-b)):=by
 have e:(h.drop b).take (k+1-b)=(h.drop b).take (k-b)++[h.getD k 0]:=by
  have e1:k+1-b=(k-b)+1:=by omega
  rw[e1,List.take_succ_eq_append_getElem (by rw[List.length_drop];omega)]
  congr 2
  rw[List.getElem_drop,←kap7]
  congr 1
  omega
 rw[e,←List.cons_append,kic7]
theorem kes7{h:List Nat}(h01:Is01 h)(b k:Nat)(hk:k-b≤8):num (1::(h.drop b).take (k-b))<512:=by
 have h1:Is01 (1::(h.drop b).take (k-b)):=by
  refine Is01.of_mem fun x hx=>?_;rcases List.mem_cons.1 hx with rfl|hx
  ·decide
  ·exact((h01.drop b).take (k-b)).mem hx
 have h2:=kgk7 h1;have h3:2 ^ (1::(h.drop b).take (k-b)).length≤2 ^ 9:=Nat.pow_le_pow_right (by decide) (by rw[List.length_cons,List.length_take];omega);omega
theorem refctx_0{A:Option Addr}{n c:Nat}{h:List Nat}{w:World}(hr:Rd w A n c (ncells h))(h01:Is01 h)(i:Nat)(hi:i≤h.length)(ii:Int)(hii:ii=(i:Nat)) :
  Calls Tryz.prog 80 #[.slice A n c,.int .i64 ii,.int .i64 0] w fun e w'=>e=.returned (cval (ctx h i 0))∧Below w.heap.size w w':=by
 subst hii;have hn:=hr.len;rw[kz7] at hn;have hcap:=Reads.cap hr;have hcm:=Reads.capMax hr;unfold maxLen at hcm;obtain⟨bg,hbg⟩:∃ bg,bg=cbeg i:=⟨_,rfl⟩
 have hb1:bg≤i:=by rw[hbg];unfold cbeg;omega
 have hb2:i-bg≤7:=by rw[hbg];unfold cbeg;omega
 have HBE:=Lib.hid (show(i:Int)-(i:Int) % 8=((bg:Nat):Int) by rw[hbg];unfold cbeg;omega);have HBG:=Lib.hid hbg;have HR:=Lib.hid hr;have H01:=Lib.hid h01;have F0:=Four.new w 123 (.int .i64 0) (.int .i64 0) (.int .i64 0) (.int .i64 0);have F1:=F0.alloc (.cells #[.int .i64 0,.int .i64 0,.int .i64 0,.int .i64 1] 123);have G1:=Four.new1 w (.cells #[.int .i64 0,.int .i64 0,.int .i64 0,.int .i64 0] 123) 123 (.int .i64 0) (.int .i64 0) (.int .i64 0) (.int .i64 1);have y1:=((Below.refl w.heap.size w).alloc (Nat.le_refl _) (.cells #[.int .i64 0,.int .i64 0,.int .i64 0,.int .i64 0] 123)).alloc (by simp) (.cells #[.int .i64 0,.int .i64 0,.int .i64 0,.int .i64 1] 123);clear hbg hr h01
 go_enter Tryz.func80,Tryz.ntmps80
 go_upto_region 2 with(fail)
 rw[HBE.out]
 go_upto_region 4 with(fail)
 generalize ((w.alloc (.cells #[.int .i64 0,.int .i64 0,.int .i64 0,.int .i64 0] 123)).alloc (.cells #[.int .i64 0,.int .i64 0,.int .i64 0,.int .i64 1] 123))=w1 at F1 G1 y1 ⊢;have HF:=Lib.hid F1;have HG:=Lib.hid G1;have HY:=Lib.hid y1;clear F1 G1 y1 F0
 go_loopw [9] (fun kv wr=>∃ k:Nat,bg≤k∧k≤i∧kv=.int .i64 (k:Nat)∧Four wr w.heap.size 123 (.int .i64 0) (.int .i64 0) (.int .i64 0) (.int .i64 0)∧Four wr (w.heap.size+1) 123 (.int .i64 0) (.int .i64 0) (.int .i64 0) (.int .i64 (num (1::(h.drop bg).take (k-bg)):Nat))∧Below w.heap.size w wr) (fun kv _=>i-(intOf kv).toNat)
 case atStart=>exact⟨bg,by omega,hb1,rfl,HF.out,by rw[Nat.sub_self,List.take_zero];exact HG.out,HY.out⟩
 case round =>
  obtain⟨k,hk1,hk2,rfl,F,G,yr⟩:=hrel;have HFr:=Lib.hid F;have HGr:=Lib.hid G;have HYr:=Lib.hid yr;clear F G yr HF HG HY;by_cases hlt:k<i
  ·obtain⟨g,off,rfl,hg,hc⟩:=(HR.out.on HYr.out).2.2.2 (by omega);have hcell:=hc k _ (kad7 h k (by omega));have hx2:=H01.out k;have HST:=kgp7 (h:=h) bg k hk1 (by omega);have hvl:=kes7 H01.out bg k (by omega);obtain⟨x,hx⟩:∃ x,x=h.getD k 0:=⟨_,rfl⟩
   obtain⟨V,hV⟩:∃ V,V=num (1::(h.drop bg).take (k-bg)):=⟨_,rfl⟩
   have hgr:=HGr.out;rw[←hx] at hcell hx2 HST;rw[←hV] at HST hvl hgr;have HST2:=Lib.hid HST;have c3:=hgr.c3;have f3:=hgr.f3;have HG2:=Lib.hid hgr;clear hc hx hV HST hgr;obtain⟨V2,hV2⟩:∃ V2,V2=2*V+x:=⟨_,rfl⟩
   have HV2:=Lib.hid hV2;have HV3:=Lib.hid (show 2*(V:Int)+(x:Int)=((V2:Nat):Int) by omega);clear hV2
   go_upto_region 6 with(fail)
   go_region
   all_goals try go_wp2_with fail
   rw[HV3.out]
   go_roundw
   case rel=>exact⟨k+1,by omega,by omega,by go_num,HFr.out.far (p:=⟨w.heap.size+1,3,none⟩) (by simp) _,by rw[←HST2.out,←HV2.out];exact HG2.out.set3 _,belowD (HYr.out.setCell (p:=⟨w.heap.size+1,3,none⟩) (by simp) _)⟩
   case measure=>simp[intOf]<;>omega
  ·obtain rfl:k=i:=by omega
   have hvl:=kes7 H01.out bg k (by omega);have HGE:=Lib.hid (show num (1::(h.drop bg).take (k-bg))=mbeg h k by rw[HBG.out];rfl);have hgr:=HGr.out;rw[HGE.out] at hgr hvl;obtain⟨V,hV⟩:∃ V,V=mbeg h k:=⟨_,rfl⟩
   have HV:=Lib.hid hV;rw[←hV] at hgr hvl;have HGr:=Lib.hid hgr;clear hgr hV HGE;have HGx:=HGr;have HFx:=HFr;have HYx:=HYr;clear HGr HFr HYr;have g0:=HGx.out.c0;have g1:=HGx.out.c1;have g2:=HGx.out.c2;have g3:=HGx.out.c3;have f0:=HFx.out.f0;have f1:=HFx.out.f1;have f2:=HFx.out.f2;have f3:=HFx.out.f3;have e0:=HFx.out.c0;have e1:=HFx.out.c1;have e2:=HFx.out.c2;have e3:=HFx.out.c3
   go_wp2
   have rr:=(((HFx.out.set0 (.int .i64 0)).set1 (.int .i64 (0))).set2 (.int .i64 (0))).set3 (.int .i64 (V:Nat));have r0:=rr.c0;have r1:=rr.c1;have r2:=rr.c2;have r3:=rr.c3;refine bodyPost_ret (v:=.agg #[.int .i64 0,.int .i64 (0),.int .i64 (0),.int .i64 (V:Nat)]) (by simp[results,Tryz.results80,go_sem,r0,r1,r2,r3]) rfl ⟨?_,?_⟩
   ·rw[HV.out];rfl
   ·exact(((HYx.out.setCell (p:=⟨w.heap.size,0,none⟩) (by simp) _).setCell (p:=⟨w.heap.size,1,none⟩) (by simp) _).setCell (p:=⟨w.heap.size,2,none⟩) (by simp) _).setCell (p:=⟨w.heap.size,3,none⟩) (by simp) _
theorem refctx_1{A:Option Addr}{n c:Nat}{h:List Nat}{w:World}(hr:Rd w A n c (ncells h))(h01:Is01 h)(i:Nat)(hi:i≤h.length)(ii:Int)(hii:ii=(i:Nat)) :
  Calls Tryz.prog 80 #[.slice A n c,.int .i64 ii,.int .i64 1] w fun e w'=>e=.returned (cval (ctx h i 1))∧Below w.heap.size w w':=by
 subst hii;have hn:=hr.len;rw[kz7] at hn;have hcap:=Reads.cap hr;have hcm:=Reads.capMax hr;unfold maxLen at hcm;obtain⟨bg,hbg⟩:∃ bg,bg=cbeg i:=⟨_,rfl⟩
 have hb1:bg≤i:=by rw[hbg];unfold cbeg;omega
 have hb2:i-bg≤7:=by rw[hbg];unfold cbeg;omega
 have HBE:=Lib.hid (show(i:Int)-(i:Int) % 8=((bg:Nat):Int) by rw[hbg];unfold cbeg;omega);have HBG:=Lib.hid hbg;have HR:=Lib.hid hr;have H01:=Lib.hid h01;have F0:=Four.new w 123 (.int .i64 0) (.int .i64 0) (.int .i64 0) (.int .i64 0);have F1:=F0.alloc (.cells #[.int .i64 1,.int .i64 0,.int .i64 0,.int .i64 1] 123);have G1:=Four.new1 w (.cells #[.int .i64 0,.int .i64 0,.int .i64 0,.int .i64 0] 123) 123 (.int .i64 1) (.int .i64 0) (.int .i64 0) (.int .i64 1);have y1:=((Below.refl w.heap.size w).alloc (Nat.le_refl _) (.cells #[.int .i64 0,.int .i64 0,.int .i64 0,.int .i64 0] 123)).alloc (by simp) (.cells #[.int .i64 1,.int .i64 0,.int .i64 0,.int .i64 1] 123);clear hbg hr h01
 go_enter Tryz.func80,Tryz.ntmps80
 go_upto_region 2 with(fail)
 rw[HBE.out]
 go_upto_region 4 with(fail)
 generalize ((w.alloc (.cells #[.int .i64 0,.int .i64 0,.int .i64 0,.int .i64 0] 123)).alloc (.cells #[.int .i64 1,.int .i64 0,.int .i64 0,.int .i64 1] 123))=w1 at F1 G1 y1 ⊢;have HF:=Lib.hid F1;have HG:=Lib.hid G1;have HY:=Lib.hid y1;clear F1 G1 y1 F0
 go_loopw [9] (fun kv wr=>∃ k:Nat,bg≤k∧k≤i∧kv=.int .i64 (k:Nat)∧Four wr w.heap.size 123 (.int .i64 0) (.int .i64 0) (.int .i64 0) (.int .i64 0)∧Four wr (w.heap.size+1) 123 (.int .i64 1) (.int .i64 0) (.int .i64 0) (.int .i64 (num (1::(h.drop bg).take (k-bg)):Nat))∧Below w.heap.size w wr) (fun kv _=>i-(intOf kv).toNat)
 case atStart=>exact⟨bg,by omega,hb1,rfl,HF.out,by rw[Nat.sub_self,List.take_zero];exact HG.out,HY.out⟩
 case round =>
  obtain⟨k,hk1,hk2,rfl,F,G,yr⟩:=hrel;have HFr:=Lib.hid F;have HGr:=Lib.hid G;have HYr:=Lib.hid yr;clear F G yr HF HG HY;by_cases hlt:k<i
  ·obtain⟨g,off,rfl,hg,hc⟩:=(HR.out.on HYr.out).2.2.2 (by omega);have hcell:=hc k _ (kad7 h k (by omega));have hx2:=H01.out k;have HST:=kgp7 (h:=h) bg k hk1 (by omega);have hvl:=kes7 H01.out bg k (by omega);obtain⟨x,hx⟩:∃ x,x=h.getD k 0:=⟨_,rfl⟩
   obtain⟨V,hV⟩:∃ V,V=num (1::(h.drop bg).take (k-bg)):=⟨_,rfl⟩
   have hgr:=HGr.out;rw[←hx] at hcell hx2 HST;rw[←hV] at HST hvl hgr;have HST2:=Lib.hid HST;have c3:=hgr.c3;have f3:=hgr.f3;have HG2:=Lib.hid hgr;clear hc hx hV HST hgr;obtain⟨V2,hV2⟩:∃ V2,V2=2*V+x:=⟨_,rfl⟩
   have HV2:=Lib.hid hV2;have HV3:=Lib.hid (show 2*(V:Int)+(x:Int)=((V2:Nat):Int) by omega);clear hV2
   go_upto_region 6 with(fail)
   go_region
   all_goals try go_wp2_with fail
   rw[HV3.out]
   go_roundw
   case rel=>exact⟨k+1,by omega,by omega,by go_num,HFr.out.far (p:=⟨w.heap.size+1,3,none⟩) (by simp) _,by rw[←HST2.out,←HV2.out];exact HG2.out.set3 _,belowD (HYr.out.setCell (p:=⟨w.heap.size+1,3,none⟩) (by simp) _)⟩
   case measure=>simp[intOf]<;>omega
  ·obtain rfl:k=i:=by omega
   have hvl:=kes7 H01.out bg k (by omega);have HGE:=Lib.hid (show num (1::(h.drop bg).take (k-bg))=mbeg h k by rw[HBG.out];rfl);have hgr:=HGr.out;rw[HGE.out] at hgr hvl;obtain⟨V,hV⟩:∃ V,V=mbeg h k:=⟨_,rfl⟩
   have HV:=Lib.hid hV;rw[←hV] at hgr hvl;have HGr:=Lib.hid hgr;clear hgr hV HGE;obtain⟨i0,hi0,hz0,hz1,hz2⟩:=info_parts kce7;rcases(by omega:bg<8∨(8≤bg∧bg<16)∨16≤bg) with hbg|⟨hbg,hbg2⟩|hbg
   ·have hml:mlast h k=0:=by unfold mlast;rw[←HBG.out,if_neg (by omega)]
    have hmb:mbefore h k=0:=by unfold mbefore;rw[←HBG.out,if_neg (by omega)]
    have HZ:=Lib.hid hml;clear hml hmb;have HGx:=HGr;have HFx:=HFr;have HYx:=HYr;have g0:=HGx.out.c0;have g1:=HGx.out.c1;have g2:=HGx.out.c2;have g3:=HGx.out.c3;have f0:=HFx.out.f0;have f1:=HFx.out.f1;have f2:=HFx.out.f2;have f3:=HFx.out.f3;have e0:=HFx.out.c0;have e1:=HFx.out.c1;have e2:=HFx.out.c2;have e3:=HFx.out.c3
    go_wp2
    have rr:=(((HFx.out.set0 (.int .i64 1)).set1 (.int .i64 (0))).set2 (.int .i64 (0))).set3 (.int .i64 (V:Nat));have r0:=rr.c0;have r1:=rr.c1;have r2:=rr.c2;have r3:=rr.c3;refine bodyPost_ret (v:=.agg #[.int .i64 1,.int .i64 (0),.int .i64 (0),.int .i64 (V:Nat)]) (by simp[results,Tryz.results80,go_sem,r0,r1,r2,r3]) rfl ⟨?_,?_⟩
    ·rw[HV.out];unfold cval ctx;rw[if_pos (by decide),if_neg (by decide),HZ.out];rfl
    ·exact(((HYx.out.setCell (p:=⟨w.heap.size,0,none⟩) (by simp) _).setCell (p:=⟨w.heap.size,1,none⟩) (by simp) _).setCell (p:=⟨w.heap.size,2,none⟩) (by simp) _).setCell (p:=⟨w.heap.size,3,none⟩) (by simp) _
   ·obtain⟨fl,hfl⟩:∃ fl,fl=bg-8:=⟨_,rfl⟩
    obtain⟨fh,hfh⟩:∃ fh,fh=bg-0:=⟨_,rfl⟩
    have ia:(bg:Int)-8=((fl:Nat):Int):=by omega
    have ib:(bg:Int)=((fh:Nat):Int):=by omega
    have hfhl:fh-fl=8:=by omega
    obtain⟨A8,hrun,hrd⟩:=Rd.cut (P:=Tryz.prog) 41 3 i0 Tryz.underlying41 hi0 hz1 (HR.out.on HYr.out) fl fh (by omega) (by omega);rw[hfhl] at hrun hrd;rw[←ia,←ib] at hrun;obtain⟨l8,hl8⟩:∃ l8,l8=(h.drop fl).take 8:=⟨_,rfl⟩
    have h8:Is01 l8:=by rw[hl8];exact(H01.out.drop fl).take 8
    have hl8n:l8.length≤61:=by rw[hl8,List.length_take];omega
    rw[←hl8] at hrd;obtain⟨M,hM⟩:∃ M,M=num l8:=⟨_,rfl⟩
    have hML:M<256:=by
     have a:=kgk7 h8;have b:2 ^ l8.length≤2 ^ 8:=Nat.pow_le_pow_right (by decide) (by rw[hl8,List.length_take];omega);omega
    have HNUM:=Lib.hid (show Calls Tryz.prog 29 #[.slice A8 8 (c-fl)] _ _ from kek7 hrd h8 hl8n);rw[←hM] at HNUM;have q1:=Lib.hid (show M % 32=mlast h k by
     unfold mlast;rw[←HBG.out,if_pos (by omega),hM,hl8,hfl])
    have HFL:=Lib.hid (And.intro hfl hfh);clear ia ib hfl hfh hrd hl8 h8 hM hfhl hl8n;have g1:=HGr.out.c1;have j1:=HGr.out.f1
    go_wp2_with fail
    refine HNUM.out.mono ?_;rintro e w9 ⟨rfl,rfl⟩
    go_upto_region 9 with(fail)
    have Fq1:=HFr.out.far (p:=⟨w.heap.size+1,1,none⟩) (by simp) (.int .i64 ((M:Int) % 32));have Gq1:=HGr.out.set1 (.int .i64 ((M:Int) % 32));have Yq1:=HYr.out.setCell (p:=⟨w.heap.size+1,1,none⟩) (by simp) (.int .i64 ((M:Int) % 32));generalize wr.setCell ⟨w.heap.size+1,1,none⟩ (.int .i64 ((M:Int) % 32))=wr at Fq1 Gq1 Yq1 ⊢;have q1I:=Lib.hid (show(M:Int) % 32=((mlast h k:Nat):Int) by rw[←q1.out];omega);rw[q1I.out] at Gq1;obtain⟨m1,hm1⟩:∃ m,m=mlast h k:=⟨_,rfl⟩
    rw[←hm1] at Gq1;have HM1:=Lib.hid hm1;have HFq1:=Lib.hid Fq1;have HGq1:=Lib.hid Gq1;have HYq1:=Lib.hid Yq1;clear Fq1 Gq1 Yq1 hm1 g1 j1 hrun HNUM;have HGx:=HGq1;have HFx:=HFq1;have HYx:=HYq1;have g0:=HGx.out.c0;have g1:=HGx.out.c1;have g2:=HGx.out.c2;have g3:=HGx.out.c3;have f0:=HFx.out.f0;have f1:=HFx.out.f1;have f2:=HFx.out.f2;have f3:=HFx.out.f3;have e0:=HFx.out.c0;have e1:=HFx.out.c1;have e2:=HFx.out.c2;have e3:=HFx.out.c3
    go_wp2
    have rr:=(((HFx.out.set0 (.int .i64 1)).set1 (.int .i64 ((m1:Nat)))).set2 (.int .i64 (0))).set3 (.int .i64 (V:Nat));have r0:=rr.c0;have r1:=rr.c1;have r2:=rr.c2;have r3:=rr.c3;refine bodyPost_ret (v:=.agg #[.int .i64 1,.int .i64 ((m1:Nat)),.int .i64 (0),.int .i64 (V:Nat)]) (by simp[results,Tryz.results80,go_sem,r0,r1,r2,r3]) rfl ⟨?_,?_⟩
    ·rw[HV.out,HM1.out];rfl
    ·exact(((HYx.out.setCell (p:=⟨w.heap.size,0,none⟩) (by simp) _).setCell (p:=⟨w.heap.size,1,none⟩) (by simp) _).setCell (p:=⟨w.heap.size,2,none⟩) (by simp) _).setCell (p:=⟨w.heap.size,3,none⟩) (by simp) _
   ·obtain⟨fl,hfl⟩:∃ fl,fl=bg-8:=⟨_,rfl⟩
    obtain⟨fh,hfh⟩:∃ fh,fh=bg-0:=⟨_,rfl⟩
    have ia:(bg:Int)-8=((fl:Nat):Int):=by omega
    have ib:(bg:Int)=((fh:Nat):Int):=by omega
    have hfhl:fh-fl=8:=by omega
    obtain⟨A8,hrun,hrd⟩:=Rd.cut (P:=Tryz.prog) 41 3 i0 Tryz.underlying41 hi0 hz1 (HR.out.on HYr.out) fl fh (by omega) (by omega);rw[hfhl] at hrun hrd;rw[←ia,←ib] at hrun;obtain⟨l8,hl8⟩:∃ l8,l8=(h.drop fl).take 8:=⟨_,rfl⟩
    have h8:Is01 l8:=by rw[hl8];exact(H01.out.drop fl).take 8
    have hl8n:l8.length≤61:=by rw[hl8,List.length_take];omega
    rw[←hl8] at hrd;obtain⟨M,hM⟩:∃ M,M=num l8:=⟨_,rfl⟩
    have hML:M<256:=by
     have a:=kgk7 h8;have b:2 ^ l8.length≤2 ^ 8:=Nat.pow_le_pow_right (by decide) (by rw[hl8,List.length_take];omega);omega
    have HNUM:=Lib.hid (show Calls Tryz.prog 29 #[.slice A8 8 (c-fl)] _ _ from kek7 hrd h8 hl8n);rw[←hM] at HNUM;have q1:=Lib.hid (show M % 32=mlast h k by
     unfold mlast;rw[←HBG.out,if_pos (by omega),hM,hl8,hfl])
    have HFL:=Lib.hid (And.intro hfl hfh);clear ia ib hfl hfh hrd hl8 h8 hM hfhl hl8n;have g1:=HGr.out.c1;have j1:=HGr.out.f1
    go_wp2_with fail
    refine HNUM.out.mono ?_;rintro e w9 ⟨rfl,rfl⟩
    go_upto_region 9 with(fail)
    have Fq1:=HFr.out.far (p:=⟨w.heap.size+1,1,none⟩) (by simp) (.int .i64 ((M:Int) % 32));have Gq1:=HGr.out.set1 (.int .i64 ((M:Int) % 32));have Yq1:=HYr.out.setCell (p:=⟨w.heap.size+1,1,none⟩) (by simp) (.int .i64 ((M:Int) % 32));generalize wr.setCell ⟨w.heap.size+1,1,none⟩ (.int .i64 ((M:Int) % 32))=wr at Fq1 Gq1 Yq1 ⊢;have q1I:=Lib.hid (show(M:Int) % 32=((mlast h k:Nat):Int) by rw[←q1.out];omega);rw[q1I.out] at Gq1;obtain⟨m1,hm1⟩:∃ m,m=mlast h k:=⟨_,rfl⟩
    rw[←hm1] at Gq1;have HM1:=Lib.hid hm1;have HFq1:=Lib.hid Fq1;have HGq1:=Lib.hid Gq1;have HYq1:=Lib.hid Yq1;clear Fq1 Gq1 Yq1 hm1 g1 j1 hrun HNUM;have HGx:=HGq1;have HFx:=HFq1;have HYx:=HYq1;have g0:=HGx.out.c0;have g1:=HGx.out.c1;have g2:=HGx.out.c2;have g3:=HGx.out.c3;have f0:=HFx.out.f0;have f1:=HFx.out.f1;have f2:=HFx.out.f2;have f3:=HFx.out.f3;have e0:=HFx.out.c0;have e1:=HFx.out.c1;have e2:=HFx.out.c2;have e3:=HFx.out.c3
    go_wp2
    have rr:=(((HFx.out.set0 (.int .i64 1)).set1 (.int .i64 ((m1:Nat)))).set2 (.int .i64 (0))).set3 (.int .i64 (V:Nat));have r0:=rr.c0;have r1:=rr.c1;have r2:=rr.c2;have r3:=rr.c3;refine bodyPost_ret (v:=.agg #[.int .i64 1,.int .i64 ((m1:Nat)),.int .i64 (0),.int .i64 (V:Nat)]) (by simp[results,Tryz.results80,go_sem,r0,r1,r2,r3]) rfl ⟨?_,?_⟩
    ·rw[HV.out,HM1.out];rfl
    ·exact(((HYx.out.setCell (p:=⟨w.heap.size,0,none⟩) (by simp) _).setCell (p:=⟨w.heap.size,1,none⟩) (by simp) _).setCell (p:=⟨w.heap.size,2,none⟩) (by simp) _).setCell (p:=⟨w.heap.size,3,none⟩) (by simp) _
theorem refctx_2{A:Option Addr}{n c:Nat}{h:List Nat}{w:World}(hr:Rd w A n c (ncells h))(h01:Is01 h)(i:Nat)(hi:i≤h.length)(ii:Int)(hii:ii=(i:Nat)) :
  Calls Tryz.prog 80 #[.slice A n c,.int .i64 ii,.int .i64 2] w fun e w'=>e=.returned (cval (ctx h i 2))∧Below w.heap.size w w':=by
 subst hii;have hn:=hr.len;rw[kz7] at hn;have hcap:=Reads.cap hr;have hcm:=Reads.capMax hr;unfold maxLen at hcm;obtain⟨bg,hbg⟩:∃ bg,bg=cbeg i:=⟨_,rfl⟩
 have hb1:bg≤i:=by rw[hbg];unfold cbeg;omega
 have hb2:i-bg≤7:=by rw[hbg];unfold cbeg;omega
 have HBE:=Lib.hid (show(i:Int)-(i:Int) % 8=((bg:Nat):Int) by rw[hbg];unfold cbeg;omega);have HBG:=Lib.hid hbg;have HR:=Lib.hid hr;have H01:=Lib.hid h01;have F0:=Four.new w 123 (.int .i64 0) (.int .i64 0) (.int .i64 0) (.int .i64 0);have F1:=F0.alloc (.cells #[.int .i64 2,.int .i64 0,.int .i64 0,.int .i64 1] 123);have G1:=Four.new1 w (.cells #[.int .i64 0,.int .i64 0,.int .i64 0,.int .i64 0] 123) 123 (.int .i64 2) (.int .i64 0) (.int .i64 0) (.int .i64 1);have y1:=((Below.refl w.heap.size w).alloc (Nat.le_refl _) (.cells #[.int .i64 0,.int .i64 0,.int .i64 0,.int .i64 0] 123)).alloc (by simp) (.cells #[.int .i64 2,.int .i64 0,.int .i64 0,.int .i64 1] 123);clear hbg hr h01
 go_enter Tryz.func80,Tryz.ntmps80
 go_upto_region 2 with(fail)
 rw[HBE.out]
 go_upto_region 4 with(fail)
 generalize ((w.alloc (.cells #[.int .i64 0,.int .i64 0,.int .i64 0,.int .i64 0] 123)).alloc (.cells #[.int .i64 2,.int .i64 0,.int .i64 0,.int .i64 1] 123))=w1 at F1 G1 y1 ⊢;have HF:=Lib.hid F1;have HG:=Lib.hid G1;have HY:=Lib.hid y1;clear F1 G1 y1 F0
 go_loopw [9] (fun kv wr=>∃ k:Nat,bg≤k∧k≤i∧kv=.int .i64 (k:Nat)∧Four wr w.heap.size 123 (.int .i64 0) (.int .i64 0) (.int .i64 0) (.int .i64 0)∧Four wr (w.heap.size+1) 123 (.int .i64 2) (.int .i64 0) (.int .i64 0) (.int .i64 (num (1::(h.drop bg).take (k-bg)):Nat))∧Below w.heap.size w wr) (fun kv _=>i-(intOf kv).toNat)
 case atStart=>exact⟨bg,by omega,hb1,rfl,HF.out,by rw[Nat.sub_self,List.take_zero];exact HG.out,HY.out⟩
 case round =>
  obtain⟨k,hk1,hk2,rfl,F,G,yr⟩:=hrel;have HFr:=Lib.hid F;have HGr:=Lib.hid G;have HYr:=Lib.hid yr;clear F G yr HF HG HY;by_cases hlt:k<i
  ·obtain⟨g,off,rfl,hg,hc⟩:=(HR.out.on HYr.out).2.2.2 (by omega);have hcell:=hc k _ (kad7 h k (by omega));have hx2:=H01.out k;have HST:=kgp7 (h:=h) bg k hk1 (by omega);have hvl:=kes7 H01.out bg k (by omega);obtain⟨x,hx⟩:∃ x,x=h.getD k 0:=⟨_,rfl⟩
   obtain⟨V,hV⟩:∃ V,V=num (1::(h.drop bg).take (k-bg)):=⟨_,rfl⟩
   have hgr:=HGr.out;rw[←hx] at hcell hx2 HST;rw[←hV] at HST hvl hgr;have HST2:=Lib.hid HST;have c3:=hgr.c3;have f3:=hgr.f3;have HG2:=Lib.hid hgr;clear hc hx hV HST hgr;obtain⟨V2,hV2⟩:∃ V2,V2=2*V+x:=⟨_,rfl⟩
   have HV2:=Lib.hid hV2;have HV3:=Lib.hid (show 2*(V:Int)+(x:Int)=((V2:Nat):Int) by omega);clear hV2
   go_upto_region 6 with(fail)
   go_region
   all_goals try go_wp2_with fail
   rw[HV3.out]
   go_roundw
   case rel=>exact⟨k+1,by omega,by omega,by go_num,HFr.out.far (p:=⟨w.heap.size+1,3,none⟩) (by simp) _,by rw[←HST2.out,←HV2.out];exact HG2.out.set3 _,belowD (HYr.out.setCell (p:=⟨w.heap.size+1,3,none⟩) (by simp) _)⟩
   case measure=>simp[intOf]<;>omega
  ·obtain rfl:k=i:=by omega
   have hvl:=kes7 H01.out bg k (by omega);have HGE:=Lib.hid (show num (1::(h.drop bg).take (k-bg))=mbeg h k by rw[HBG.out];rfl);have hgr:=HGr.out;rw[HGE.out] at hgr hvl;obtain⟨V,hV⟩:∃ V,V=mbeg h k:=⟨_,rfl⟩
   have HV:=Lib.hid hV;rw[←hV] at hgr hvl;have HGr:=Lib.hid hgr;clear hgr hV HGE;obtain⟨i0,hi0,hz0,hz1,hz2⟩:=info_parts kce7;rcases(by omega:bg<8∨(8≤bg∧bg<16)∨16≤bg) with hbg|⟨hbg,hbg2⟩|hbg
   ·have hml:mlast h k=0:=by unfold mlast;rw[←HBG.out,if_neg (by omega)]
    have hmb:mbefore h k=0:=by unfold mbefore;rw[←HBG.out,if_neg (by omega)]
    have HZ:=Lib.hid hml;have HZ2:=Lib.hid hmb;clear hml hmb;have HGx:=HGr;have HFx:=HFr;have HYx:=HYr;have g0:=HGx.out.c0;have g1:=HGx.out.c1;have g2:=HGx.out.c2;have g3:=HGx.out.c3;have f0:=HFx.out.f0;have f1:=HFx.out.f1;have f2:=HFx.out.f2;have f3:=HFx.out.f3;have e0:=HFx.out.c0;have e1:=HFx.out.c1;have e2:=HFx.out.c2;have e3:=HFx.out.c3
    go_wp2
    have rr:=(((HFx.out.set0 (.int .i64 2)).set1 (.int .i64 (0))).set2 (.int .i64 (0))).set3 (.int .i64 (V:Nat));have r0:=rr.c0;have r1:=rr.c1;have r2:=rr.c2;have r3:=rr.c3;refine bodyPost_ret (v:=.agg #[.int .i64 2,.int .i64 (0),.int .i64 (0),.int .i64 (V:Nat)]) (by simp[results,Tryz.results80,go_sem,r0,r1,r2,r3]) rfl ⟨?_,?_⟩
    ·rw[HV.out];unfold cval ctx;rw[if_pos (by decide),if_pos (by decide),HZ.out,HZ2.out];rfl
    ·exact(((HYx.out.setCell (p:=⟨w.heap.size,0,none⟩) (by simp) _).setCell (p:=⟨w.heap.size,1,none⟩) (by simp) _).setCell (p:=⟨w.heap.size,2,none⟩) (by simp) _).setCell (p:=⟨w.heap.size,3,none⟩) (by simp) _
   ·have hmb:mbefore h k=0:=by unfold mbefore;rw[←HBG.out,if_neg (by omega)]
    have HZ:=Lib.hid hmb;clear hmb;obtain⟨fl,hfl⟩:∃ fl,fl=bg-8:=⟨_,rfl⟩
    obtain⟨fh,hfh⟩:∃ fh,fh=bg-0:=⟨_,rfl⟩
    have ia:(bg:Int)-8=((fl:Nat):Int):=by omega
    have ib:(bg:Int)=((fh:Nat):Int):=by omega
    have hfhl:fh-fl=8:=by omega
    obtain⟨A8,hrun,hrd⟩:=Rd.cut (P:=Tryz.prog) 41 3 i0 Tryz.underlying41 hi0 hz1 (HR.out.on HYr.out) fl fh (by omega) (by omega);rw[hfhl] at hrun hrd;rw[←ia,←ib] at hrun;obtain⟨l8,hl8⟩:∃ l8,l8=(h.drop fl).take 8:=⟨_,rfl⟩
    have h8:Is01 l8:=by rw[hl8];exact(H01.out.drop fl).take 8
    have hl8n:l8.length≤61:=by rw[hl8,List.length_take];omega
    rw[←hl8] at hrd;obtain⟨M,hM⟩:∃ M,M=num l8:=⟨_,rfl⟩
    have hML:M<256:=by
     have a:=kgk7 h8;have b:2 ^ l8.length≤2 ^ 8:=Nat.pow_le_pow_right (by decide) (by rw[hl8,List.length_take];omega);omega
    have HNUM:=Lib.hid (show Calls Tryz.prog 29 #[.slice A8 8 (c-fl)] _ _ from kek7 hrd h8 hl8n);rw[←hM] at HNUM;have q1:=Lib.hid (show M % 32=mlast h k by
     unfold mlast;rw[←HBG.out,if_pos (by omega),hM,hl8,hfl])
    have HFL:=Lib.hid (And.intro hfl hfh);clear ia ib hfl hfh hrd hl8 h8 hM hfhl hl8n;have g1:=HGr.out.c1;have j1:=HGr.out.f1
    go_wp2_with fail
    refine HNUM.out.mono ?_;rintro e w9 ⟨rfl,rfl⟩
    go_upto_region 9 with(fail)
    have Fq1:=HFr.out.far (p:=⟨w.heap.size+1,1,none⟩) (by simp) (.int .i64 ((M:Int) % 32));have Gq1:=HGr.out.set1 (.int .i64 ((M:Int) % 32));have Yq1:=HYr.out.setCell (p:=⟨w.heap.size+1,1,none⟩) (by simp) (.int .i64 ((M:Int) % 32));generalize wr.setCell ⟨w.heap.size+1,1,none⟩ (.int .i64 ((M:Int) % 32))=wr at Fq1 Gq1 Yq1 ⊢;have q1I:=Lib.hid (show(M:Int) % 32=((mlast h k:Nat):Int) by rw[←q1.out];omega);rw[q1I.out] at Gq1;obtain⟨m1,hm1⟩:∃ m,m=mlast h k:=⟨_,rfl⟩
    rw[←hm1] at Gq1;have HM1:=Lib.hid hm1;have HFq1:=Lib.hid Fq1;have HGq1:=Lib.hid Gq1;have HYq1:=Lib.hid Yq1;clear Fq1 Gq1 Yq1 hm1 g1 j1 hrun HNUM;have HGx:=HGq1;have HFx:=HFq1;have HYx:=HYq1;have g0:=HGx.out.c0;have g1:=HGx.out.c1;have g2:=HGx.out.c2;have g3:=HGx.out.c3;have f0:=HFx.out.f0;have f1:=HFx.out.f1;have f2:=HFx.out.f2;have f3:=HFx.out.f3;have e0:=HFx.out.c0;have e1:=HFx.out.c1;have e2:=HFx.out.c2;have e3:=HFx.out.c3
    go_wp2
    have rr:=(((HFx.out.set0 (.int .i64 2)).set1 (.int .i64 ((m1:Nat)))).set2 (.int .i64 (0))).set3 (.int .i64 (V:Nat));have r0:=rr.c0;have r1:=rr.c1;have r2:=rr.c2;have r3:=rr.c3;refine bodyPost_ret (v:=.agg #[.int .i64 2,.int .i64 ((m1:Nat)),.int .i64 (0),.int .i64 (V:Nat)]) (by simp[results,Tryz.results80,go_sem,r0,r1,r2,r3]) rfl ⟨?_,?_⟩
    ·rw[HV.out,HM1.out];unfold cval ctx;rw[if_pos (by decide),if_pos (by decide),HZ.out];rfl
    ·exact(((HYx.out.setCell (p:=⟨w.heap.size,0,none⟩) (by simp) _).setCell (p:=⟨w.heap.size,1,none⟩) (by simp) _).setCell (p:=⟨w.heap.size,2,none⟩) (by simp) _).setCell (p:=⟨w.heap.size,3,none⟩) (by simp) _
   ·obtain⟨fl,hfl⟩:∃ fl,fl=bg-8:=⟨_,rfl⟩
    obtain⟨fh,hfh⟩:∃ fh,fh=bg-0:=⟨_,rfl⟩
    have ia:(bg:Int)-8=((fl:Nat):Int):=by omega
    have ib:(bg:Int)=((fh:Nat):Int):=by omega
    have hfhl:fh-fl=8:=by omega
    obtain⟨A8,hrun,hrd⟩:=Rd.cut (P:=Tryz.prog) 41 3 i0 Tryz.underlying41 hi0 hz1 (HR.out.on HYr.out) fl fh (by omega) (by omega);rw[hfhl] at hrun hrd;rw[←ia,←ib] at hrun;obtain⟨l8,hl8⟩:∃ l8,l8=(h.drop fl).take 8:=⟨_,rfl⟩
    have h8:Is01 l8:=by rw[hl8];exact(H01.out.drop fl).take 8
    have hl8n:l8.length≤61:=by rw[hl8,List.length_take];omega
    rw[←hl8] at hrd;obtain⟨M,hM⟩:∃ M,M=num l8:=⟨_,rfl⟩
    have hML:M<256:=by
     have a:=kgk7 h8;have b:2 ^ l8.length≤2 ^ 8:=Nat.pow_le_pow_right (by decide) (by rw[hl8,List.length_take];omega);omega
    have HNUM:=Lib.hid (show Calls Tryz.prog 29 #[.slice A8 8 (c-fl)] _ _ from kek7 hrd h8 hl8n);rw[←hM] at HNUM;have q1:=Lib.hid (show M % 32=mlast h k by
     unfold mlast;rw[←HBG.out,if_pos (by omega),hM,hl8,hfl])
    have HFL:=Lib.hid (And.intro hfl hfh);clear ia ib hfl hfh hrd hl8 h8 hM hfhl hl8n;have g1:=HGr.out.c1;have j1:=HGr.out.f1
    go_wp2_with fail
    refine HNUM.out.mono ?_;rintro e w9 ⟨rfl,rfl⟩
    go_upto_region 9 with(fail)
    have Fq1:=HFr.out.far (p:=⟨w.heap.size+1,1,none⟩) (by simp) (.int .i64 ((M:Int) % 32));have Gq1:=HGr.out.set1 (.int .i64 ((M:Int) % 32));have Yq1:=HYr.out.setCell (p:=⟨w.heap.size+1,1,none⟩) (by simp) (.int .i64 ((M:Int) % 32));generalize wr.setCell ⟨w.heap.size+1,1,none⟩ (.int .i64 ((M:Int) % 32))=wr at Fq1 Gq1 Yq1 ⊢;have q1I:=Lib.hid (show(M:Int) % 32=((mlast h k:Nat):Int) by rw[←q1.out];omega);rw[q1I.out] at Gq1;obtain⟨m1,hm1⟩:∃ m,m=mlast h k:=⟨_,rfl⟩
    rw[←hm1] at Gq1;have HM1:=Lib.hid hm1;have HFq1:=Lib.hid Fq1;have HGq1:=Lib.hid Gq1;have HYq1:=Lib.hid Yq1;clear Fq1 Gq1 Yq1 hm1 g1 j1 hrun HNUM;obtain⟨fl,hfl⟩:∃ fl,fl=bg-16:=⟨_,rfl⟩
    obtain⟨fh,hfh⟩:∃ fh,fh=bg-8:=⟨_,rfl⟩
    have ia:(bg:Int)-16=((fl:Nat):Int):=by omega
    have ib:((bg:Int)-8)=((fh:Nat):Int):=by omega
    have hfhl:fh-fl=8:=by omega
    obtain⟨A8,hrun,hrd⟩:=Rd.cut (P:=Tryz.prog) 41 3 i0 Tryz.underlying41 hi0 hz1 (HR.out.on HYq1.out) fl fh (by omega) (by omega);rw[hfhl] at hrun hrd;rw[←ia,←ib] at hrun;obtain⟨l8,hl8⟩:∃ l8,l8=(h.drop fl).take 8:=⟨_,rfl⟩
    have h8:Is01 l8:=by rw[hl8];exact(H01.out.drop fl).take 8
    have hl8n:l8.length≤61:=by rw[hl8,List.length_take];omega
    rw[←hl8] at hrd;obtain⟨M,hM⟩:∃ M,M=num l8:=⟨_,rfl⟩
    have hML:M<256:=by
     have a:=kgk7 h8;have b:2 ^ l8.length≤2 ^ 8:=Nat.pow_le_pow_right (by decide) (by rw[hl8,List.length_take];omega);omega
    have HNUM:=Lib.hid (show Calls Tryz.prog 29 #[.slice A8 8 (c-fl)] _ _ from kek7 hrd h8 hl8n);rw[←hM] at HNUM;have q2:=Lib.hid (show M % 32=mbefore h k by
     unfold mbefore;rw[←HBG.out,if_pos (by omega),hM,hl8,hfl])
    have HFL:=Lib.hid (And.intro hfl hfh);clear ia ib hfl hfh hrd hl8 h8 hM hfhl hl8n;have g2:=HGq1.out.c2;have j2:=HGq1.out.f2
    go_wp2_with fail
    refine HNUM.out.mono ?_;rintro e w9 ⟨rfl,rfl⟩
    go_upto_region 11 with(fail)
    have Fq2:=HFq1.out.far (p:=⟨w.heap.size+1,2,none⟩) (by simp) (.int .i64 ((M:Int) % 32));have Gq2:=HGq1.out.set2 (.int .i64 ((M:Int) % 32));have Yq2:=HYq1.out.setCell (p:=⟨w.heap.size+1,2,none⟩) (by simp) (.int .i64 ((M:Int) % 32));generalize wr.setCell ⟨w.heap.size+1,2,none⟩ (.int .i64 ((M:Int) % 32))=wr at Fq2 Gq2 Yq2 ⊢;have q2I:=Lib.hid (show(M:Int) % 32=((mbefore h k:Nat):Int) by rw[←q2.out];omega);rw[q2I.out] at Gq2;obtain⟨m2,hm2⟩:∃ m,m=mbefore h k:=⟨_,rfl⟩
    rw[←hm2] at Gq2;have HM2:=Lib.hid hm2;have HFq2:=Lib.hid Fq2;have HGq2:=Lib.hid Gq2;have HYq2:=Lib.hid Yq2;clear Fq2 Gq2 Yq2 hm2 g2 j2 hrun HNUM;have HGx:=HGq2;have HFx:=HFq2;have HYx:=HYq2;have g0:=HGx.out.c0;have g1:=HGx.out.c1;have g2:=HGx.out.c2;have g3:=HGx.out.c3;have f0:=HFx.out.f0;have f1:=HFx.out.f1;have f2:=HFx.out.f2;have f3:=HFx.out.f3;have e0:=HFx.out.c0;have e1:=HFx.out.c1;have e2:=HFx.out.c2;have e3:=HFx.out.c3
    go_wp2
    have rr:=(((HFx.out.set0 (.int .i64 2)).set1 (.int .i64 ((m1:Nat)))).set2 (.int .i64 ((m2:Nat)))).set3 (.int .i64 (V:Nat));have r0:=rr.c0;have r1:=rr.c1;have r2:=rr.c2;have r3:=rr.c3;refine bodyPost_ret (v:=.agg #[.int .i64 2,.int .i64 ((m1:Nat)),.int .i64 ((m2:Nat)),.int .i64 (V:Nat)]) (by simp[results,Tryz.results80,go_sem,r0,r1,r2,r3]) rfl ⟨?_,?_⟩
    ·rw[HV.out,HM1.out,HM2.out];rfl
    ·exact(((HYx.out.setCell (p:=⟨w.heap.size,0,none⟩) (by simp) _).setCell (p:=⟨w.heap.size,1,none⟩) (by simp) _).setCell (p:=⟨w.heap.size,2,none⟩) (by simp) _).setCell (p:=⟨w.heap.size,3,none⟩) (by simp) _
theorem refctx_any{A:Option Addr}{n c:Nat}{h:List Nat}{w:World}(hr:Rd w A n c (ncells h))(h01:Is01 h)(i o:Nat)(hi:i≤h.length)(ho:o≤2)(ii oi:Int)(hii:ii=(i:Nat))(hoi:oi=(o:Nat)) :
  Calls Tryz.prog 80 #[.slice A n c,.int .i64 ii,.int .i64 oi] w fun e w'=>e=.returned (cval (ctx h i o))∧Below w.heap.size w w':=by
 subst hoi;rcases(by omega:o=0∨o=1∨o=2) with rfl|rfl|rfl
 ·exact refctx_0 hr h01 i hi ii hii
 ·exact refctx_1 hr h01 i hi ii hii
 ·exact refctx_2 hr h01 i hi ii hii
end PB
end
end Go.Proofs.YtnpcandaehejbaaGreat
