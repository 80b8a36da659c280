/-
  squeeze.Unpack at the closed codes of packs: method 2 alone, and nothing.
-/
import Derived.Deep.RegionHeldLaw
import Derived.Conc.LeavingOf
import Derived.Test.YtnpcandaehejbaaGreatSqU5
import Derived.Test.YtnpcandaehejbaaGreatSqU6
import Derived.Test.YtnpcandaehejbaaGreatSqU7
import Derived.Test.YtnpcandaehejbaaGreatSqU8
import Derived.Test.YtnpcandaehejbaaGreatSqU11
import Derived.Test.YtnpcandaehejbaaGreatSqU12
set_option linter.unusedVariables false
set_option linter.unusedSimpArgs false
set_option linter.unusedSectionVars false
set_option maxHeartbeats 6400000
set_option maxRecDepth 100000
namespace Go.Proofs.YtnpcandaehejbaaGreat
section
open Go.RowKit
attribute [local go_sem ↓] Go.wp_at_zero Go.wp_at_succ
namespace PB
theorem munp_ex{D:List Nat}{ok:Bool}(h:MUnp [48,240] [] 4 D ok):D=[97,97,97,97]∧ok=true:=by
 obtain⟨cd,ix,ts,en,hD,h⟩:=h;obtain⟨rfl,rfl,rfl,rfl⟩:=ex_dec.det hD;have e0:num ((allbits [48,240]).drop 12)=0:=by decide +kernel
 have e1:expf 0 [⟨0,0,97⟩,⟨1,3,0⟩] 0 []=(0,0,[97,97,97,97]):=by decide +kernel
 rcases h with⟨hn,_⟩|⟨_,rfl,rfl⟩
 ·exact absurd ⟨rfl,by decide,e0⟩ hn
 ·simp only[List.length_nil,e1];exact⟨rfl,rfl⟩
theorem unpack_ex{A:Option Addr}{c:Nat}{w:World}(h:Rd w A 5 c (bcells [2,4,0,48,240])) :
  Calls Tryz.prog 25 #[.slice A 5 c,.slice none 0 0] w fun e w'=>∃ A' m' c',e=.returned (.tuple #[.slice A' m' c',.bool true])∧Rd w' A' m' c' (bcells [97,97,97,97])∧Below w.heap.size w w':=by
 have H:=Lib.hid h;have hcap:=h.2.1;have hcm:=h.2.2.1;unfold maxLen at hcm;obtain⟨i0,hi,hz0,hz1,hz2⟩:=info_parts kar7;clear h
 go_enter Tryz.func25,Tryz.ntmps25
 go_wp2_with fail
 refine(kec7 _).mono ?_;rintro e w2 ⟨g,rfl,hb,hg,y2⟩;have R2:=H.out.on y2;have hr2:=R2;obtain⟨bA,off,rfl,hbA,hcc⟩:=hr2.2.2.2 (by decide);have x0:w2.cell? ⟨bA,off+0,none⟩=some (.int .u8 2):=hcc 0 _ rfl;have x1:w2.cell? ⟨bA,off+1,none⟩=some (.int .u8 4):=hcc 1 _ rfl;have x2:w2.cell? ⟨bA,off+2,none⟩=some (.int .u8 0):=hcc 2 _ rfl;rw[Nat.add_zero] at x0;have HB:=Lib.hid hb;have Y2:=Lib.hid y2;have HR2:=Lib.hid R2;clear hcc hb y2 hr2 R2
 go_upto_region 8 with(fail)
 go_quiet (fail)
 have eb:bits .or .i64 (4:Int) 0=((4:Nat):Int):=by decide
 try rw[eb]
 have hbd:Below w2.heap.size w2 (w2.drewN nq):=⟨rfl,rfl,rfl,Nat.le_refl _,fun _ _=>rfl⟩
 have Y3:=Lib.hid (Y2.out.trans (hbd.mono Y2.out.size));have HR3:=Lib.hid (HR2.out.on hbd);have HB3:=Lib.hid (HB.out.on hbd);have hx03:(w2.drewN nq).cell? ⟨bA,off,none⟩=some (.int .u8 2):=x0;clear hbd x0 x1 x2 HR2 Y2 HB eb;generalize w2.drewN nq=w3 at Y3 HR3 HB3 hx03 ⊢;obtain⟨A1,hrun,hr1⟩:=Rd.tail (P:=Tryz.prog) (A:=some ⟨bA,off,none⟩) (n:=5) (c:=c) 22 5 i0 Tryz.underlying22 hi hz1 hcap 3 (by decide);have hrun1:∀ W,(Instr.slice 22 (.slice (some ⟨bA,off,none⟩) 5 c) (some (.int .i64 3)) none none).run Tryz.prog W=.ok (.slice A1 2 (c-3)) W:=hrun;have R1:Rd w3 A1 2 (c-3) (bcells [48,240]):=hr1 w3 _ HR3.out;have R1H:=Lib.hid R1;clear hrun hr1 R1
 go_upto_region 11 with(fail)
 have RD:Rd w3.drew A1 2 (c-3) (bcells [48,240]):=R1H.out;have m0:w3.cell? ⟨g,1,none⟩=some (.iface 110 (.agg #[])):=Blk.cell HB3.out 1;have hmm:=meth_mat;have nil:Rd w3.drew none 0 0 (bcells []):=Reads.nil _ _ none 0 (Nat.zero_le _);have HC:=Lib.hid (munpack_any (N:=4) RD nil (by decide) (by decide) (by decide) (by intro k;rcases k with _|_|k<;>simp));clear nil RD
 go_region_with (go_at_call 144;refine HC.out.mono ?_;rintro e w4 ⟨A4,m4,c4,D4,ok4,rfl,hU,R4,y4⟩;obtain⟨rfl,rfl⟩:=munp_ex hU;have R4:=Lib.hid R4;have Y4:=Lib.hid ((belowD Y3.out).trans (Below.mono y4 (belowD Y3.out).size));clear y4)
 go_wp2
 go_ret2
 exact⟨A4,m4,c4,rfl,R4.out,Y4.out⟩
theorem unpack_nil0(w:World) :
  Calls Tryz.prog 25 #[.slice none 0 0,.slice none 0 0] w fun e w'=>e=.returned (.tuple #[.slice none 0 0,.bool false])∧Below w.heap.size w w':=by
 go_enter Tryz.func25,Tryz.ntmps25
 go_wp2_with fail
 refine(kec7 _).mono ?_;rintro e w2 ⟨g,rfl,hb,hg,y2⟩
 go_wp2_with fail
 go_ret2
 exact⟨rfl,y2⟩
theorem unpack_ex_lone{A:Option Addr}{c:Nat}{W:World}(h:Rd W A 5 c (bcells [2,4,0,48,240])):Calls Tryz.prog 13 #[.slice A 5 c,.slice none 0 0] W fun e w'=>∃ A' n' c',e=.returned (.tuple #[.slice A' n' c',.agg #[.int .i64 0,.int .i64 0]])∧Rd w' A' n' c' (bcells [97,97,97,97])∧Below W.heap.size W w':=by
 have R0:=h.alloc (.cells #[.int .i64 0,.int .i64 0] 24);have F0:=Two.new W 24 (.int .i64 0) (.int .i64 0);have y0:=(Below.refl W.heap.size W).alloc (Nat.le_refl _) (.cells #[.int .i64 0,.int .i64 0] 24);clear h
 go_enter Tryz.func13,Tryz.ntmps13
 go_wp2_with fail
 refine(unpack_ex R0).mono ?_;rintro e w1 ⟨A1,n1,c1,rfl,hR,y1⟩;have F1:=F0.on y1;have Y1:=y0.trans (y1.mono y0.size);have R1:=Lib.hid (hR.farTwo F1 (.int .i64 0) (.int .i64 0));obtain⟨f0,f1,f2,f3,f4⟩:=F1.facts;have F2:=(F1.set0 (.int .i64 0)).set1 (.int .i64 0);have r0:=F2.c0;have r1:=F2.c1;clear hR y1 R0 F0
 go_wp2
 exact bodyPost_ret (v:=.tuple #[.slice A1 n1 c1,.agg #[.int .i64 0,.int .i64 0]]) (by simp[results,Tryz.results13,go_sem,r0,r1]) rfl ⟨A1,n1,c1,rfl,R1.out,(Y1.setCell (p:=⟨W.heap.size,0,none⟩) (Nat.le_refl _) _).setCell (p:=⟨W.heap.size,1,none⟩) (Nat.le_refl _) _⟩
theorem unpack_nil_lone(W:World):Calls Tryz.prog 13 #[.slice none 0 0,.slice none 0 0] W fun e w'=>∃ A' n' c',e=.returned (.tuple #[.slice A' n' c',.agg #[.int .i64 16,.int .i64 (-1)]])∧Below W.heap.size W w':=by
 have F0:=Two.new W 24 (.int .i64 0) (.int .i64 0);have y0:=(Below.refl W.heap.size W).alloc (Nat.le_refl _) (.cells #[.int .i64 0,.int .i64 0] 24)
 go_enter Tryz.func13,Tryz.ntmps13
 go_wp2_with fail
 refine(unpack_nil0 _).mono ?_;rintro e w1 ⟨rfl,y1⟩;have F1:=F0.on y1;have Y1:=y0.trans (y1.mono y0.size);clear y1 F0
 go_wp2_with fail
 refine(ked7 _ _ _).mono ?_;rintro e w2 ⟨rfl,y2⟩;have F2:=F1.on y2;have Y2:=Y1.trans (y2.mono Y1.size);obtain⟨f0,f1,f2,f3,f4⟩:=F2.facts;have F3:=(F2.set0 (.int .i64 16)).set1 (.int .i64 (-1));have r0:=F3.c0;have r1:=F3.c1;clear y2 F1
 go_wp2
 exact bodyPost_ret (v:=.tuple #[.slice none 0 0,.agg #[.int .i64 16,.int .i64 (-1)]]) (by simp[results,Tryz.results13,go_sem,r0,r1]) rfl ⟨none,0,0,rfl,(Y2.setCell (p:=⟨W.heap.size,0,none⟩) (Nat.le_refl _) _).setCell (p:=⟨W.heap.size,1,none⟩) (Nat.le_refl _) _⟩
end PB
end
section
open Go.RowKit
attribute [local go_sem ↓] Go.wp_at_zero Go.wp_at_succ
namespace PB
open Cw (sq1 sq2)
noncomputable def K10:Nat→Code
 | 0=>Tryz.f10.body.getD .skip
 | n+1=>sq2 (K10 n)
def T10a:Array Value:=#[.bool false,undef,undef,undef,undef,undef,undef,undef,undef,undef,undef,undef,undef,undef,undef,undef,undef,undef,undef,undef,undef,undef,undef,undef,undef,undef,undef,undef,undef,undef,undef,undef,undef,undef,undef,undef,undef,undef,undef,undef,undef,undef,undef,undef,undef,undef,undef,undef,undef,undef,undef,undef,undef,undef,undef,undef,undef,undef,undef,undef,undef,undef,undef,undef,undef,undef,undef,undef]
def T10b(A:Option Addr)(n c g:Nat):Array Value:=#[.bool false,.slice A n c,.pointer (some ⟨g,0,none⟩),undef,undef,undef,undef,undef,undef,.tuple #[.slice A n c,.agg #[.int .i64 0,.int .i64 0]],.tuple #[.slice A n c,.agg #[.int .i64 0,.int .i64 0]],.slice A n c,.agg #[.int .i64 0,.int .i64 0],undef,undef,undef,undef,undef,undef,undef,undef,undef,undef,undef,undef,undef,undef,undef,undef,undef,undef,undef,undef,undef,undef,undef,undef,undef,undef,undef,undef,undef,undef,undef,undef,undef,undef,undef,undef,undef,undef,undef,undef,undef,undef,undef,undef,undef,undef,undef,undef,undef,undef,undef,undef,undef,undef,undef]
theorem Rd.litM(w:World){g:Nat}(hg:g=w.heap.size)(t:TypeId)(cs:Array Value)(fr:Nat×Nat)(k:Nat)(hk:cs.toList.length=k)(hm:k≤maxLen):Rd (w.alloc (.cells cs t fr)) (some ⟨g,0,none⟩) k k cs.toList:=by
 subst hg;refine⟨hk,Nat.le_refl _,hm,fun _=>⟨w.heap.size,0,rfl,by simp,fun j u hu=>?_⟩⟩;rw[Nat.zero_add,cell_of_row _ _ j cs t fr (heap_alloc_new w _)]
 simpa using hu
theorem run_conv_g(w:World)(g:Nat)(C:Array Value)(n c:Nat)(hg:g=w.heap.size) :
  (convert 22 22 (.slice (some ⟨g,0,none⟩) n c)).run Tryz.prog (w.alloc (.cells C 5))=.ok (.slice (some ⟨g,0,none⟩) n c) (w.alloc (.cells C 5 (C.size,C.size+1))):=by
 subst hg;exact Lib.run_convert_bytes_const (P:=Tryz.prog) w 22 5 C n c Tryz.underlying22 Tryz.underlying5
theorem pack_nil_lone(W:World):Calls Tryz.prog 8 #[.slice none 0 0,.slice none 0 0] W fun e w'=>∃ A' n' c',e=.returned (.tuple #[.slice A' n' c',.agg #[.int .i64 0,.int .i64 0]])∧Rd w' A' n' c' (bcells [0])∧Below W.heap.size W w':=by
 have nil:Rd W none 0 0 (bcells []):=Reads.nil _ _ none 0 (Nat.zero_le _);refine(api_pack_ok nil nil (by decide) (by decide) (by simp) (by simp)).mono ?_;rintro e w' ⟨A',n',c',ts,rfl,hT,ho,hb⟩;have h1:pk1 []=[0]:=by
  unfold pk1;rw[if_neg]
  ·unfold fr1;simp
 have h2:pk2 [] ts=[0]:=by
  unfold pk2;rw[h1,if_neg]
  ·unfold fr2;simp
 rw[h2] at ho;exact⟨A',n',c',rfl,Rd.own ho,hb⟩
theorem r1_lone(w:World):(sq1 (K10 1)).wp Tryz.prog (fun e a w'=>e=.normal∧a.defers=[]∧∃ A n c g,a.tmps=T10b A n c g∧Rd w' A n c (bcells [0])∧Two w' g 24 (.int .i64 0) (.int .i64 0)∧Below w.heap.size w w') ⟨T10a,[]⟩ w:=by
 dsimp only[K10,sq1,sq2,Tryz.f10,Option.getD_some,T10a]
 go_wp2_with fail
 refine(pack_nil_lone _).mono ?_;rintro e w1 ⟨A1,n1,c1,rfl,hr,hb⟩;have R1:=Lib.hid (hr.alloc (.cells #[.int .i64 0,.int .i64 0] 24));have Y1:=Lib.hid (hb.alloc hb.size (.cells #[.int .i64 0,.int .i64 0] 24));have F1:=Lib.hid (Two.new w1 24 (.int .i64 0) (.int .i64 0));clear hr hb
 go_wp2
 exact⟨A1,n1,c1,w1.heap.size,rfl,R1.out,F1.out,Y1.out⟩
def T10c(A:Option Addr)(n c g:Nat)(A2:Option Addr)(n2 c2 g2 gl:Nat):Array Value:=#[.bool false,.slice A n c,.pointer (some ⟨g,0,none⟩),.slice A2 n2 c2,.pointer (some ⟨g2,0,none⟩),undef,undef,undef,undef,.tuple #[.slice A n c,.agg #[.int .i64 0,.int .i64 0]],.tuple #[.slice A n c,.agg #[.int .i64 0,.int .i64 0]],.slice A n c,.agg #[.int .i64 0,.int .i64 0],.tuple #[.slice A2 n2 c2,.agg #[.int .i64 0,.int .i64 0]],.slice (some ⟨gl,0,none⟩) 5 5,.tuple #[.slice A2 n2 c2,.agg #[.int .i64 0,.int .i64 0]],.slice A2 n2 c2,.agg #[.int .i64 0,.int .i64 0],undef,undef,undef,undef,undef,undef,undef,undef,undef,undef,undef,undef,undef,undef,undef,undef,undef,undef,undef,undef,undef,undef,undef,undef,undef,undef,undef,undef,undef,undef,undef,undef,undef,undef,undef,undef,undef,undef,undef,undef,undef,undef,undef,undef,undef,undef,undef,undef,undef,undef]
def T10d(A:Option Addr)(n c g:Nat)(A2:Option Addr)(n2 c2 g2 gl gm gr:Nat):Array Value:=#[.bool false,.slice A n c,.pointer (some ⟨g,0,none⟩),.slice A2 n2 c2,.pointer (some ⟨g2,0,none⟩),undef,undef,undef,undef,.tuple #[.slice A n c,.agg #[.int .i64 0,.int .i64 0]],.tuple #[.slice A n c,.agg #[.int .i64 0,.int .i64 0]],.slice A n c,.agg #[.int .i64 0,.int .i64 0],.tuple #[.slice A2 n2 c2,.agg #[.int .i64 0,.int .i64 0]],.slice (some ⟨gl,0,none⟩) 5 5,.tuple #[.slice A2 n2 c2,.agg #[.int .i64 0,.int .i64 0]],.slice A2 n2 c2,.agg #[.int .i64 0,.int .i64 0],undef,.slice (some ⟨gm,0,none⟩) 1 1,.tuple #[.slice (some ⟨gr,0,none⟩) 1 1,.agg #[.int .i64 0,.int .i64 0]],undef,undef,undef,undef,undef,undef,undef,undef,undef,undef,undef,undef,undef,undef,undef,undef,undef,undef,undef,undef,undef,undef,undef,undef,undef,undef,undef,undef,undef,undef,undef,undef,undef,undef,undef,undef,undef,undef,undef,undef,undef,undef,undef,undef,undef,undef,undef]
theorem r2_lone(A:Option Addr)(n c g:Nat)(w:World):(sq1 (K10 2)).wp Tryz.prog (fun e a w'=>e=.normal∧a.defers=[]∧∃ A2 n2 c2 g2 gl,a.tmps=T10c A n c g A2 n2 c2 g2 gl∧Rd w' A2 n2 c2 (bcells [97,97,97,97])∧Two w' g2 24 (.int .i64 0) (.int .i64 0)∧Below w.heap.size w w') ⟨T10b A n c g,[]⟩ w:=by
 dsimp only[K10,sq1,sq2,Tryz.f10,Option.getD_some,T10b];have L:Rd (w.alloc (.cells #[.int .u8 2,.int .u8 4,.int .u8 0,.int .u8 48,.int .u8 240] 5)) (some ⟨w.heap.size,0,none⟩) 5 5 (bcells [2,4,0,48,240]):=rd_lit w rfl 5 [2,4,0,48,240] 5 rfl (by decide)
 go_wp2_with fail
 refine(unpack_ex_lone L).mono ?_;rintro e w1 ⟨A1,n1,c1,rfl,hr,hb⟩;have hb2:=((Below.refl w.heap.size w).alloc (Nat.le_refl _) (.cells #[.int .u8 2,.int .u8 4,.int .u8 0,.int .u8 48,.int .u8 240] 5)).trans (hb.mono (by simp));have R1:=Lib.hid (hr.alloc (.cells #[.int .i64 0,.int .i64 0] 24));have Y1:=Lib.hid (hb2.alloc hb2.size (.cells #[.int .i64 0,.int .i64 0] 24));have F1:=Lib.hid (Two.new w1 24 (.int .i64 0) (.int .i64 0));clear hr hb hb2 L
 go_wp2
 exact⟨A1,n1,c1,w1.heap.size,⟨w.heap.size,rfl⟩,R1.out,F1.out,Y1.out⟩
noncomputable def ops3:Array Oper:=match sq1 (K10 3) with|.region _ ops _=>ops|_=>#[]
end PB
end
section
namespace Cw
open Go Go.Conc Go.ConcN Rn
section
variable {P:Program}{PostF:Value→World→Prop}{B:Nat→Prop}{q0:Nat}{w:World}{b:Frame}{a a':Act}{k:List Item}{cs:List Frame}{ops:Array Oper}{S:Nat→Bool}{M:List String}{ρ:Ren P}
structure Plainb(b:Frame):Prop where
 kind:b.kind=.normal
def ZMid(b:Frame)(Q:Act→World→Prop)(F:Frame)(w:World):Prop:=∃ (u:Nat→Question→Nat) (T:Array Value),F=b.at ⟨T,[]⟩ wall∧Q ⟨T,[]⟩ (tp w u)
theorem kfx7(ok:Ok P S M){its:List Item}{T T':Array Value}{wp:World}{Q:Act→World→Prop}(hb:Plainb b)(hits:∀ it∈its,okItem P S M it)(hρ:RhoOk ρ S M)
  (hlone:∀ u k cs,∃ (T1:Array Value) (w1:World),Q ⟨T1,[]⟩ w1∧Steps P (lone (b.at ⟨T,[]⟩ (its++k)) cs (tp wp u)) (lone (b.at ⟨T1,[]⟩ k) cs w1))
  (hT:ARR ρ T T') (hrs:RS ρ wp w) (hB:∀ b b',ρ.rel b b'→¬B b') (hBl:∀ b,B b→b<w.heap.size)
  (hEnd:∀ (ρ2:Ren P) (T1 T1':Array Value) (wp2 w2:World) (u:Nat→Question→Nat),RhoOk ρ2 S M→Le ρ ρ2→Q ⟨T1,[]⟩ (tp wp2 u)→ARR ρ2 T1 T1'→RS ρ2 wp2 w2→Aft ρ wp w ρ2 wp2 w2→Fin P PostF B q0 (G (b.at ⟨T1',[]⟩ k) cs) w2) :
  Fin P PostF B q0 (G (b.at ⟨T',[]⟩ (its++k)) cs) w:=by
 have hway:Rn.Way P wall (ZMid b Q) (b.at ⟨T,[]⟩ its) [] wp:=by
  refine bar wall (ZMid b Q) ?_ ?_ fun u=>?_
  ·rintro F w u ⟨u',T1,h1,h2⟩;exact⟨u',T1,h1,h2⟩
  ·rintro F w ⟨u',T1,rfl,h2⟩ ch e;simp[Frame.at] at e
  ·obtain⟨T1,w1,hQ,hs⟩:=hlone u wall [trap P];obtain⟨n,hn⟩:=hs;refine⟨n,_,w1,?_,w1.tape,T1,rfl,hQ⟩;have e1:mach P wall (b.at ⟨T,[]⟩ its) [] (tp wp u)=lone (b.at ⟨T,[]⟩ (its++wall)) [trap P] (tp wp u):=by
    simp[mach,lvl,embC,Em.ghost,Em.put,Frame.at,hb.kind]
   rw[e1];exact hn
 have hst:StR S M ρ (b.at ⟨T,[]⟩ its) (b.at ⟨T',[]⟩ its) [] []:=⟨⟨rfl,rfl,hits,hT,rfl,by intro ch e;simp[Frame.at] at e,rfl,rfl⟩,trivial,.nil⟩
 have:=fin_way (PostF:=PostF) (q0:=q0) (csr:=cs) (Er:=⟨[],.normal,k⟩) ok (fun F w u ⟨u',T1,h1,h2⟩=>⟨u',T1,h1,h2⟩) (by
  rintro F w ⟨u',T1,rfl,h2⟩ ch e;simp[Frame.at] at e) (by intro e;cases e) (.inl rfl) hway ρ hρ (b.at ⟨T',[]⟩ its) [] w hst hrs hB hBl fun ρ1 F F' wp1 w' hz hF hw haft=>?_
 ·have e2:emb ⟨[],.normal,k⟩ cs (b.at ⟨T',[]⟩ its) []=G (b.at ⟨T',[]⟩ (its++k)) cs:=by
   simp[emb,lvl,embC,Em.put,Frame.at,hb.kind]
  rw[e2] at this;exact this
 ·obtain⟨u,T1,h1,h2⟩:=hz;obtain⟨f,T0,todo,D,mode,κ,ro⟩:=F;obtain⟨f',T0',todo',D',mode',κ',ro'⟩:=F';simp only[Em.ghost,Em.put,Frame.at,Frame.mk.injEq] at h1;obtain⟨rfl,rfl,h3,-,rfl,-,rfl⟩:=h1;have htd:todo=[]:=by simpa using h3
  have q1:=hF.fn;have q2:=hF.todo;have q3:=hF.mode;have q4:=hF.round';have q5:=hF.tmps;simp only at q1 q2 q3 q4 q5;subst q1 q2 q3 q4 htd;have e3:(⟨[],.normal,k⟩:Em).put ⟨b.fn,T0',[],D',.run,κ',none⟩=b.at ⟨T0',[]⟩ k:=by
   simp[Em.put,Frame.at,hb.kind]
  rw[e3];exact hEnd ρ1 T0 T0' wp1 w' u (hρ.mono haft.le) haft.le h2 q5 hw haft
theorem piece_ops{rest:List Nat}{T:Array Value}{wp:World}{Q:Act→World→Prop}(h:∀ u,wpOps P ops (fun e a w=>e=.normal∧a.defers=[]∧Q a w) rest ⟨T,[]⟩ (tp wp u)) :
  ∀ u k cs,∃ (T1:Array Value) (w1:World),Q ⟨T1,[]⟩ w1∧Steps P (lone (b.at ⟨T,[]⟩ ([.inRegion ops rest]++k)) cs (tp wp u)) (lone (b.at ⟨T1,[]⟩ k) cs w1):=by
 intro u k cs;obtain⟨e,a1,w1,⟨rfl,hd,hQ⟩,harr⟩:=wp_ops rest _ _ (h u) b k cs;obtain⟨T1,D1⟩:=a1;simp only at hd;subst hd;exact⟨T1,w1,hQ,harr⟩
theorem kfy7{c:Code}{T:Array Value}{wp:World}{Q:Act→World→Prop}(h:∀ u,c.wp P (fun e a w=>e=.normal∧a.defers=[]∧Q a w) ⟨T,[]⟩ (tp wp u)) :
  ∀ u k cs,∃ (T1:Array Value) (w1:World),Q ⟨T1,[]⟩ w1∧Steps P (lone (b.at ⟨T,[]⟩ ([.code c]++k)) cs (tp wp u)) (lone (b.at ⟨T1,[]⟩ k) cs w1):=by
 intro u k cs;obtain⟨e,a1,w1,⟨rfl,hd,hQ⟩,harr⟩:=h u b k cs;obtain⟨T1,D1⟩:=a1;simp only at hd;subst hd;exact⟨T1,w1,hQ,harr⟩
def ZTail(b:Frame)(r:Nat)(Q:Value→World→Prop)(F:Frame)(w:World):Prop:=∃ (u:Nat→Question→Nat) (T:Array Value) (todo:List Item),F={ b.at ⟨T,[]⟩ todo with mode:=.returning }∧Q (T.getD r undef) (tp w u)
theorem fin_tail(ok:Ok P S M){its:List Item}{r:Nat}{T T':Array Value}{wp:World}{Q:Value→World→Prop}(hb:Plainb b)(hits:∀ it∈its,okItem P S M it)(hρ:RhoOk ρ S M)
  (hlone:∀ u cs,∃ (T1:Array Value) (todo:List Item) (w1:World),Q (T1.getD r undef) w1∧Steps P (lone (b.at ⟨T,[]⟩ its) cs (tp wp u)) (lone { b.at ⟨T1,[]⟩ todo with mode:=.returning } cs w1))
  (hT:ARR ρ T T') (hrs:RS ρ wp w) (hB:∀ b b',ρ.rel b b'→¬B b') (hBl:∀ b,B b→b<w.heap.size)
  (hEnd:∀ (ρ2:Ren P) (v:Value) (T1':Array Value) (wp2 w2:World) (u:Nat→Question→Nat) (todo:List Item),RhoOk ρ2 S M→Le ρ ρ2→Q v (tp wp2 u)→VR ρ2 v (T1'.getD r undef)→RS ρ2 wp2 w2→Aft ρ wp w ρ2 wp2 w2→Fin P PostF B q0 (G { b.at ⟨T1',[]⟩ todo with mode:=.returning } cs) w2) :
  Fin P PostF B q0 (G (b.at ⟨T',[]⟩ its) cs) w:=by
 have hway:Rn.Way P [] (ZTail b r Q) (b.at ⟨T,[]⟩ its) [] wp:=by
  refine bar [] (ZTail b r Q) ?_ ?_ fun u=>?_
  ·rintro F w u ⟨u',T1,td,h1,h2⟩;exact⟨u',T1,td,h1,h2⟩
  ·rintro F w ⟨u',T1,td,rfl,h2⟩ ch e;simp[Frame.at] at e
  ·obtain⟨T1,td,w1,hQ,hs⟩:=hlone u [trap P];obtain⟨n,hn⟩:=hs;refine⟨n,_,w1,?_,w1.tape,T1,td,rfl,hQ⟩;have e1:mach P [] (b.at ⟨T,[]⟩ its) [] (tp wp u)=lone (b.at ⟨T,[]⟩ its) [trap P] (tp wp u):=by
    simp[mach,lvl,embC,Em.ghost,Em.put,Frame.at,hb.kind]
   rw[e1];exact hn
 have hst:StR S M ρ (b.at ⟨T,[]⟩ its) (b.at ⟨T',[]⟩ its) [] []:=⟨⟨rfl,rfl,hits,hT,rfl,by intro ch e;simp[Frame.at] at e,rfl,rfl⟩,trivial,.nil⟩
 have:=fin_way (PostF:=PostF) (q0:=q0) (csr:=cs) (Er:=Em.none) ok (fun F w u ⟨u',T1,td,h1,h2⟩=>⟨u',T1,td,h1,h2⟩) (by
  rintro F w ⟨u',T1,td,rfl,h2⟩ ch e;simp[Frame.at] at e) (by intro e;cases e) (.inr ⟨rfl,rfl⟩) hway ρ hρ (b.at ⟨T',[]⟩ its) [] w hst hrs hB hBl fun ρ1 F F' wp1 w' hz hF hw haft=>?_
 ·have e2:emb Em.none cs (b.at ⟨T',[]⟩ its) []=G (b.at ⟨T',[]⟩ its) cs:=by
   simp[emb,lvl,embC,Em.none,Em.put,Frame.at,hb.kind]
  rw[e2] at this;exact this
 ·obtain⟨u,T1,td,h1,h2⟩:=hz;obtain⟨f,T0,todo,D,mode,κ,ro⟩:=F;obtain⟨f',T0',todo',D',mode',κ',ro'⟩:=F';simp only[Em.ghost,Em.put,Frame.at,Frame.mk.injEq] at h1;obtain⟨rfl,rfl,h3,-,rfl,-,rfl⟩:=h1;have q1:=hF.fn;have q2:=hF.todo;have q3:=hF.mode;have q4:=hF.round';have q5:=hF.tmps;simp only at q1 q2 q3 q4 q5;subst q1 q2 q3 q4;have e3:Em.none.put ⟨b.fn,T0',todo',D',.returning,κ',none⟩={ b.at ⟨T0',[]⟩ todo' with mode:=.returning }:=by
   simp[Em.none,Em.put,Frame.at,hb.kind]
  rw[e3];exact hEnd ρ1 _ T0' wp1 w' u todo' (hρ.mono haft.le) haft.le h2 (vr_getD q5 r) hw haft
theorem tail_of_body{fn:Func}{r:Nat}(hr:fn.results=#[.tmp r]){T:Array Value}{wp:World}{Q:Value→World→Prop}{ops:Array Oper}{rest:List Nat}{c:Code}
  (h:∀ u,wpOps P ops (fun e a w=>(e=.normal∧c.wp P (bodyPost P fn fun e w=>∃ v,e=.returned v∧Q v w) a w)) rest ⟨T,[]⟩ (tp wp u)) :
  ∀ u cs,∃ (T1:Array Value) (todo:List Item) (w1:World),Q (T1.getD r undef) w1∧Steps P (lone (b.at ⟨T,[]⟩ [.inRegion ops rest,.code c]) cs (tp wp u)) (lone { b.at ⟨T1,[]⟩ todo with mode:=.returning } cs w1):=by
 intro u cs;obtain⟨e,a1,w1,⟨rfl,hc⟩,harr⟩:=wp_ops rest _ _ (h u) b [.code c] cs;obtain⟨e2,a2,w2,hq,harr2⟩:=hc b [] cs;obtain⟨T2,D2⟩:=a2;cases e2 with
 | normal =>
  obtain⟨hd,v,hv,v',hv',hQ⟩:=hq;simp only at hd;subst hd;rw[kbg7 hr] at hv;cases hv;cases hv';exact⟨T2,[],w2,hQ,Steps.trans harr (Steps.trans harr2 (.one step_end))⟩
 | ret =>
  obtain⟨hd,v,hv,v',hv',hQ⟩:=hq;simp only at hd;subst hd;rw[kbg7 hr] at hv;cases hv;cases hv';obtain⟨td,hs⟩:=harr2;exact⟨T2,td,w2,hQ,Steps.trans harr hs⟩
 | panic chain =>
  obtain⟨_,v,hv,_⟩:=hq;cases hv
 | exit id=>exact hq.elim
 | goto l=>exact hq.elim
 | outgrown =>
  obtain⟨v,hv,_⟩:=hq;cases hv
theorem fin_back{fn:Func}{T:Array Value}{todo:List Item}{c:Frame}(hb:Plainb b)(hf:P.funcs[b.fn]?=some fn){r:Nat}(hr:fn.results=#[.tmp r])
  (h:∀ w₁,AtRel w w₁→Fin P PostF B q0 (G (c.finish (T.getD r undef)) cs) w₁):Fin P PostF B q0 (G { b.at ⟨T,[]⟩ todo with mode:=.returning } (c::cs)) w:=by
 refine kib7 rfl fun w₁ r1=>⟨_,w₁,#[],?_,by simp,Nat.le_refl _,h w₁ r1⟩
 have e1:=kbg7 (P:=P) hr T w₁;have e2:(results fn T).events P w₁ #[]=#[]:=by
  simp[results,hr,go_sem]
 have e3:=hb.kind;simp[G,stepG,unwind,doReturn,Frame.at,hf,e1,e2,e3,GStep.after,seen]
theorem fin_done{fn:Func}{T:Array Value}{todo:List Item}(hb:Plainb b)(hf:P.funcs[b.fn]?=some fn)(hi:P.inits.idxOf? b.fn=none){r:Nat}(hr:fn.results=#[.tmp r])
  (h:∀ w₁,AtRel w w₁→PostF (T.getD r undef) w₁):Fin P PostF B q0 (G { b.at ⟨T,[]⟩ todo with mode:=.returning } []) w:=by
 refine fin_end fun w₁ r1=>⟨rfl,_,#[],?_,by simp,h w₁ r1⟩
 have e1:=kbg7 (P:=P) hr T w₁;have e2:(results fn T).events P w₁ #[]=#[]:=by
  simp[results,hr,go_sem]
 have e3:=hb.kind;simp[G,stepG,unwind,doReturn,Frame.at,hf,e1,e2,e3,hi,GStep.after,seen]
end
end Cw
end
section
namespace Cw
open Go Go.Conc Go.ConcN Rn
section
variable {P:Program}
def ren0(P:Program)(S:Nat→Bool):Ren P where
 rel _ _:=False
 inj:=by intro a a' b b' h;exact h.elim
 low:=by intro a a' h;exact h.elim
 shut _:=False
 ok f:=S f=true
theorem ren0_ok(S:Nat→Bool)(M:List String):RhoOk (ren0 P S) S M:=⟨fun _=>Iff.rfl,fun _ _ h=>h⟩
theorem rs_empty{S:Nat→Bool}{wp w:World}(h1:P.globals.size≤wp.heap.size)(h2:P.globals.size≤w.heap.size):RS (ren0 P S) wp w :=
 ⟨⟨fun h=>h.elim,fun h=>h.elim,fun h=>h.elim⟩,fun h=>h.elim,h1,h2⟩
variable {ρ ρ':Ren P}{wp wp' w w':World}
theorem rs_real(h:RS ρ wp w)(hb:∀ b b',ρ.rel b b'→w'.heap[b']?=w.heap[b']?)(hs:w.heap.size≤w'.heap.size):RS ρ wp w':=by
 refine⟨⟨fun {b b'} hr hlt=>?_,fun {b b'} hr hge=>?_,h.both.shut⟩,h.full,h.lowp,Nat.le_trans h.lowr hs⟩
 ·obtain⟨o,o',e1,e2,e3⟩:=h.both.obj hr hlt;exact⟨o,o',e1,(hb b b' hr).trans e2,e3⟩
 ·have:=h.full hr;omega
theorem rs_ghost(h:RS ρ wp w)(hb:∀ b,b<wp.heap.size→wp'.heap[b]?=wp.heap[b]?)(hs:wp.heap.size≤wp'.heap.size)(hsh:∀ b,¬ρ.shut b):RS ρ wp' w:=by
 refine⟨⟨fun {b b'} hr hlt=>?_,fun {b b'} hr hge=>?_,fun {b} hx=>(hsh b hx).elim⟩,fun hr=>Nat.lt_of_lt_of_le (h.full hr) hs,Nat.le_trans h.lowp hs,h.lowr⟩
 ·obtain⟨o,o',e1,e2,e3⟩:=h.both.obj hr (h.full hr);exact⟨o,o',(hb b (h.full hr)).trans e1,e2,e3⟩
 ·have:=h.full hr;omega
def addPair(ρ:Ren P)(x x':Nat)(hx:∀ b b',ρ.rel b b'→b≠x∧b'≠x')(h1:P.globals.size≤x)(h2:P.globals.size≤x'):Ren P where
 rel b b':=ρ.rel b b'∨(b=x∧b'=x')
 inj:=by
  rintro a a' b b' (ha|⟨rfl,rfl⟩) (hb|⟨rfl,rfl⟩)
  ·exact ρ.inj ha hb
  ·have:=hx _ _ ha;exact⟨fun e=>(this.1 e).elim,fun e=>(this.2 e).elim⟩
  ·have:=hx _ _ hb;exact⟨fun e=>(this.1 e.symm).elim,fun e=>(this.2 e.symm).elim⟩
  ·exact⟨fun _=>rfl,fun _=>rfl⟩
 low:=by
  rintro a a' (ha|⟨rfl,rfl⟩)
  ·exact ρ.low ha
  ·exact⟨h1,h2⟩
 shut:=ρ.shut
 ok:=ρ.ok
theorem kfz7(x x':Nat)(hx:∀ b b',ρ.rel b b'→b≠x∧b'≠x')(h1:P.globals.size≤x)(h2:P.globals.size≤x'):Le ρ (addPair ρ x x' hx h1 h2):=⟨fun h=>.inl h,fun _=>Iff.rfl,fun _=>Iff.rfl⟩
theorem rs_import(h:RS ρ wp w)(hsh:∀ b,¬ρ.shut b)(x':Nat)(hx:∀ b b',ρ.rel b b'→b≠wp.heap.size∧b'≠x')(h2:P.globals.size≤x'){o o':Obj}(hb:w.heap[x']?=some o')(ho:OR (addPair ρ wp.heap.size x' hx h.lowp h2) o o') :
  RS (addPair ρ wp.heap.size x' hx h.lowp h2) (wp.alloc o) w:=by
 have hle:=kfz7 (ρ:=ρ) wp.heap.size x' hx h.lowp h2;have hs:(wp.alloc o).heap.size=wp.heap.size+1:=by simp
 refine⟨⟨fun {b b'} hr hlt=>?_,fun {b b'} hr hge=>?_,fun {b} hx=>(hsh b hx).elim⟩,fun {b b'} hr=>?_,by rw[hs];have:=h.lowp;omega,h.lowr⟩
 ·rcases hr with hr|⟨rfl,rfl⟩
  ·obtain⟨q,q',e1,e2,e3⟩:=h.both.obj hr (h.full hr);exact⟨q,q',(Go.RowKit.Below.heap_alloc wp o b (h.full hr)).trans e1,e2,e3.mono hle⟩
  ·exact⟨o,o',Go.heap_alloc_new wp o,hb,ho⟩
 ·rcases hr with hr|⟨rfl,rfl⟩
  ·have:=h.full hr;omega
  ·omega
 ·rcases hr with hr|⟨rfl,rfl⟩
  ·have:=h.full hr;omega
  ·omega
def joinR(ρ ρ':Ren P)(hd:∀ a a' b b',ρ.rel a a'→ρ'.rel b b'→a≠b∧a'≠b'):Ren P where
 rel b b':=ρ.rel b b'∨ρ'.rel b b'
 inj:=by
  rintro a a' b b' (ha|ha) (hb|hb)
  ·exact ρ.inj ha hb
  ·have:=hd _ _ _ _ ha hb;exact⟨fun e=>(this.1 e).elim,fun e=>(this.2 e).elim⟩
  ·have:=hd _ _ _ _ hb ha;exact⟨fun e=>(this.1 e.symm).elim,fun e=>(this.2 e.symm).elim⟩
  ·exact ρ'.inj ha hb
 low:=by
  rintro a a' (ha|ha)
  ·exact ρ.low ha
  ·exact ρ'.low ha
 shut:=ρ.shut
 ok:=ρ.ok
theorem le_joinL(hd:∀ a a' b b',ρ.rel a a'→ρ'.rel b b'→a≠b∧a'≠b'):Le ρ (joinR ρ ρ' hd):=⟨fun h=>.inl h,fun _=>Iff.rfl,fun _=>Iff.rfl⟩
theorem le_joinR(hd:∀ a a' b b',ρ.rel a a'→ρ'.rel b b'→a≠b∧a'≠b')(hs:∀ b,¬ρ.shut b)(hs':∀ b,¬ρ'.shut b)(ho:∀ f,ρ.ok f↔ρ'.ok f):Le ρ' (joinR ρ ρ' hd) :=
 ⟨fun h=>.inr h,fun b=>⟨fun h=>(hs b h).elim,fun h=>(hs' b h).elim⟩,ho⟩
theorem rs_join(h:RS ρ wp w)(h':RS ρ' wp w)(hd:∀ a a' b b',ρ.rel a a'→ρ'.rel b b'→a≠b∧a'≠b')(hs:∀ b,¬ρ.shut b)(hs':∀ b,¬ρ'.shut b)(ho:∀ f,ρ.ok f↔ρ'.ok f):RS (joinR ρ ρ' hd) wp w:=by
 refine⟨⟨fun {b b'} hr hlt=>?_,fun {b b'} hr hge=>?_,fun {b} hx=>(hs b hx).elim⟩,fun {b b'} hr=>?_,h.lowp,h.lowr⟩
 ·rcases hr with hr|hr
  ·obtain⟨q,q',e1,e2,e3⟩:=h.both.obj hr hlt;exact⟨q,q',e1,e2,e3.mono (le_joinL hd)⟩
  ·obtain⟨q,q',e1,e2,e3⟩:=h'.both.obj hr hlt;exact⟨q,q',e1,e2,e3.mono (le_joinR hd hs hs' ho)⟩
 ·rcases hr with hr|hr
  ·exact h.both.fut hr hge
  ·exact h'.both.fut hr hge
 ·rcases hr with hr|hr
  ·exact h.full hr
  ·exact h'.full hr
end
end Cw
end
section
namespace Cw
open Go Go.Conc Go.ConcN Rn
open PB (K10 T10a T10b T10c)
theorem body10:Tryz.f10.body=some (K10 0):=by kernel_rfl
theorem ntmps10:Tryz.f10.ntmps=68:=by kernel_rfl
theorem K10_seq(i:Nat)(h:i≤5):K10 i=.seq (sq1 (K10 i)) (K10 (i+1)):=by
 rcases(by omega:i=0∨i=1∨i=2∨i=3∨i=4∨i=5) with rfl|rfl|rfl|rfl|rfl|rfl<;>kernel_rfl
theorem ok10(i:Nat)(h:i=0∨i=1∨i=2):okCode Tryz.prog S0 M1 (sq1 (K10 i))=true:=by
 rcases h with rfl|rfl|rfl<;>kernel_rfl
def Grew(w w':World):Prop:=w.heap.size≤w'.heap.size∧∀ b,b<w.heap.size→w'.heap[b]?=w.heap[b]?
theorem Grew.of{w w':World}(h:Go.RowKit.Below w.heap.size w w'):Grew w w':=⟨h.size,h.block⟩
theorem r0_lone(w:World):(sq1 (K10 0)).wp Tryz.prog (fun e a w'=>e=.normal∧a.defers=[]∧(a.tmps=T10a∧Grew w w')) ⟨#[]++Array.replicate (68-(#[]:Array Value).size) undef,[]⟩ w:=by
 have e:(#[]++Array.replicate (68-(#[]:Array Value).size) undef:Array Value)=#[undef,undef,undef,undef,undef,undef,undef,undef,undef,undef,undef,undef,undef,undef,undef,undef,undef,undef,undef,undef,undef,undef,undef,undef,undef,undef,undef,undef,undef,undef,undef,undef,undef,undef,undef,undef,undef,undef,undef,undef,undef,undef,undef,undef,undef,undef,undef,undef,undef,undef,undef,undef,undef,undef,undef,undef,undef,undef,undef,undef,undef,undef,undef,undef,undef,undef,undef,undef]:=by kernel_rfl
 rw[e];dsimp only[K10,sq1,sq2,Tryz.f10,Option.getD_some,T10a]
 go_wp2
 exact⟨Nat.le_refl _,fun _ _=>rfl⟩
theorem _root_.Go.Proofs.YtnpcandaehejbaaGreat.PB.Rd.grew{w w':World}{A:Option Addr}{n c:Nat}{xs:List Value}(h:PB.Rd w A n c xs)(g:Grew w w'):PB.Rd w' A n c xs:=by
 obtain⟨h1,h2,h3,h4⟩:=h;refine⟨h1,h2,h3,fun hn=>?_⟩;obtain⟨b,off,e,hb,hc⟩:=h4 hn;exact⟨b,off,e,Nat.lt_of_lt_of_le hb g.1,fun j u hu=>(World.cell?_of_block (g.2 b hb)).trans (hc j u hu)⟩
section
variable {PostF:Value→World→Prop}{B:Nat→Prop}{q0:Nat}
theorem packs_pre{cs:List Frame}{W0:World}(hB:∀ b,B b→b<W0.heap.size)(hlo:Tryz.prog.globals.size≤W0.heap.size)
  (hEnd:∀ (ρ:Ren Tryz.prog) (A:Option Addr) (n c g:Nat) (A2:Option Addr) (n2 c2 g2 gl:Nat) (T':Array Value) (wp w:World),RhoOk ρ S0 M1→ARR ρ (T10c A n c g A2 n2 c2 g2 gl) T'→RS ρ wp w→Aft (ren0 Tryz.prog S0) W0 W0 ρ wp w →
   PB.Rd wp A n c (PB.bcells [0])→PB.Two wp g 24 (.int .i64 0) (.int .i64 0)→PB.Rd wp A2 n2 c2 (PB.bcells [97,97,97,97])→PB.Two wp g2 24 (.int .i64 0) (.int .i64 0) →
   Fin Tryz.prog PostF B q0 (G ((base 10).at ⟨T',[]⟩ [.code (K10 3)]) cs) w) :
  Fin Tryz.prog PostF B q0 (G (Frame.enter Tryz.prog 10 #[] .normal) cs) W0:=by
 rw[enter_at _ Tryz.func10 body10,ntmps10];have hpb:Plainb (base 10):=⟨rfl⟩
 have hu:ARR (ren0 Tryz.prog S0) (#[]++Array.replicate (68-(#[]:Array Value).size) undef) (#[]++Array.replicate (68-(#[]:Array Value).size) undef):=by
  have:(#[]++Array.replicate (68-(#[]:Array Value).size) undef:Array Value)=Array.replicate 68 undef:=by simp
  rw[this];exact ARR.replicate _ (.tuple rfl fun i v v' h=>by simp at h)
 have e0:=K10_seq 0 (by omega);have e1:=K10_seq 1 (by omega);have e2:=K10_seq 2 (by omega);rw[e0];refine ki7 rfl (fun w₁=>stepG_seq) fun w₁ r=>?_;obtain⟨d,rfl⟩:=r;refine kfx7 kgn7 (its:=[.code (sq1 (K10 0))]) (k:=[.code (K10 1)]) (wp:=W0) (ρ:=ren0 Tryz.prog S0) (Q:=fun a w'=>a.tmps=T10a∧Grew W0 w') hpb (by
   intro it hit;obtain rfl:=List.mem_singleton.1 hit;exact ok10 0 (.inl rfl)) (ren0_ok S0 M1) (kfy7 (Q:=fun a w'=>a.tmps=T10a∧Grew W0 w') fun u=>r0_lone (tp W0 u)) hu ((rs_empty hlo hlo).at d) (fun _ _ h=>h.elim) hB ?_
 rintro ρ1 T1 T1' wp1 w1 u1 hr1 le1 ⟨hT1,g1⟩ ha1 hs1 af1;simp only at hT1;subst hT1;replace af1:Aft (ren0 Tryz.prog S0) W0 W0 ρ1 wp1 w1:=(Aft.at (ren0 Tryz.prog S0) W0 W0 d).trans af1;obtain⟨hB1,hBl1⟩:=aft_B af1 (fun _ _ h=>h.elim) hB;rw[e1];refine ki7 rfl (fun w₁=>stepG_seq) fun w₁ r=>?_;obtain⟨d1,rfl⟩:=r;refine kfx7 kgn7 (its:=[.code (sq1 (K10 1))]) (k:=[.code (K10 2)]) (wp:=wp1) (ρ:=ρ1) (Q:=fun a w'=>∃ A n c g,a.tmps=T10b A n c g∧PB.Rd w' A n c (PB.bcells [0])∧PB.Two w' g 24 (.int .i64 0) (.int .i64 0)∧Grew wp1 w') hpb (by
   intro it hit;obtain rfl:=List.mem_singleton.1 hit;exact ok10 1 (.inr (.inl rfl))) hr1 (kfy7 (Q:=fun a w'=>∃ A n c g,a.tmps=T10b A n c g∧PB.Rd w' A n c (PB.bcells [0])∧PB.Two w' g 24 (.int .i64 0) (.int .i64 0)∧Grew wp1 w') fun u=>Code.wp_mono (fun e a w ⟨h1,h2,A,n,c,g,h3,h4,h5,h6⟩=>⟨h1,h2,A,n,c,g,h3,h4,h5,Grew.of (w:=tp wp1 u) h6⟩) (PB.r1_lone (tp wp1 u))) ha1 (hs1.at d1) hB1 hBl1 ?_
 rintro ρ2 T2 T2' wp2 w2 u2 hr2 le2 ⟨A,n,c,g,hT2,q1,q2,g2⟩ ha2 hs2 af2;simp only at hT2;subst hT2;replace af2:Aft (ren0 Tryz.prog S0) W0 W0 ρ2 wp2 w2:=(af1.trans (Aft.at ρ1 wp1 w1 d1)).trans af2;obtain⟨hB2,hBl2⟩:=aft_B af2 (fun _ _ h=>h.elim) hB;rw[e2];refine ki7 rfl (fun w₁=>stepG_seq) fun w₁ r=>?_;obtain⟨d2,rfl⟩:=r;refine kfx7 kgn7 (its:=[.code (sq1 (K10 2))]) (k:=[.code (K10 3)]) (wp:=wp2) (ρ:=ρ2) (Q:=fun a w'=>∃ A2 n2 c2 g2 gl,a.tmps=T10c A n c g A2 n2 c2 g2 gl∧PB.Rd w' A2 n2 c2 (PB.bcells [97,97,97,97])∧PB.Two w' g2 24 (.int .i64 0) (.int .i64 0)∧Grew wp2 w') hpb (by
   intro it hit;obtain rfl:=List.mem_singleton.1 hit;exact ok10 2 (.inr (.inr rfl))) hr2 (kfy7 (Q:=fun a w'=>∃ A2 n2 c2 g2 gl,a.tmps=T10c A n c g A2 n2 c2 g2 gl∧PB.Rd w' A2 n2 c2 (PB.bcells [97,97,97,97])∧PB.Two w' g2 24 (.int .i64 0) (.int .i64 0)∧Grew wp2 w') fun u=>Code.wp_mono (fun e a w ⟨h1,h2,A2,n2,c2,g2,gl,h3,h4,h5,h6⟩=>⟨h1,h2,A2,n2,c2,g2,gl,h3,h4,h5,Grew.of (w:=tp wp2 u) h6⟩) (PB.r2_lone A n c g (tp wp2 u))) ha2 (hs2.at d2) hB2 hBl2 ?_
 rintro ρ3 T3 T3' wp3 w3 u3 hr3 le3 ⟨A2,n2,c2,g2',gl,hT3,q3,q4,g3⟩ ha3 hs3 af3;simp only at hT3;subst hT3;have p1:PB.Rd wp3 A n c (PB.bcells [0]):=PB.Rd.grew q1 g3;have p2:PB.Two wp3 g 24 (.int .i64 0) (.int .i64 0):=(g3.2 g (PB.Blk.lt (w:=wp2) q2)).trans q2;exact hEnd ρ3 A n c g A2 n2 c2 g2' gl T3' wp3 w3 hr3 ha3 hs3 ((af2.trans (Aft.at ρ2 wp2 w2 d2)).trans af3) p1 p2 q3 q4
end
end Cw
end
section
open Go.RowKit
attribute [local go_sem ↓] Go.wp_at_zero Go.wp_at_succ
namespace PB
open Cw (sq1 sq2)
set_option maxHeartbeats 40000000 in
theorem tail_lone{A A2 A3:Option Addr}{n c g n2 c2 g2 gl gm gr n3 c3:Nat}{w:World}(h1:Rd w A n c (bcells [0]))(f1:Two w g 24 (.int .i64 0) (.int .i64 0))(h2:Rd w A2 n2 c2 (bcells [97,97,97,97]))(f2:Two w g2 24 (.int .i64 0) (.int .i64 0))(h3:Rd w A3 n3 c3 (bcells [0]))(b3:One w gr 22 (.slice A3 n3 c3)) :
  wpOps Tryz.prog ops3 (fun e a w=>e=.normal∧(K10 4).wp Tryz.prog (bodyPost Tryz.prog Tryz.f10 fun e w=>∃ v,e=.returned v∧v=.bool true) a w) [2,3,4,5,6,7] ⟨T10d A n c g A2 n2 c2 g2 gl gm gr,[]⟩ w:=by
 have e1:([2,3,4,5,6,7]:List Nat)=List.range' 2 (ops3.toList.drop 2).length:=by kernel_rfl
 rw[e1,wpOps_eq_wpList (ops3.toList.drop 2) 2 (fun j=>by rw[List.getElem?_drop,Array.getElem?_toList])];dsimp only[ops3,K10,sq1,sq2,Tryz.f10,Option.getD_some,T10d,List.drop];have R1:=h1.alloc (.cells #[.int .i64 0,.int .i64 0] 24);have G1:=f1.alloc (.cells #[.int .i64 0,.int .i64 0] 24);have R2:=h2.alloc (.cells #[.int .i64 0,.int .i64 0] 24);have G2:=f2.alloc (.cells #[.int .i64 0,.int .i64 0] 24);have R3:=h3.alloc (.cells #[.int .i64 0,.int .i64 0] 24);have B3:=b3.alloc (.cells #[.int .i64 0,.int .i64 0] 24);have G3:=Two.new w 24 (.int .i64 0) (.int .i64 0);clear h1 f1 h2 f2 h3 b3
 go_wp2_with fail
 refine(unpack_nil_lone _).mono ?_;rintro e w1 ⟨A5,n5,c5,rfl,y1⟩;have R4:=(R1.on y1).alloc (.cells #[.int .i64 16,.int .i64 (-1)] 24);have G4:=(G1.on y1).alloc (.cells #[.int .i64 16,.int .i64 (-1)] 24);have R5:=(R2.on y1).alloc (.cells #[.int .i64 16,.int .i64 (-1)] 24);have G5:=(G2.on y1).alloc (.cells #[.int .i64 16,.int .i64 (-1)] 24);have R6:=(R3.on y1).alloc (.cells #[.int .i64 16,.int .i64 (-1)] 24);have B6:One _ gr _ _:=(Blk.on B3 y1).alloc (.cells #[.int .i64 16,.int .i64 (-1)] 24);have G6:=(G3.on y1).alloc (.cells #[.int .i64 16,.int .i64 (-1)] 24);have G7:=Two.new w1 24 (.int .i64 16) (.int .i64 (-1));clear R1 G1 R2 G2 R3 B3 G3 y1
 go_upto_region 5 with(fail)
 generalize w1.alloc (.cells #[.int .i64 16,.int .i64 (-1)] 24)=W at R4 G4 R5 G5 R6 B6 G6 G7 ⊢;have g40:W.cell? ⟨g,0,none⟩=some (.int .i64 0):=G4.c0;have g50:W.cell? ⟨g2,0,none⟩=some (.int .i64 0):=G5.c0;have g60:W.cell? ⟨w.heap.size,0,none⟩=some (.int .i64 0):=G6.c0;have g70:W.cell? ⟨w1.heap.size,0,none⟩=some (.int .i64 16):=G7.c0;have g71:W.cell? ⟨w1.heap.size,1,none⟩=some (.int .i64 (-1)):=G7.c1;have b60:W.cell? ⟨gr,0,none⟩=some (.slice A3 n3 c3):=B6.c0;have R4d:Rd W.drew A n c (bcells [0]):=R4;have R5d:Rd W.drew A2 n2 c2 (bcells [97,97,97,97]):=R5;have R6d:Rd W.drew A3 n3 c3 (bcells [0]):=R6;have G7d:Two W.drew w1.heap.size 24 (.int .i64 16) (.int .i64 (-1)):=G7;have X1:Rd (W.drew.alloc (.cells #[.int .u8 0] 5)) (some ⟨W.heap.size,0,none⟩) 1 1 (bcells [0]):=rd_lit W.drew rfl 5 [0] 1 rfl (by decide);have X2:Rd ((W.drew.alloc (.cells #[.int .u8 0] 5)).alloc (.cells #[.int .u8 97,.int .u8 97,.int .u8 97,.int .u8 97] 5 (4,5))) (some ⟨W.heap.size+1,0,none⟩) 4 4 (bcells [97,97,97,97]):=Rd.litM (W.drew.alloc (.cells #[.int .u8 0] 5)) (by simp) 5 #[.int .u8 97,.int .u8 97,.int .u8 97,.int .u8 97] (4,5) 4 rfl (by decide);have X3:Rd (((W.drew.alloc (.cells #[.int .u8 0] 5)).alloc (.cells #[.int .u8 97,.int .u8 97,.int .u8 97,.int .u8 97] 5 (4,5))).alloc (.cells #[.int .u8 0] 5)) (some ⟨W.heap.size+2,0,none⟩) 1 1 (bcells [0]):=rd_lit _ (by simp) 5 [0] 1 rfl (by decide)
 have C1:Hid (Calls Tryz.prog 11 #[.slice A n c,.slice (some ⟨W.heap.size,0,none⟩) 1 1] ((W.alloc (.cells #[.int .u8 0] 5)).drew) fun e w'=>e=.returned (.bool true)∧((W.alloc (.cells #[.int .u8 0] 5)).drew)=w'):=Lib.hid (kch7 _ _ _ [0] _ _ _ [0] _ (R4d.alloc _) X1 (by intro k;rcases k with _|k<;>simp) (by intro k;rcases k with _|k<;>simp));have C2:Hid (Calls Tryz.prog 11 #[.slice A2 n2 c2,.slice (some ⟨W.heap.size+1,0,none⟩) 4 4] (((W.alloc (.cells #[.int .u8 0] 5)).alloc (.cells #[.int .u8 97,.int .u8 97,.int .u8 97,.int .u8 97] 5 (4,5))).drew) fun e w'=>e=.returned (.bool true)∧(((W.alloc (.cells #[.int .u8 0] 5)).alloc (.cells #[.int .u8 97,.int .u8 97,.int .u8 97,.int .u8 97] 5 (4,5))).drew)=w'):=Lib.hid (kch7 _ _ _ [97,97,97,97] _ _ _ [97,97,97,97] _ ((R5d.alloc _).alloc _) X2 (by intro k;rcases k with _|_|_|_|k<;>simp) (by intro k;rcases k with _|_|_|_|k<;>simp))
 have C3:Hid (Calls Tryz.prog 11 #[.slice A3 n3 c3,.slice (some ⟨W.heap.size+2,0,none⟩) 1 1] ((((W.alloc (.cells #[.int .u8 0] 5)).alloc (.cells #[.int .u8 97,.int .u8 97,.int .u8 97,.int .u8 97] 5 (4,5))).alloc (.cells #[.int .u8 0] 5)).drew) fun e w'=>e=.returned (.bool true)∧((((W.alloc (.cells #[.int .u8 0] 5)).alloc (.cells #[.int .u8 97,.int .u8 97,.int .u8 97,.int .u8 97] 5 (4,5))).alloc (.cells #[.int .u8 0] 5)).drew)=w'):=Lib.hid (kch7 _ _ _ [0] _ _ _ [0] _ (((R6d.alloc _).alloc _).alloc _) X3 (by intro k;rcases k with _|k<;>simp) (by intro k;rcases k with _|k<;>simp));have e30:Two ((((W.alloc (.cells #[.int .u8 0] 5)).alloc (.cells #[.int .u8 97,.int .u8 97,.int .u8 97,.int .u8 97] 5 (4,5))).alloc (.cells #[.int .u8 0] 5)).drew) g 24 (.int .i64 0) (.int .i64 0):=((G4.alloc (.cells #[.int .u8 0] 5)).alloc (.cells #[.int .u8 97,.int .u8 97,.int .u8 97,.int .u8 97] 5 (4,5))).alloc (.cells #[.int .u8 0] 5);have e31:Two ((((W.alloc (.cells #[.int .u8 0] 5)).alloc (.cells #[.int .u8 97,.int .u8 97,.int .u8 97,.int .u8 97] 5 (4,5))).alloc (.cells #[.int .u8 0] 5)).drew) g2 24 (.int .i64 0) (.int .i64 0):=((G5.alloc (.cells #[.int .u8 0] 5)).alloc (.cells #[.int .u8 97,.int .u8 97,.int .u8 97,.int .u8 97] 5 (4,5))).alloc (.cells #[.int .u8 0] 5)
 have e32:Two ((((W.alloc (.cells #[.int .u8 0] 5)).alloc (.cells #[.int .u8 97,.int .u8 97,.int .u8 97,.int .u8 97] 5 (4,5))).alloc (.cells #[.int .u8 0] 5)).drew) w.heap.size 24 (.int .i64 0) (.int .i64 0):=((G6.alloc (.cells #[.int .u8 0] 5)).alloc (.cells #[.int .u8 97,.int .u8 97,.int .u8 97,.int .u8 97] 5 (4,5))).alloc (.cells #[.int .u8 0] 5);have e33:One ((((W.alloc (.cells #[.int .u8 0] 5)).alloc (.cells #[.int .u8 97,.int .u8 97,.int .u8 97,.int .u8 97] 5 (4,5))).alloc (.cells #[.int .u8 0] 5)).drew) gr 22 (.slice A3 n3 c3):=((B6.alloc (.cells #[.int .u8 0] 5)).alloc (.cells #[.int .u8 97,.int .u8 97,.int .u8 97,.int .u8 97] 5 (4,5))).alloc (.cells #[.int .u8 0] 5);have e34:Two ((((W.alloc (.cells #[.int .u8 0] 5)).alloc (.cells #[.int .u8 97,.int .u8 97,.int .u8 97,.int .u8 97] 5 (4,5))).alloc (.cells #[.int .u8 0] 5)).drew) w1.heap.size 24 (.int .i64 16) (.int .i64 (-1)):=((G7.alloc (.cells #[.int .u8 0] 5)).alloc (.cells #[.int .u8 97,.int .u8 97,.int .u8 97,.int .u8 97] 5 (4,5))).alloc (.cells #[.int .u8 0] 5)
 have k30:((((W.alloc (.cells #[.int .u8 0] 5)).alloc (.cells #[.int .u8 97,.int .u8 97,.int .u8 97,.int .u8 97] 5 (4,5))).alloc (.cells #[.int .u8 0] 5)).drew).cell? ⟨g,0,none⟩=some (.int .i64 0):=(((G4.alloc (.cells #[.int .u8 0] 5)).alloc (.cells #[.int .u8 97,.int .u8 97,.int .u8 97,.int .u8 97] 5 (4,5))).alloc (.cells #[.int .u8 0] 5)).c0;have k31:((((W.alloc (.cells #[.int .u8 0] 5)).alloc (.cells #[.int .u8 97,.int .u8 97,.int .u8 97,.int .u8 97] 5 (4,5))).alloc (.cells #[.int .u8 0] 5)).drew).cell? ⟨g2,0,none⟩=some (.int .i64 0):=(((G5.alloc (.cells #[.int .u8 0] 5)).alloc (.cells #[.int .u8 97,.int .u8 97,.int .u8 97,.int .u8 97] 5 (4,5))).alloc (.cells #[.int .u8 0] 5)).c0;have k32:((((W.alloc (.cells #[.int .u8 0] 5)).alloc (.cells #[.int .u8 97,.int .u8 97,.int .u8 97,.int .u8 97] 5 (4,5))).alloc (.cells #[.int .u8 0] 5)).drew).cell? ⟨w.heap.size,0,none⟩=some (.int .i64 0):=(((G6.alloc (.cells #[.int .u8 0] 5)).alloc (.cells #[.int .u8 97,.int .u8 97,.int .u8 97,.int .u8 97] 5 (4,5))).alloc (.cells #[.int .u8 0] 5)).c0
 have k33:((((W.alloc (.cells #[.int .u8 0] 5)).alloc (.cells #[.int .u8 97,.int .u8 97,.int .u8 97,.int .u8 97] 5 (4,5))).alloc (.cells #[.int .u8 0] 5)).drew).cell? ⟨gr,0,none⟩=some (.slice A3 n3 c3):=(((B6.alloc (.cells #[.int .u8 0] 5)).alloc (.cells #[.int .u8 97,.int .u8 97,.int .u8 97,.int .u8 97] 5 (4,5))).alloc (.cells #[.int .u8 0] 5)).c0;have k34:((((W.alloc (.cells #[.int .u8 0] 5)).alloc (.cells #[.int .u8 97,.int .u8 97,.int .u8 97,.int .u8 97] 5 (4,5))).alloc (.cells #[.int .u8 0] 5)).drew).cell? ⟨w1.heap.size,0,none⟩=some (.int .i64 16):=(((G7.alloc (.cells #[.int .u8 0] 5)).alloc (.cells #[.int .u8 97,.int .u8 97,.int .u8 97,.int .u8 97] 5 (4,5))).alloc (.cells #[.int .u8 0] 5)).c0;have k35:((((W.alloc (.cells #[.int .u8 0] 5)).alloc (.cells #[.int .u8 97,.int .u8 97,.int .u8 97,.int .u8 97] 5 (4,5))).alloc (.cells #[.int .u8 0] 5)).drew).cell? ⟨w1.heap.size,1,none⟩=some (.int .i64 (-1)):=(((G7.alloc (.cells #[.int .u8 0] 5)).alloc (.cells #[.int .u8 97,.int .u8 97,.int .u8 97,.int .u8 97] 5 (4,5))).alloc (.cells #[.int .u8 0] 5)).c1;clear R4 R5 R6 B6 G4 G5 G6 G7 R4d R5d R6d G7d X1 X2 X3
 have hcv:Sem.run Tryz.prog (convert 22 22 (.slice (some ⟨W.heap.size+1,0,none⟩) 4 4)) (((W.alloc (.cells #[.int .u8 0] 5)).alloc (.cells #[.int .u8 97,.int .u8 97,.int .u8 97,.int .u8 97] 5)).drew)=.ok (.slice (some ⟨W.heap.size+1,0,none⟩) 4 4) (((W.alloc (.cells #[.int .u8 0] 5)).alloc (.cells #[.int .u8 97,.int .u8 97,.int .u8 97,.int .u8 97] 5 (4,5))).drew):=run_conv_g (W.drew.alloc (.cells #[.int .u8 0] 5)) (W.heap.size+1) #[.int .u8 97,.int .u8 97,.int .u8 97,.int .u8 97] 4 4 (by simp)
 go_region_held_law (fun w'=>w'.cell? ⟨g,0,none⟩=some (.int .i64 0)∧w'.cell? ⟨g2,0,none⟩=some (.int .i64 0)∧w'.cell? ⟨w.heap.size,0,none⟩=some (.int .i64 0)∧w'.cell? ⟨gr,0,none⟩=some (.slice A3 n3 c3)∧w'.cell? ⟨w1.heap.size,0,none⟩=some (.int .i64 16)∧w'.cell? ⟨w1.heap.size,1,none⟩=some (.int .i64 (-1))) (go_keep) (first
  | (go_at_call 11;first
   | ((with_reducible refine C1.out.mono ?_);rintro e w9 ⟨rfl,rfl⟩)
   | ((with_reducible refine C2.out.mono ?_);rintro e w9 ⟨rfl,rfl⟩)
   | ((with_reducible refine C3.out.mono ?_);rintro e w9 ⟨rfl,rfl⟩))
  | (go_at_call 15;refine(kan7 _ _ _).mono ?_;rintro e w9 ⟨rfl,y9⟩;have j0:=(e30.on y9).c0;have j1:=(e31.on y9).c0;have j2:=(e32.on y9).c0;have j3:=(Blk.on e33 y9);have j4:=(One.c0 j3);have j5:=(e34.on y9).c0;have j6:=(e34.on y9).c1))
 go_wp2
 go_ret
 rfl
end PB
end
section
namespace Cw
open Go Go.Conc Go.ConcN Rn Go.RowKit
open PB (K10 T10c T10d ops3)
theorem K10_3:K10 3=.seq (.region 3 ops3 false) (K10 4):=by kernel_rfl
theorem ops3_size:List.range ops3.size=[0,1,2,3,4,5,6,7]:=by kernel_rfl
theorem ok10_4:okCode Tryz.prog S0 M1 (K10 4)=true:=by kernel_rfl
theorem ops3_rest:([2,3,4,5,6,7]:List Nat).all (fun i=>match ops3[i]? with|some o=>okOp Tryz.prog S0 M1 o.op|none=>true)=true:=by kernel_rfl
theorem ok_ops3:∀ it∈([.inRegion ops3 [2,3,4,5,6,7],.code (K10 4)]:List Item),okItem Tryz.prog S0 M1 it:=by
 intro it hit;simp only[List.mem_cons,List.not_mem_nil,or_false] at hit;rcases hit with rfl|rfl
 ·intro i hi o ho;have h:=(List.all_eq_true.1 ops3_rest) i hi;rw[ho] at h;exact h
 ·exact ok10_4
theorem pack_nil(W:World):Calls Tryz.prog 20 #[.slice none 0 0,.slice none 0 0] W fun e w'=>∃ v,e=.returned v∧∃ A' n' c',v=.slice A' n' c'∧PB.Rd w' A' n' c' (PB.bcells [0])∧Below W.heap.size W w':=by
 have nil:PB.Rd W none 0 0 (PB.bcells []):=PB.Reads.nil _ _ none 0 (Nat.zero_le _);refine(PB.pack_any nil nil (by decide) (by decide) (by simp) (by simp)).mono ?_;rintro e w' ⟨A',n',c',ts,rfl,hT,ho,hb⟩;have h1:PB.pk1 []=[0]:=by
  unfold PB.pk1;rw[if_neg]
  ·unfold PB.fr1;simp
 have h2:PB.pk2 [] ts=[0]:=by
  unfold PB.pk2;rw[h1,if_neg]
  ·unfold PB.fr2;simp
 rw[h2] at ho;exact⟨_,rfl,A',n',c',rfl,PB.Rd.own ho,hb⟩
def ResN(wpM:World)(c:Nat)(v:Value)(V:Nat→Prop)(w:World):Prop :=
 ∃ (ρ:Ren Tryz.prog) (A':Option Addr) (n' c':Nat) (wp:World),RhoOk ρ S0 M1∧(∀ b,¬ρ.shut b)∧VR ρ (.slice A' n' c') v∧PB.Rd wp A' n' c' (PB.bcells [0])∧Grew wpM wp ∧
  (∀ b b',ρ.rel b b'→V b'∧wpM.heap.size≤b∧b<wp.heap.size∧∃ o o',wp.heap[b]?=some o∧w.heap[b']?=some o'∧OR ρ o o')
theorem resN_keep{wpM:World}:∀ c v V w w',ResN wpM c v V w→(∀ b,V b→w'.heap[b]?=w.heap[b]?)→ResN wpM c v V w':=by
 rintro c v V w w' ⟨ρ,A',n',c',wp,h1,h2,h3,h4,h5,h6⟩ hk;refine⟨ρ,A',n',c',wp,h1,h2,h3,h4,h5,fun b b' hb=>?_⟩;obtain⟨k1,k2,k3,o,o',k4,k5,k6⟩:=h6 b b' hb;exact⟨k1,k2,k3,o,o',k4,(hk b' k1).trans k5,k6⟩
theorem packG_nil{wpM W0:World}(hp:Tryz.prog.globals.size≤wpM.heap.size)(hl:Tryz.prog.globals.size≤W0.heap.size){C Wg c:Nat}{F R:Nat→Prop} :
  PackG C Wg 1 c (.slice none 0 0) (.slice none 0 0) (fun _=>False) F R (fun w=>(∀ b,False→Exa W0 w b)∧W0.heap.size≤w.heap.size) (ResN wpM):=by
 refine⟨fun w hk=>⟨S0,M1,ren0 Tryz.prog S0,#[.slice none 0 0,.slice none 0 0],wpM,fun v w'=>∃ A' n' c',v=.slice A' n' c'∧PB.Rd w' A' n' c' (PB.bcells [0])∧Grew wpM w',kgn7,by kernel_rfl,ren0_ok S0 M1,?_,?_,rs_empty hp (Nat.le_trans hl hk.2),⟨fun b b' h=>h.elim,fun b b' h=>h.elim⟩,fun csr=>⟨_,Obs.none (fun _ h=>h),trivial⟩,?_⟩⟩
 ·exact ARR.push (xs:=#[.slice none 0 0]) (xs':=#[.slice none 0 0]) (ARR.one (.snone 0 0)) (.snone 0 0)
 ·intro u;refine(pack_nil (tp wpM u)).mono ?_;rintro e w' ⟨v,rfl,A',n',c',rfl,h1,h2⟩;exact⟨_,rfl,A',n',c',rfl,h1,Grew.of (w:=tp wpM u) h2⟩
 ·rintro ρ1 v v' wp1 w1 V1 u hle ⟨A',n',c',rfl,hr,hg⟩ hv hrs hin hlie hnew;refine⟨⟨ρ1,A',n',c',wp1,(ren0_ok S0 M1).mono hle,fun b hb=>((hle.shut b).1 hb).elim,hv,hr,hg,fun b b' hb=>?_⟩,?_⟩
  ·have h1:¬ρ1.shut b:=fun h=>((hle.shut b).1 h).elim;obtain⟨o,o',e1,e2,e3⟩:=hrs.both.obj hb (hrs.full hb);exact⟨hin.own b b' hb h1,(hnew b b' hb).resolve_left fun h=>h.elim,hrs.full hb,o,o',e1,e2,e3⟩
  ·cases hv with
   | snone l c=>exact⟨_,_,_,rfl⟩
   | slice l c h=>exact⟨_,_,_,rfl⟩
section
variable {PostF:Value→World→Prop}{B:Nat→Prop}{q0:Nat}
theorem rs_res{wpM wp w:World}{ρ:Ren Tryz.prog}{V:Nat→Prop}(hlo:Tryz.prog.globals.size≤wp.heap.size)(hlr:Tryz.prog.globals.size≤w.heap.size)(hs:∀ b,¬ρ.shut b)
  (h:∀ b b',ρ.rel b b'→V b'∧wpM.heap.size≤b∧b<wp.heap.size∧∃ o o',wp.heap[b]?=some o∧w.heap[b']?=some o'∧OR ρ o o'):RS ρ wp w:=by
 refine⟨⟨fun {b b'} hb _=>?_,fun {b b'} hb hge=>?_,fun {b} hb=>(hs b hb).elim⟩,fun {b b'} hb=>(h b b' hb).2.2.1,hlo,hlr⟩
 ·obtain⟨_,_,_,o,o',e1,e2,e3⟩:=h b b' hb;exact⟨o,o',e1,e2,e3⟩
 ·have:=(h b b' hb).2.2.1;omega
theorem t10d(A:Option Addr)(n c g:Nat)(A2:Option Addr)(n2 c2 g2 gl gm gr:Nat) :
 ((T10c A n c g A2 n2 c2 g2 gl).setIfInBounds 19 (.slice (some ⟨gm,0,none⟩) 1 1)).setIfInBounds 20 (.tuple #[.slice (some ⟨gr,0,none⟩) 1 1,.agg #[.int .i64 0,.int .i64 0]])=T10d A n c g A2 n2 c2 g2 gl gm gr:=rfl
structure Left0(W0 w:World):Prop where
 size:W0.heap.size≤w.heap.size
 old:∀ b,b<W0.heap.size→w.heap[b]?=W0.heap[b]?
 os:w.os=W0.os
 tape:w.tape=W0.tape
 output:w.output=W0.output
abbrev o30:Oper:=({ dst:=some 19,op:=Op.buildSlice 35 1 #[(0,Operand.const (Value.slice none 0 0))],type:=35,pos := "pack.go:150",after:=#[],guard:=none }:Oper)
abbrev o31:Oper:=({ dst:=some 20,op:=Op.call { callee:=Callee.value (Operand.func 17),args:=#[Operand.tmp 19,Operand.const (Value.slice none 0 0)],argTypes:=#[35,22] },type:=36,pos := "pack.go:150",after:=#[{ on:=0,ground:=Ground.data }],guard:=none }:Oper)
theorem ops3_0:ops3[0]?=some o30:=by kernel_rfl
theorem ops3_1:ops3[1]?=some o31:=by kernel_rfl
theorem hf10:Tryz.prog.funcs[10]?=some Tryz.f10:=Tryz.func10
theorem packs_mid{c:Frame}{cs:List Frame}{W0:World}(hB:∀ b,B b→b<W0.heap.size)(hlo:Tryz.prog.globals.size≤W0.heap.size)
  {ρ:Ren Tryz.prog}{A:Option Addr}{n k g:Nat}{A2:Option Addr}{n2 k2 g2 gl:Nat}{T':Array Value}{wp w:World} (hρ:RhoOk ρ S0 M1) (ha:ARR ρ (T10c A n k g A2 n2 k2 g2 gl) T') (hs:RS ρ wp w) (haft:Aft (ren0 Tryz.prog S0) W0 W0 ρ wp w)
  (p1:PB.Rd wp A n k (PB.bcells [0])) (p2:PB.Two wp g 24 (.int .i64 0) (.int .i64 0)) (p3:PB.Rd wp A2 n2 k2 (PB.bcells [97,97,97,97])) (p4:PB.Two wp g2 24 (.int .i64 0) (.int .i64 0))
  (hq:q0+1<2147483648)
  (hEnd:∀ (w':World) (N:Nat),W0.heap.size≤N→N<w'.heap.size→Left0 W0 w'→Fin Tryz.prog PostF (fun b=>B b∨b=N) (q0+1) (G (c.finish (.bool true)) cs) w') :
  Fin Tryz.prog PostF B q0 (G ((base 10).at ⟨T',[]⟩ [.code (K10 3)]) (c::cs)) w:=by
 obtain⟨hB1,hBl1⟩:=aft_B haft (fun _ _ h=>h.elim) hB;have hns:∀ b,¬ρ.shut b:=fun b h=>(haft.le.shut b).1 h;have hsT:T'.size=68:=ha.size.symm;have hnew:∀ b b',ρ.rel b b'→W0.heap.size≤b':=fun b b' hb=>(haft.new hb).elim (fun h=>h.elim) fun h=>h.2;rw[K10_3];refine ki7 rfl (fun w₁=>stepG_seq) fun w₁ r=>?_;obtain⟨d1,rfl⟩:=r;refine ki7 rfl (fun w₁=>stepG_region) fun w₁ r=>?_;obtain⟨d2,rfl⟩:=r;rw[ops3_size];refine kfl7 (o:=o30) (ob:=.cells #[.slice none 0 0] 22) (v:=fun w=>.slice (some ⟨w.heap.size,0,none⟩) 1 1) ops3_0 (by rfl) (by decide) (fun w₁ r=>by constructor<;>simp[go_sem,Act.eval]) fun w₁ r=>?_;obtain⟨d3,rfl⟩:=r;have hs1:RS ρ wp (((w.at d1).at d2).at d3):=((hs.at d1).at d2).at d3;have haft1:Aft (ren0 Tryz.prog S0) W0 W0 ρ wp (((w.at d1).at d2).at d3):=((haft.trans (Aft.at ρ wp w d1)).trans (Aft.at ρ wp _ d2)).trans (Aft.at ρ wp _ d3);have hwl:w.heap.size=(((w.at d1).at d2).at d3).heap.size:=rfl;generalize ((w.at d1).at d2).at d3=wr at hs1 haft1 hwl ⊢;rw[hwl] at hBl1;clear hs haft hwl w;have hfull:∀ b b',ρ.rel b b'→b<wp.heap.size∧b'<wr.heap.size:=fun b b' hb=>⟨hs1.full hb,hs1.fullr hb⟩
 have hx:∀ b b',ρ.rel b b'→b≠wp.heap.size∧b'≠wr.heap.size:=fun b b' hb=>by have:=hfull b b' hb;omega
 simp only[Act.put];refine fin_enter (o:=o31) (f:=17) (fn:=Tryz.f17) (c:=K17 0) (vs:=#[.slice (some ⟨wr.heap.size,0,none⟩) 1 1,.slice none 0 0]) ops3_1 (by rfl) (by decide) rfl Tryz.func17 (by kernel_rfl) body17 (by simp[Act.eval,hsT]) fun w₁ r=>?_;obtain⟨d4,rfl⟩:=r;obtain⟨wc,hwc⟩:∃ wc,wc=(wr.alloc (.cells #[.slice none 0 0] 22)).at d4:=⟨_,rfl⟩
 rw[←hwc];have csz:wc.heap.size=wr.heap.size+1:=by
  have h:(wr.alloc (.cells #[.slice none 0 0] 22)).heap.size=wr.heap.size+1:=by simp
  rw[hwc];exact h
 have cold:∀ b,b<wr.heap.size→wc.heap[b]?=wr.heap[b]?:=fun b hb=>by rw[hwc];exact Below.heap_alloc wr _ b hb
 have cnew:wc.heap[wr.heap.size]?=some (.cells #[.slice none 0 0] 22):=by rw[hwc];exact heap_alloc_new wr _
 have cos:wc.os=wr.os∧wc.tape=wr.tape∧wc.output=wr.output:=by rw[hwc];exact⟨rfl,rfl,rfl⟩
 clear hwc;have hs2:RS ρ wp wc:=rs_real hs1 (fun b b' hb=>cold b' (hfull b b' hb).2) (by omega);have hlr:Tryz.prog.globals.size≤wr.heap.size:=hs1.lowr;have hs3:=rs_import hs2 hns wr.heap.size hx hlr cnew (.cells (c:=#[.slice none 0 0]) (f:=(0,0)) 22 (ARR.one (.snone 0 0)) (.inl rfl));obtain⟨wpM,hwpM⟩:∃ x,x=wp.alloc (.cells #[.slice none 0 0] 22):=⟨_,rfl⟩
 rw[←hwpM] at hs3;have gM:Grew wp wpM:=by rw[hwpM];exact⟨by simp,fun b hb=>Below.heap_alloc wp _ b hb⟩
 have szM:wpM.heap.size=wp.heap.size+1:=by rw[hwpM];simp
 clear hwpM;have hC:CallP (some ⟨wr.heap.size,0,none⟩) 1 1 (fun _=>.slice none 0 0) none 0 0 B (fun _=>False) (fun _=>False) (ResN wpM) wc:=by
  refine⟨by decide,fun _=>⟨_,rfl⟩,fun j ad hj e=>?_,fun ad e _ hb=>?_,fun j _=>⟨none,0,0,rfl,by decide⟩,by decide,fun b hb=>?_,fun b hb=>hb.elim,fun b hb=>hb.elim,resN_keep,fun C Wg Bd Bo c Bb Bi _ _ _=>?_⟩
  ·cases e;obtain rfl:j=0:=by omega
   simp[World.cell?,Addr.add,cnew]
  ·cases e;exact absurd (hBl1 _ hb) (Nat.lt_irrefl _)
  ·have:=hBl1 b hb;omega
  ·exact packG_nil hs3.lowp (by rw[csz];omega)
 refine packall_fin (q0:=q0) hC hq fun w' V hL=>?_;have ef:=Frame.finish_at (base 10) ⟨T'.setIfInBounds 19 (.slice (some ⟨wr.heap.size,0,none⟩) 1 1),[]⟩ ops3 1 [2,3,4,5,6,7] [.code (K10 4)] (.tuple #[.slice (some ⟨wc.heap.size+2,0,none⟩) 1 1,.agg #[.int .i64 0,.int .i64 0]]);rw[ops3_1] at ef;simp only[Option.bind_some,Act.put] at ef;rw[ef];clear ef;obtain⟨v0,hhas,ρ1,A',n',c',wp1,hρ1,hns1,hv0,hr1,hg1,hrel1⟩:=hL.has 0 (by decide);obtain⟨pcs,hpay,hpsz⟩:=hL.pay;have hpcs:pcs=#[v0]:=by
  have h0:pcs[0]?=some v0:=by
   unfold Has World.cell? at hhas
   simpa [hpay] using hhas
  apply Array.ext_getElem?;intro i;rcases i with _|i
  ·simpa using h0
  ·rw[Array.getElem?_eq_none (by omega),Array.getElem?_eq_none (by simp)]
 subst hpcs;have hsz':=hL.size;have hs4:=rs_real hs3 (w':=w') (fun b b' hb=>hL.old b' (hs3.fullr hb) (by simp)) (by omega);have hns3:∀ b,¬(addPair ρ wp.heap.size wr.heap.size hx hs2.lowp hlr).shut b:=hns;have hs5:=rs_ghost hs4 hg1.2 hg1.1 hns3;have hlp1:Tryz.prog.globals.size≤wp1.heap.size:=hs5.lowp;have hw1:=rs_res (wpM:=wpM) hlp1 hs5.lowr hns1 hrel1;have hd:∀ a a' b b',(addPair ρ wp.heap.size wr.heap.size hx hs2.lowp hlr).rel a a'→ρ1.rel b b'→a≠b∧a'≠b':=by
  intro a a' b b' ha hb;have q1:=hs3.full ha;have q2:=hs3.fullr ha;obtain⟨r1,r2,r3,_⟩:=hrel1 b b' hb;have r4:=hL.vs 0 b' (by decide) r1;omega
 have hok:∀ f,(addPair ρ wp.heap.size wr.heap.size hx hs2.lowp hlr).ok f↔ρ1.ok f:=fun f=>(hρ.ok f).trans (hρ1.ok f).symm;have hs6:=rs_join hs5 hw1 hd hns3 hns1 hok;obtain⟨ρ6,hρ6e⟩:∃ x,x=joinR (addPair ρ wp.heap.size wr.heap.size hx hs2.lowp hlr) ρ1 hd:=⟨_,rfl⟩
 have le3:Le (addPair ρ wp.heap.size wr.heap.size hx hs2.lowp hlr) ρ6:=by rw[hρ6e];exact le_joinL hd
 have le1:Le ρ1 ρ6:=by rw[hρ6e];exact le_joinR hd hns3 hns1 hok
 have le0:Le ρ ρ6:=(kfz7 (ρ:=ρ) wp.heap.size wr.heap.size hx hs2.lowp hlr).trans le3;have hrel6:∀ b b',ρ6.rel b b'→(ρ.rel b b'∨b'=wr.heap.size)∨V 0 b':=by
  intro b b' hb;rw[hρ6e] at hb;rcases hb with(hb|⟨_,hb⟩)|hb
  ·exact .inl (.inl hb)
  ·exact .inl (.inr hb)
  ·exact .inr (hrel1 b b' hb).1
 have hns6:∀ b,¬ρ6.shut b:=fun b hb=>hns3 b ((le3.shut b).1 hb);have hρ6:RhoOk ρ6 S0 M1:=hρ.mono le0;rw[←hρ6e] at hs6;clear hρ6e hd hok hw1 hs5 hs4;have h19:ρ6.rel wp.heap.size wr.heap.size:=le3.rel (.inr ⟨rfl,rfl⟩);have hC2:wc.heap.size+2<w'.heap.size:=by omega
 have hx6:∀ b b',ρ6.rel b b'→b≠wp1.heap.size∧b'≠wc.heap.size+2:=by
  intro b b' hb;have q1:=hs6.full hb;refine⟨by omega,?_⟩;rcases hrel6 b b' hb with(h|h)|h
  ·have:=hfull b b' h;omega
  ·omega
  ·have:=hL.vs 0 b' (by decide) h;omega
 have hs7:=rs_import hs6 hns6 (wc.heap.size+2) hx6 (by omega) hpay (.cells (c:=#[.slice A' n' c']) (f:=(0,0)) 22 (ARR.one (hv0.mono (le1.trans (kfz7 _ _ hx6 _ _)))) (.inl rfl));have le7:=kfz7 (ρ:=ρ6) wp1.heap.size (wc.heap.size+2) hx6 hs6.lowp (by omega);have h20:(addPair ρ6 wp1.heap.size (wc.heap.size+2) hx6 hs6.lowp (by omega)).rel wp1.heap.size (wc.heap.size+2):=.inr ⟨rfl,rfl⟩;generalize hρ7:addPair ρ6 wp1.heap.size (wc.heap.size+2) hx6 hs6.lowp _=ρ7 at hs7 le7 h20;have hrel7:∀ b b',ρ7.rel b b'→((ρ.rel b b'∨b'=wr.heap.size)∨V 0 b')∨b'=wc.heap.size+2:=by
  intro b b' hb;rw[←hρ7] at hb;rcases hb with hb|⟨_,hb⟩
  ·exact .inl (hrel6 b b' hb)
  ·exact .inr hb
 clear hρ7;have ha7:ARR ρ7 (T10d A n k g A2 n2 k2 g2 gl wp.heap.size wp1.heap.size) ((T'.setIfInBounds 19 (.slice (some ⟨wr.heap.size,0,none⟩) 1 1)).setIfInBounds 20 (.tuple #[.slice (some ⟨wc.heap.size+2,0,none⟩) 1 1,.agg #[.int .i64 0,.int .i64 0]])):=by
  rw[←t10d];refine((ha.mono (le0.trans le7)).set 19 (.slice 1 1 (AR.at (le7.rel h19) 0 none))).set 20 (VR.tuple' ?_);refine ARR.push (xs:=#[_]) (xs':=#[_]) (ARR.one (.slice 1 1 (AR.at h20 0 none))) (VR.agg' ?_);exact ARR.push (xs:=#[_]) (xs':=#[_]) (ARR.one (.int .i64 0)) (.int .i64 0)
 obtain⟨N,hN⟩:∃ N,N=wc.heap.size+4:=⟨_,rfl⟩
 rw[←hN];have gA:Grew wp wp1:=⟨Nat.le_trans gM.1 hg1.1,fun b hb=>(hg1.2 b (Nat.lt_of_lt_of_le hb gM.1)).trans (gM.2 b hb)⟩
 have gB:Grew wp1 (wp1.alloc (.cells #[.slice A' n' c'] 22)):=⟨by simp,fun b hb=>Below.heap_alloc wp1 _ b hb⟩
 have gC:Grew wp (wp1.alloc (.cells #[.slice A' n' c'] 22)):=⟨Nat.le_trans gA.1 gB.1,fun b hb=>(gB.2 b (Nat.lt_of_lt_of_le hb gA.1)).trans (gA.2 b hb)⟩
 have hnB:∀ b b',ρ7.rel b b'→¬(B b'∨b'=N):=by
  rintro b b' hb (hbb|rfl)
  ·have:=hBl1 b' hbb;rcases hrel7 b b' hb with((h|h)|h)|h
   ·exact hB1 b b' h hbb
   ·omega
   ·have:=hL.vs 0 b' (by decide) h;omega
   ·omega
  ·rcases hrel7 b _ hb with((h|h)|h)|h
   ·have:=hfull b _ h;omega
   ·omega
   ·have:=hL.vs 0 _ (by decide) h;omega
   ·omega
 have hlB:∀ b,(B b∨b=N)→b<w'.heap.size:=by
  rintro b (hb|rfl)
  ·have:=hBl1 b hb;omega
  ·omega
 refine fin_tail kgn7 (b:=base 10) (its:=[.inRegion ops3 [2,3,4,5,6,7],.code (K10 4)]) (r:=0) (Q:=fun v _=>v=.bool true) ⟨rfl⟩ ok_ops3 (hρ6.mono le7)
  (tail_of_body (fn:=Tryz.f10) rfl fun u=>(PB.tail_lone (w:=tp (wp1.alloc (.cells #[.slice A' n' c'] 22)) u) (PB.Rd.grew p1 gC) ((gC.2 g (PB.Blk.lt p2)).trans p2) (PB.Rd.grew p3 gC) ((gC.2 g2 (PB.Blk.lt p4)).trans p4) (PB.Rd.grew hr1 gB) (heap_alloc_new wp1 _)))
  ha7 hs7 hnB hlB ?_
 intro ρ8 v T8 wp8 w8 u todo hρ8 le8 hQ hv8 hs8 haft8;subst hQ;refine fin_back ⟨rfl⟩ hf10 (r:=0) rfl fun w9 r9=>?_;obtain⟨d9,rfl⟩:=r9;have hres:T8.getD 0 undef=.bool true:=by
  generalize T8.getD 0 undef=x at hv8;cases hv8;rfl
 rw[hres];have hsz8:=haft8.sizer;refine hEnd _ N (by have:=haft1.sizer;omega) (by show N<w8.heap.size;omega) ⟨?_,fun b hb=>?_,?_,?_,?_⟩
 ·have:=haft1.sizer;show W0.heap.size≤w8.heap.size;omega
 ·have h1:=haft1.sizer;have e8:w8.heap[b]?=w'.heap[b]?:=haft8.others b (by omega) fun b2 hb2=>by
   rcases hrel7 b2 b hb2 with((h|h)|h)|h
   ·have:=hnew b2 b h;omega
   ·omega
   ·have:=hL.vs 0 b (by decide) h;omega
   ·omega
  have e7:=hL.old b (by omega) (by simp);have e6:=cold b (by omega);have e5:=haft1.others b hb fun b2 h=>h.elim;show w8.heap[b]?=W0.heap[b]?;rw[e8,e7,e6,e5]
 ·show w8.os=W0.os;rw[haft8.os,hL.os,cos.1,haft1.os]
 ·show w8.tape=W0.tape;rw[haft8.tape,hL.tape,cos.2.1,haft1.tape]
 ·show w8.output=W0.output;rw[haft8.output,hL.output,cos.2.2,haft1.output]
theorem packs_fin{c:Frame}{cs:List Frame}{W0:World}(hB:∀ b,B b→b<W0.heap.size)(hlo:Tryz.prog.globals.size≤W0.heap.size)(hq:q0+1<2147483648)
  (hEnd:∀ (w':World) (N:Nat),W0.heap.size≤N→N<w'.heap.size→Left0 W0 w'→Fin Tryz.prog PostF (fun b=>B b∨b=N) (q0+1) (G (c.finish (.bool true)) cs) w') :
  Fin Tryz.prog PostF B q0 (G (Frame.enter Tryz.prog 10 #[] .normal) (c::cs)) W0 :=
 packs_pre hB hlo fun ρ A n k g A2 n2 k2 g2 gl T' wp w hρ ha hs haft p1 p2 p3 p4=>packs_mid hB hlo hρ ha hs haft p1 p2 p3 p4 hq hEnd
end
end Cw
end
section
namespace Cw
open Go Go.Conc Go.ConcN Rn
theorem junk_ex:∀ v:Value,∃ g:Value,(∀ {P:Program} (ρ:Ren P),VR ρ g v)∧(((∃ k n,v=.int k n)∨∃ l c,v=.slice none l c)→g=v)∧(¬Stiff g→∀ {P:Program} (ρ:Ren P) (v':Value),VR ρ g v'→v'=v)
 | .bool b=>⟨.bool b,fun ρ=>.bool b,by simp,fun _ P ρ v' h=>by cases h;rfl⟩
 | .int k n=>⟨.int k n,fun ρ=>.int k n,fun _=>rfl,fun _ P ρ v' h=>by cases h;rfl⟩
 | .float k n=>⟨.float k n,fun ρ=>.float k n,by simp,fun _ P ρ v' h=>by cases h;rfl⟩
 | .complex k x y=>⟨.complex k x y,fun ρ=>.complex k x y,by simp,fun _ P ρ v' h=>by cases h;rfl⟩
 | .string s=>⟨.string s,fun ρ=>.string s,by simp,fun _ P ρ v' h=>by cases h;rfl⟩
 | .pointer none=>⟨.pointer none,fun ρ=>.pnone,by simp,fun _ P ρ v' h=>by cases h;rfl⟩
 | .pointer (some a)=>⟨.tuple #[],fun ρ=>.wild rfl,by simp,fun h=>absurd (.inl ⟨_,rfl⟩) h⟩
 | .slice none l c=>⟨.slice none l c,fun ρ=>.snone l c,fun _=>rfl,fun _ P ρ v' h=>by cases h;rfl⟩
 | .slice (some a) l c=>⟨.tuple #[],fun ρ=>.wild rfl,by simp,fun h=>absurd (.inl ⟨_,rfl⟩) h⟩
 | .map none=>⟨.map none,fun ρ=>.mnone,by simp,fun _ P ρ v' h=>by cases h;rfl⟩
 | .map (some r)=>⟨.tuple #[],fun ρ=>.wild rfl,by simp,fun h=>absurd (.inl ⟨_,rfl⟩) h⟩
 | .chan none=>⟨.chan none,fun ρ=>.cnone,by simp,fun _ P ρ v' h=>by cases h;rfl⟩
 | .chan (some r)=>⟨.tuple #[],fun ρ=>.wild rfl,by simp,fun h=>absurd (.inl ⟨_,rfl⟩) h⟩
 | .func (.func f) a b=>⟨.tuple #[],fun ρ=>.wild rfl,by simp,fun h=>absurd (.inl ⟨_,rfl⟩) h⟩
 | .func (.methodOf t n) a b=>⟨.tuple #[],fun ρ=>.wild rfl,by simp,fun h=>absurd (.inl ⟨_,rfl⟩) h⟩
 | .func (.via t p f q) a b=>⟨.tuple #[],fun ρ=>.wild rfl,by simp,fun h=>absurd (.inl ⟨_,rfl⟩) h⟩
 | .func (.yield n) a b=>⟨.tuple #[],fun ρ=>.wild rfl,by simp,fun h=>absurd (.inl ⟨_,rfl⟩) h⟩
 | .func (.method n) a b=>⟨.func (.method "") #[.nilIface,.func (.method n) a b] #[],fun ρ=>.wildM n a b,by simp,fun _ P ρ v' h=>by cases h;rfl⟩
 | .nilFunc=>⟨.nilFunc,fun ρ=>.nilFunc,by simp,fun _ P ρ v' h=>by cases h;rfl⟩
 | .iface t v=>⟨.tuple #[],fun ρ=>.wild rfl,by simp,fun h=>absurd (.inl ⟨_,rfl⟩) h⟩
 | .nilIface=>⟨.nilIface,fun ρ=>.nilIface,by simp,fun _ P ρ v' h=>by cases h;rfl⟩
 | .tuple cs=>⟨.tuple #[],fun ρ=>.wild rfl,by simp,fun h=>absurd (.inl ⟨_,rfl⟩) h⟩
 | .agg cs=>by
  have ih:∀ i:_root_.Fin cs.size,∃ g:Value,∀ {P:Program} (ρ:Ren P),VR ρ g cs[i]:=fun i=>by
   obtain⟨g,h,_⟩:=junk_ex cs[i];exact⟨g,h⟩
  refine⟨.agg (Array.ofFn fun i:_root_.Fin cs.size=>Classical.choose (ih i)),fun {P} ρ=>.agg (by simp) fun i v v' h1 h2=>?_,by simp,fun h=>absurd (.inr ⟨_,rfl⟩) h⟩;obtain⟨hi,rfl⟩:=Array.getElem?_eq_some_iff.1 h2;rw[Array.getElem?_ofFn,dif_pos hi] at h1;cases h1;exact Classical.choose_spec (ih ⟨i,hi⟩) ρ
termination_by v=>SizeOf.sizeOf v
decreasing_by
 have:=Array.sizeOf_getElem cs i.1 i.2;simp only[Fin.getElem_fin,Value.agg.sizeOf_spec];omega
noncomputable def junk(v:Value):Value:=Classical.choose (junk_ex v)
theorem junk_vr{P:Program}(ρ:Ren P)(v:Value):VR ρ (junk v) v:=(Classical.choose_spec (junk_ex v)).1 ρ
theorem junk_int(k:IntKind)(n:Int):junk (.int k n)=.int k n:=(Classical.choose_spec (junk_ex (.int k n))).2.1 (.inl ⟨k,n,rfl⟩)
theorem junk_eq{P:Program}{ρ:Ren P}{v v':Value}(hs:¬Stiff (junk v))(h:VR ρ (junk v) v'):v'=v:=(Classical.choose_spec (junk_ex v)).2.2 hs ρ v' h
section
variable {P:Program}
open Classical in
noncomputable def junkS(S:Nat→Prop)(v:Value):Value:=if ∃ a l c,v=.slice (some a) l c∧S a.block then v else junk v
theorem junkS_int(S:Nat→Prop)(k:IntKind)(n:Int):junkS S (.int k n)=.int k n:=by
 unfold junkS;rw[if_neg (by rintro⟨a,l,c,h,_⟩;cases h)];exact junk_int k n
open Classical in
noncomputable def veilObj(S:Nat→Prop)(b:Nat)(o:Obj):Obj:=if S b then(match o with|.cells c t f=>.cells (c.map (junkS S)) t f|o=>o) else o
noncomputable def veil(S:Nat→Prop)(w:World):World:={ w with heap:=w.heap.mapIdx fun b o=>veilObj S b o }
theorem veil_heap(S:Nat→Prop)(w:World)(b:Nat):(veil S w).heap[b]?=(w.heap[b]?).map (veilObj S b):=by
 simp[veil,Array.getElem?_mapIdx]
theorem kee7(S:Nat→Prop)(w:World):(veil S w).heap.size=w.heap.size:=by simp[veil]
theorem veil_row{S:Nat→Prop}{w:World}{b:Nat}{c:Array Value}{t:TypeId}{f:Nat×Nat}(hS:S b)(h:w.heap[b]?=some (.cells c t f)):(veil S w).heap[b]?=some (.cells (c.map (junkS S)) t f):=by
 rw[veil_heap,h];simp[veilObj,hS]
theorem veil_cell{S:Nat→Prop}{w:World}{a:Addr}{k:IntKind}{n:Int}(h:w.cell? a=some (.int k n)):(veil S w).cell? a=some (.int k n):=by
 unfold World.cell? at h ⊢;rw[veil_heap];cases hb:w.heap[a.block]? with
 | none=>rw[hb] at h;cases h
 | some o =>
  rw[hb] at h;cases o with
  | cells c t f =>
   simp only at h
   split at h
   ·cases h
   ·rename_i hs
    by_cases hS:S a.block
    ·simp only[Option.map_some,veilObj,if_pos hS];rw[if_neg hs,Array.getElem?_map,h];simp[junkS_int]
    ·simp only[Option.map_some,veilObj,if_neg hS];rw[if_neg hs];exact h
  | _=>cases h
theorem rd_veil{S:Nat→Prop}{w:World}{A:Option Addr}{n c:Nat}{bs:List Nat}(h:PB.Rd w A n c (PB.bcells bs)):PB.Rd (veil S w) A n c (PB.bcells bs):=by
 obtain⟨h1,h2,h3,h4⟩:=h;refine⟨h1,h2,h3,fun hn=>?_⟩;obtain⟨b,off,e,hb,hc⟩:=h4 hn;refine⟨b,off,e,by rw[kee7];exact hb,fun j u hu=>?_⟩;have hi:∃ x:Int,u=.int .u8 x:=by
  unfold PB.bcells at hu;rw[List.getElem?_map] at hu;obtain⟨x,_,rfl⟩:=Option.map_eq_some_iff.1 hu;exact⟨_,rfl⟩
 obtain⟨x,rfl⟩:=hi;exact veil_cell (hc j _ hu)
def renA(P:Program)(F:Nat→Bool)(S:Nat→Prop)(hS:∀ b,S b→P.globals.size≤b):Ren P where
 rel b b':=S b∧b'=b
 inj:=by
  rintro a a' b b' ⟨_,rfl⟩ ⟨_,rfl⟩;exact Iff.rfl
 low:=by
  rintro a a' ⟨h,rfl⟩;exact⟨hS _ h,hS _ h⟩
 shut _:=False
 ok f:=F f=true
theorem renA_ok{F:Nat→Bool}{S:Nat→Prop}{hS:∀ b,S b→P.globals.size≤b}(M:List String):RhoOk (renA P F S hS) F M:=⟨fun _=>Iff.rfl,fun _ _ h=>h⟩
theorem junkS_vr{F:Nat→Bool}{S:Nat→Prop}(hS:∀ b,S b→P.globals.size≤b)(v:Value):VR (renA P F S hS) (junkS S v) v:=by
 unfold junkS
 split
 ·rename_i h
  obtain⟨a,l,c,rfl,h⟩:=h;exact .slice l c ⟨⟨h,rfl⟩,rfl,rfl⟩
 ·exact junk_vr _ _
theorem junkS_eq{F:Nat→Bool}{S:Nat→Prop}{hS:∀ b,S b→P.globals.size≤b}{ρ:Ren P}(hle:Le (renA P F S hS) ρ){v v':Value}(hs:¬Stiff (junkS S v))(h:VR ρ (junkS S v) v'):v'=v:=by
 unfold junkS at hs h
 split at h
 ·rename_i hx
  obtain⟨a,l,c,rfl,hx⟩:=hx;cases h with
  | @slice _ a' _ _ ha =>
   have e1:ρ.rel a.block a.block:=hle.rel ⟨hx,rfl⟩;have e2:a'.block=a.block:=((ρ.inj ha.block e1).1 rfl)
   obtain⟨b,o,s⟩:=a;obtain⟨b',o',s'⟩:=a';have e3:=ha.off;have e4:=ha.spot;simp only at e2 e3 e4;subst e2 e3 e4;rfl
 ·rename_i hx
  rw[if_neg hx] at hs;exact junk_eq hs h
theorem frLe_refl(f:Nat×Nat):FrLe f f:=by
 unfold FrLe;by_cases h:f.1=f.2
 ·exact .inl h
 ·exact .inr ⟨h,Nat.le_refl _,Nat.le_refl _⟩
theorem rs_veil{F:Nat→Bool}{S:Nat→Prop}{hS:∀ b,S b→P.globals.size≤b}{w:World}(hrow:∀ b,S b→∃ c t f,w.heap[b]?=some (.cells c t f))(hlo:P.globals.size≤w.heap.size):RS (renA P F S hS) (veil S w) w:=by
 have lt:∀ b,S b→b<w.heap.size:=fun b h=>by
  obtain⟨c,t,f,e⟩:=hrow b h;exact(Array.getElem?_eq_some_iff.1 e).1
 refine⟨⟨fun {b b'} h _=>?_,fun {b b'} h hge=>?_,fun h=>h.elim⟩,fun {b b'} h=>by rw[kee7];exact lt b h.1,by rw[kee7];exact hlo,hlo⟩
 ·obtain⟨h,rfl⟩:=h;obtain⟨c,t,f,e⟩:=hrow _ h;refine⟨_,_,veil_row h e,e,.cells t ⟨by simp,fun i v v' h1 h2=>?_⟩ (frLe_refl f)⟩;rw[Array.getElem?_map,h2] at h1;cases h1;exact junkS_vr _ _
 ·rw[kee7] at hge;have:=lt b h.1;omega
theorem veil_exact{F:Nat→Bool}{S:Nat→Prop}{hS:∀ b,S b→P.globals.size≤b}{W:World}(hrow:∀ b,S b→∃ c t f,W.heap[b]?=some (.cells c t f))
  {ρ:Ren P}{wp w:World} (haft:Aft (renA P F S hS) (veil S W) W ρ wp w) (hrs:RS ρ wp w) (hg:∀ b,b<W.heap.size→wp.heap[b]?=(veil S W).heap[b]?) :
  ∀ b,b<W.heap.size→w.heap[b]?=W.heap[b]?:=by
 intro b hb;by_cases hs:S b
 ·obtain⟨c,t,f,e⟩:=hrow b hs;have hr0:(renA P F S hS).rel b b:=⟨hs,rfl⟩
  have hr:=haft.le.rel hr0;obtain⟨o,o',e1,e2,ho⟩:=hrs.both.obj hr (hrs.full hr);rw[hg b hb,veil_row hs e] at e1;cases e1;obtain⟨c2,f2,e3,hup⟩:=haft.up b c t f e;rw[e2] at e3;cases e3;cases ho with
  | cells t hc hf =>
   have hf2:=hup.eq hf;subst hf2;have hcc:c2=c:=by
    refine Array.ext_getElem? fun i=>?_;have hsz:=hc.size;rw[Array.size_map] at hsz;rcases Nat.lt_or_ge i c.size with hi|hi
    ·have hv:c[i]?=some c[i]:=Array.getElem?_eq_getElem hi;have hv2:c2[i]?=some (c2[i]'(by omega)):=Array.getElem?_eq_getElem (by omega);have hg1:(c.map (junkS S))[i]?=some (junkS S c[i]):=by rw[Array.getElem?_map,hv];rfl
     by_cases hst:Stiff (junkS S c[i])
     ·obtain⟨_,hk⟩:=haft.keep b b i hr0 (by rw[kee7];exact hb) ⟨_,_,_,_,(hg b hb).trans (veil_row hs e),hg1,hst⟩;unfold cellAt at hk;rw[e2,e] at hk;exact hk
     ·rw[hv2,hv,junkS_eq haft.le hst (hc.get i _ _ hg1 hv2)]
    ·rw[Array.getElem?_eq_none hi,Array.getElem?_eq_none (by omega)]
   subst hcc;rw[e2,e]
 ·exact haft.others b hb fun b0 h0=>hs (h0.2 ▸ h0.1)
end
end Cw
end
section
namespace Cw
open Go Go.Conc Go.ConcN Rn Go.RowKit
open PB (K10)
theorem Grew.trans{a b c:World}(h:Grew a b)(k:Grew b c):Grew a c:=⟨Nat.le_trans h.1 k.1,fun i hi=>(k.2 i (Nat.lt_of_lt_of_le hi h.1)).trans (h.2 i hi)⟩
theorem Grew.on_veil{S:Nat→Prop}{W w:World}(h:Grew (veil S W) w):∀ b,b<W.heap.size→w.heap[b]?=(veil S W).heap[b]?:=fun b hb=>h.2 b (by rw[kee7];exact hb)
theorem wanted_free{o:Oper}{y:Nat→Option Bool}(h:o.guard=none):Region.wanted o y=true:=by
 unfold Region.wanted;rw[h]
theorem eval_bool{ρ:Ren Tryz.prog}{T T':Array Value}{k:Nat}{t:Bool}(h:ARR ρ T T')(e:T[k]?=some (.bool t)):(⟨T',[]⟩:Act).eval (.tmp k)=.bool t:=by
 rcases h.get? k with⟨e1,_⟩|⟨v,v',e1,e2,hv⟩
 ·rw[e] at e1;cases e1
 ·rw[e] at e1;cases e1;cases hv;simp[Act.eval,kg7 e2]
def ArgS(A A2:Option Addr)(b:Nat):Prop:=(∃ a,A=some a∧a.block=b)∨∃ a,A2=some a∧a.block=b
def ArgOk(W:World)(A:Option Addr):Prop:=∀ a,A=some a→Tryz.prog.globals.size≤a.block∧∃ c t f,W.heap[a.block]?=some (.cells c t f)
theorem args_low{W:World}{A A2:Option Addr}(h:ArgOk W A)(h2:ArgOk W A2):∀ b,ArgS A A2 b→Tryz.prog.globals.size≤b:=by
 rintro b (⟨a,e,rfl⟩|⟨a,e,rfl⟩)
 ·exact(h a e).1
 ·exact(h2 a e).1
theorem args_row{W:World}{A A2:Option Addr}(h:ArgOk W A)(h2:ArgOk W A2):∀ b,ArgS A A2 b→∃ c t f,W.heap[b]?=some (.cells c t f):=by
 rintro b (⟨a,e,rfl⟩|⟨a,e,rfl⟩)
 ·exact(h a e).2
 ·exact(h2 a e).2
theorem slice_vr{S:Nat→Prop}{hS:∀ b,S b→Tryz.prog.globals.size≤b}{A:Option Addr}(n c:Nat)(h:∀ a,A=some a→S a.block):VR (renA Tryz.prog S0 S hS) (.slice A n c) (.slice A n c):=by
 cases A with
 | none=>exact .snone n c
 | some a=>exact .slice n c ⟨⟨h a rfl,rfl⟩,rfl,rfl⟩
theorem args_arr{A A2:Option Addr}{n c n2 c2 m:Nat}{hS:∀ b,ArgS A A2 b→Tryz.prog.globals.size≤b} :
  ARR (renA Tryz.prog S0 (ArgS A A2) hS) (#[.slice A n c,.slice A2 n2 c2]++Array.replicate m undef) (#[.slice A n c,.slice A2 n2 c2]++Array.replicate m undef):=by
 refine ARR.append ?_ (ARR.replicate _ (.tuple rfl fun i v v' h=>by simp at h));exact ARR.push (xs:=#[_]) (xs':=#[_]) (ARR.one (slice_vr n c fun a e=>.inl ⟨a,e,rfl⟩)) (slice_vr n2 c2 fun a e=>.inr ⟨a,e,rfl⟩)
structure Gh(S:Nat→Prop)(hS:∀ b,S b→Tryz.prog.globals.size≤b)(W:World)(B:Nat→Prop)(ρ:Ren Tryz.prog)(wp w:World):Prop where
 rs:RS ρ wp w
 aft:Aft (renA Tryz.prog S0 S hS) (veil S W) W ρ wp w
 nb:∀ b b',ρ.rel b b'→¬B b'
 bl:∀ b,B b→b<w.heap.size
section
variable {S:Nat→Prop}{hS:∀ b,S b→Tryz.prog.globals.size≤b}{W:World}{B:Nat→Prop}{ρ:Ren Tryz.prog}{wp w:World}
theorem Gh.rho(h:Gh S hS W B ρ wp w):RhoOk ρ S0 M1:=(renA_ok M1).mono h.aft.le
theorem Gh.at(h:Gh S hS W B ρ wp w)(d:Nat):Gh S hS W B ρ wp (w.at d):=⟨h.rs.at d,h.aft.trans (Aft.at ρ wp w d),h.nb,h.bl⟩
theorem Gh.atRel(h:Gh S hS W B ρ wp w){w₁:World}(r:AtRel w w₁):Gh S hS W B ρ wp w₁:=by obtain⟨d,rfl⟩:=r;exact h.at d
theorem Gh.go(h:Gh S hS W B ρ wp w){ρ2:Ren Tryz.prog}{wp2 w2:World}(hs:RS ρ2 wp2 w2)(ha:Aft ρ wp w ρ2 wp2 w2):Gh S hS W B ρ2 wp2 w2:=by
 obtain⟨h1,h2⟩:=aft_B ha h.nb h.bl;exact⟨hs,h.aft.trans ha,h1,h2⟩
theorem Gh.begin(hrow:∀ b,S b→∃ c t f,W.heap[b]?=some (.cells c t f))(hlo:Tryz.prog.globals.size≤W.heap.size):Gh S hS W (fun _=>False) (renA Tryz.prog S0 S hS) (veil S W) W :=
 ⟨rs_veil hrow hlo,Aft.refl _ _ _,fun _ _ _ h=>h,fun _ h=>h.elim⟩
theorem Gh.left(h:Gh S hS W B ρ wp w){w':World}(L:Left0 w w'){N:Nat}(h1:w.heap.size≤N)(h2:N<w'.heap.size):Gh S hS W (fun b=>B b∨b=N) ρ wp w':=by
 have hl:∀ b b',ρ.rel b b'→b'<w.heap.size:=fun b b' hb=>h.rs.fullr hb;refine⟨rs_real h.rs (fun b b' hb=>L.old b' (hl b b' hb)) L.size,⟨h.aft.le,fun hb=>h.aft.new hb,h.aft.size,Nat.le_trans h.aft.sizer L.size,fun b' hb hn=>(L.old b' (Nat.lt_of_lt_of_le hb h.aft.sizer)).trans (h.aft.others b' hb hn),h.aft.sealG,fun b b' hs hr=>hs.elim,L.tape.trans h.aft.tape,L.os.trans h.aft.os,L.output.trans h.aft.output,h.aft.up.trans fun b c t f e=>⟨c,f,(L.old b (Array.getElem?_eq_some_iff.1 e).1).trans e,.inl rfl⟩,fun b b' i hr hb hx=>?_⟩,fun b b' hb=>?_,fun b hb=>?_⟩
 ·obtain⟨k1,k2⟩:=h.aft.keep b b' i hr hb hx;exact⟨k1,(khc7 (L.old b' (hl b b' (h.aft.le.rel hr)))).trans k2⟩
 ·rintro(hbb|rfl)
  ·exact h.nb b b' hb hbb
  ·have:=hl b _ hb;omega
 ·rcases hb with hb|rfl
  ·exact Nat.lt_of_lt_of_le (h.bl b hb) L.size
  ·exact h2
variable {PostF:Value→World→Prop}{q0:Nat}{b:Frame}{k:List Item}{cs:List Frame}{T T':Array Value}
theorem gh_code(hg:Gh S hS W B ρ wp w)(hb:Plainb b){c1:Code}(hc:okCode Tryz.prog S0 M1 c1=true){Q:Array Value→World→Prop}(hT:ARR ρ T T')
  (hlone:∀ u,c1.wp Tryz.prog (fun e a w'=>e=.normal∧a.defers=[]∧Q a.tmps w') ⟨T,[]⟩ (tp wp u))
  (hEnd:∀ (ρ2:Ren Tryz.prog) (T1 T1':Array Value) (wp2 w2:World) (u:Nat→Question→Nat),Gh S hS W B ρ2 wp2 w2→Q T1 (tp wp2 u)→ARR ρ2 T1 T1'→Fin Tryz.prog PostF B q0 (G (b.at ⟨T1',[]⟩ k) cs) w2) :
  Fin Tryz.prog PostF B q0 (G (b.at ⟨T',[]⟩ (.code c1::k)) cs) w:=by
 have:=kfx7 (PostF:=PostF) (q0:=q0) (cs:=cs) kgn7 (its:=[.code c1]) (k:=k) (wp:=wp) (ρ:=ρ) (Q:=fun a w'=>Q a.tmps w') hb (by
  intro it hit;obtain rfl:=List.mem_singleton.1 hit;exact hc) hg.rho (kfy7 (Q:=fun a w'=>Q a.tmps w') hlone) hT hg.rs hg.nb hg.bl (by
  rintro ρ2 T1 T1' wp2 w2 u hr le hQ ha hs haft;exact hEnd ρ2 T1 T1' wp2 w2 u (hg.go hs haft) hQ ha)
 exact this
theorem gh_seq(hg:Gh S hS W B ρ wp w)(hb:Plainb b){c1 c2:Code}(hc:okCode Tryz.prog S0 M1 c1=true){Q:Array Value→World→Prop}(hT:ARR ρ T T')
  (hlone:∀ u,c1.wp Tryz.prog (fun e a w'=>e=.normal∧a.defers=[]∧Q a.tmps w') ⟨T,[]⟩ (tp wp u))
  (hEnd:∀ (ρ2:Ren Tryz.prog) (T1 T1':Array Value) (wp2 w2:World) (u:Nat→Question→Nat),Gh S hS W B ρ2 wp2 w2→Q T1 (tp wp2 u)→ARR ρ2 T1 T1'→Fin Tryz.prog PostF B q0 (G (b.at ⟨T1',[]⟩ (.code c2::k)) cs) w2) :
  Fin Tryz.prog PostF B q0 (G (b.at ⟨T',[]⟩ (.code (.seq c1 c2)::k)) cs) w:=by
 refine ki7 rfl (fun w₁=>stepG_seq) fun w₁ r=>?_;exact gh_code (hg.atRel r) hb hc hT hlone hEnd
theorem gh_ops(hg:Gh S hS W B ρ wp w)(hb:Plainb b){ops:Array Oper}{rest:List Nat}(hc:rest.all (fun i=>match ops[i]? with|some o=>okOp Tryz.prog S0 M1 o.op|none=>true)=true){Q:Array Value→World→Prop}(hT:ARR ρ T T')
  (hlone:∀ u,wpOps Tryz.prog ops (fun e a w'=>e=.normal∧a.defers=[]∧Q a.tmps w') rest ⟨T,[]⟩ (tp wp u))
  (hEnd:∀ (ρ2:Ren Tryz.prog) (T1 T1':Array Value) (wp2 w2:World) (u:Nat→Question→Nat),Gh S hS W B ρ2 wp2 w2→Q T1 (tp wp2 u)→ARR ρ2 T1 T1'→Fin Tryz.prog PostF B q0 (G (b.at ⟨T1',[]⟩ k) cs) w2) :
  Fin Tryz.prog PostF B q0 (G (b.at ⟨T',[]⟩ (.inRegion ops rest::k)) cs) w:=by
 have:=kfx7 (PostF:=PostF) (q0:=q0) (cs:=cs) kgn7 (its:=[.inRegion ops rest]) (k:=k) (wp:=wp) (ρ:=ρ) (Q:=fun a w'=>Q a.tmps w') hb (by
  intro it hit;obtain rfl:=List.mem_singleton.1 hit;intro i hi o ho;have h:=(List.all_eq_true.1 hc) i hi;rw[ho] at h;exact h) hg.rho (piece_ops (Q:=fun a w'=>Q a.tmps w') hlone) hT hg.rs hg.nb hg.bl (by
  rintro ρ2 T1 T1' wp2 w2 u hr le hQ ha hs haft;exact hEnd ρ2 T1 T1' wp2 w2 u (hg.go hs haft) hQ ha)
 exact this
theorem gh_ctl(hg:Gh S hS W B ρ wp w){g g':Goroutine}(hr:g.status=.running)(hs:∀ w₁,stepG Tryz.prog true g w₁=.go g' w₁ #[])(h:∀ w₁,Gh S hS W B ρ wp w₁→Fin Tryz.prog PostF B q0 g' w₁):Fin Tryz.prog PostF B q0 g w :=
 ki7 hr hs fun w₁ r=>h w₁ (hg.atRel r)
theorem gh_packs(hg:Gh S hS W B ρ wp w)(hk:b.kind≠.early){ops:Array Oper}{i:Nat}{rest:List Nat}{o:Oper}{d:Nat}(ho:ops[i]?=some o)(hw:Region.wanted o (yielded ops T')=true)(hd:o.dst=some d)
  (hop:o.op=.call { callee:=.value (.func 10),args:=#[],argTypes:=#[] }) (hq:q0+1<2147483648) (hT:ARR ρ T T')
  (hEnd:∀ (w':World) (N:Nat),Gh S hS W (fun b=>B b∨b=N) ρ wp w'→ARR ρ (T.setIfInBounds d (.bool true)) (T'.setIfInBounds d (.bool true))→Fin Tryz.prog PostF (fun b=>B b∨b=N) (q0+1) (G (b.at ⟨T'.setIfInBounds d (.bool true),[]⟩ (.inRegion ops rest::k)) cs) w') :
  Fin Tryz.prog PostF B q0 (G (b.at ⟨T',[]⟩ (.inRegion ops (i::rest)::k)) cs) w:=by
 refine fin_enter (fn:=Tryz.f10) (c:=K10 0) (vs:=#[]) ho hw hk hop hf10 (by kernel_rfl) body10 (by simp) fun w₁ r=>?_;have hg1:=hg.atRel r;refine packs_fin hg1.bl hg1.rs.lowr hq fun w' N h1 h2 L=>?_;have ef:=Frame.finish_at b ⟨T',[]⟩ ops i rest k (.bool true);rw[ho] at ef;simp only[Option.bind_some,hd,Act.put] at ef;rw[ef];exact hEnd w' N (hg1.left L h1 h2) (hT.set d (.bool true))
structure Same(W w:World):Prop where
 size:W.heap.size≤w.heap.size
 old:∀ b,b<W.heap.size→w.heap[b]?=W.heap[b]?
 os:w.os=W.os
 tape:w.tape=W.tape
 output:w.output=W.output
end
end Cw
end
section
open Go.RowKit
namespace PB
theorem drun_at_erun(X:List Nat):∀ (cs:List Cho) (lo hi V:Int) (t:Nat),cs.map Cho.n=dbits X (cs.map Cho.p) ⟨lo,hi,V,t⟩→(drun X (cs.map Cho.p) ⟨lo,hi,V,t⟩).at_=t+(erun cs lo hi).2.2.length:=by
 intro cs
 induction cs with
 | nil=>intro lo hi V t _;rfl
 | cons c r ih =>
  intro lo hi V t h;simp only[List.map_cons,dbits] at h;injection h with h1 h2;have e:dstep X ⟨lo,hi,V,t⟩ c.p=⟨(stp lo hi c.n c.p).1,(stp lo hi c.n c.p).2.1,dv X (stp lo hi c.n c.p).2.2 V t,t+(stp lo hi c.n c.p).2.2.length⟩:=by
   unfold dstep dks;rw[←h1]
  rw[e] at h2;have:=ih _ _ _ _ h2;show(drun X (r.map Cho.p) (dstep X ⟨lo,hi,V,t⟩ c.p)).at_=_;rw[e,this,erun,List.length_append];omega
theorem gat_size{l:List Nat}{f v e:Nat}(h01:Is01 l)(h:GAt l f v e 0):e=f+gsz v:=by
 have hp:=gat_pos h01 h;have hv:=gat_val h01 h;obtain⟨b1,b2,b3⟩:=kbc7 v hp (by omega);rcases h with⟨_,_,_,h3⟩|⟨_,_,_,_,h3⟩|⟨h1,h2,hvv,he,_⟩
 ·cases h3
 ·cases h3
 ·have hz:=zr_stop l f (by omega);have h3:=h01 (f+zr l f);have hd:(l.drop (f+zr l f)).take (zr l f+1)=l.getD (f+zr l f) 0::(l.drop (f+zr l f+1)).take (zr l f):=by
   rw[List.drop_eq_getElem_cons (by omega),List.take_succ_cons,kaf7 (by omega)]
  have hl:((l.drop (f+zr l f+1)).take (zr l f)).length=zr l f:=by rw[List.length_take,List.length_drop];omega
  have e1:l.getD (f+zr l f) 0=1:=by omega
  have hn:=kcy7 ((h01.drop (f+zr l f+1)).take (zr l f));rw[hd,e1,keq7,hl] at hvv;rw[hl] at hn;have k1:2 ^ zr l f≤v:=by omega
  have k2:v<2 ^ (zr l f+1):=by rw[Nat.pow_succ];omega
  have q1:zr l f<Lib.bitLen v:=(Nat.pow_lt_pow_iff_right (by decide)).1 (Nat.lt_of_le_of_lt k1 b3);have q2:Lib.bitLen v-1<zr l f+1:=(Nat.pow_lt_pow_iff_right (by decide)).1 (Nat.lt_of_le_of_lt b2 k2);unfold gsz;omega
theorem NOk.cost{l:List Nat}(h01:Is01 l){p mis:Nat}{t:Tok}{e:Nat}(h:NOk l p mis t e):e=p+tcost t:=by
 rcases h with⟨h1,h2,h3,rfl,rfl⟩|⟨h1,h2,d,e1,n,hg,hd,hg2,hn,rfl⟩
 ·rfl
 ·have a:=gat_size h01 hg;have b:=gat_size h01 hg2;have c:=gat_pos h01 hg;have e:tcost ⟨(d:Nat),((n+2:Nat):Int),0⟩=1+gsz d+gsz n:=by
   unfold tcost;dsimp only;rw[if_neg (by omega)];unfold mcost;have q:(((n+2:Nat):Int)).toNat-2=n:=by omega
   rw[q];simp
  rw[e];omega
theorem Dec.cost{l:List Nat}(h01:Is01 l){p cnt c i:Nat}{ts:List Tok}{en:Nat}(h:Dec l p cnt c i ts en):c=0→en=p+costs ts:=by
 induction h with
 | nil p=>intro _;rfl
 | bad p cnt c h1 h2 =>
  intro hc;subst hc;rcases h2 with⟨_,h⟩|⟨_,_,_,h⟩|⟨_,_,⟨cd,_,h,rfl⟩|⟨_,_,_,_,h⟩|⟨_,_,cd,_,_,_,h,rfl⟩|⟨_,_,_,_,_,_,_,_,h⟩⟩
  ·cases h
  ·cases h
  ·exact absurd rfl h
  ·cases h
  ·exact absurd rfl h
  ·cases h
 | cons p cnt t e c i ts en h1 h2 h3 ih =>
  intro hc;have a:=ih hc;have b:=h2.cost h01;have:costs (t::ts)=tcost t+costs ts:=by simp[costs]
  omega
theorem expf_sum(dl:Nat):∀ (ts:List Tok) (k:Nat) (w:List Nat),(expf dl ts k w).1=0→(expf dl ts k w).2.2.length=w.length+(ts.map tlen).sum:=by
 intro ts
 induction ts with
 | nil=>intro k w _;simp[expf]
 | cons t r ih =>
  intro k w h;unfold expf at h ⊢
  split at h
  ·cases h
  ·rename_i c1
   rw[if_neg c1]
   split at h
   ·cases h
   ·rename_i c2
    rw[if_neg c2,ih _ _ h,kil7];simp only[List.map_cons,List.sum_cons];omega
theorem munp_ok{p dict D:List Nat}{n:Nat}(hn:n≤1024)(h:MUnp p dict n D true):D.length=n∧∃ us,(∀ t∈us,t.ok∧t.lit<256)∧expf dict.length us 0 dict=(0,0,dict++D)∧(costs us+7) / 8=p.length:=by
 obtain⟨cd,ix,ts,en,hD,hh⟩:=h;have h01:=kae7 p;rcases hh with⟨_,_,h⟩|⟨⟨rfl,h7,h0⟩,hDD,hok⟩
 ·cases h
 ·have hc:(expf dict.length ts 0 dict).1=0:=by simpa using hok.symm
  rw[if_pos hc] at hDD;obtain⟨f1,f2,f3,f4⟩:=Dec.facts h01 hD hn (Nat.zero_le _);have hen:=Dec.cost h01 hD rfl;rw[Nat.zero_add] at hen;obtain⟨q,hq⟩:=expf_prefix dict.length ts 0 dict;have hq':q=D:=by rw[hDD,←hq];simp
  subst hq';have hlen:=expf_sum dict.length ts 0 dict hc;rw[←hq,List.length_append,f4 rfl] at hlen;refine⟨by omega,ts,f1,?_,by rw[←hen];exact h7⟩;have hi:=expf_idx dict.length ts 0 dict hc;rw[hq];exact Prod.ext hc (Prod.ext hi rfl)
theorem uunp_ok{p D:List Nat}{n:Nat}(h:UUnp p n D true):D.length=n∧(∀ k,D.getD k 0<256)∧(pack (acode (mch (allbits D)))).length=p.length:=by
 obtain⟨l,h1,h2,h3,rfl,h5⟩:=h;have hcho:AllCho (mch l):=mch_all h3;have e:allbits (pack l)=l:=by
  have hz:8*((l.length+7) / 8)-l.length=0:=by omega
  rw[allbits_pack_eq h3,hz];simp
 refine⟨by rw[kd7];omega,pack_lt h3,?_⟩;rw[e,kd7,kir7];have hp:=of_decide_eq_true h5.symm;have hat:(dst (ucode p n) l).at_=16+(erun (mch l) 0 65535).2.2.length:=by
  unfold dst dinit;exact drun_at_erun _ _ _ _ _ _ (by rw[mch_n l h3];exact h1)
 rw[hp,hat];omega
theorem unp_ok{code dict D:List Nat}(hd:∀ k,code.getD k 0<256)(hd2:∀ k,dict.getD k 0<256)(hl:code.length≤1025)(h2:dict.length≤512)(h:UNP code dict D true) :
  D.length≤1024∧(∀ k,D.getD k 0<256)∧∀ ts,PTok D dict ts→1≤(pk2 D ts).length∧(pk2 D ts).length≤code.length:=by
 rcases h with⟨_,_,h⟩|⟨x,t,_,_,_,h⟩|⟨t,rfl,rfl,_⟩|⟨x,t,_,_,_,_,_,h⟩|⟨x,a,b,p,_,_,_,_,_,h⟩|⟨a,b,p,rfl,hN,h⟩|⟨a,b,p,rfl,hN,h⟩
 ·cases h
 ·cases h
 ·refine⟨by simpa using hl,fun k=>by have:=hd (k+1);simpa using this,fun ts hT=>?_⟩;obtain⟨q1,q2,_⟩:=kjb7 D ts;exact⟨q1,q2⟩
 ·cases h
 ·cases h
 ·obtain⟨e1,e2,e3⟩:=uunp_ok h;refine⟨by omega,e2,fun ts hT=>?_⟩;obtain⟨q1,_,q3,_⟩:=kjb7 D ts;refine⟨q1,Nat.le_trans q3 ?_⟩;unfold fr1;rw[List.length_append,e3];simp only[List.length_cons,List.length_nil];omega
 ·obtain⟨e1,us,f1,f2,f3⟩:=munp_ok hN h;have hbytes:∀ k,D.getD k 0<256:=fun k=>by
   have:=expf_bytes dict.length us 0 dict (fun t ht=>(f1 t ht).2) hd2 (dict.length+k);rw[f2] at this;dsimp only at this;rw[kr7 (by omega),Nat.add_sub_cancel_left] at this;exact this
  refine⟨by omega,hbytes,fun ts hT=>?_⟩;obtain⟨q1,_,_,q4⟩:=kjb7 D ts;refine⟨q1,Nat.le_trans q4 ?_⟩;have hc:=hT.least (by omega) h2 (fun t ht=>(f1 t ht).1) f2;obtain⟨o1,_,_⟩:=hT.ok (by omega) h2;unfold fr2;rw[List.length_append,kd7,kgv7 _ (AllTok.of _ o1)];simp only[List.length_cons,List.length_nil];omega
end PB
end
section
namespace PB
open Go Go.RowKit
theorem Rd.le_max{w:World}{A:Option Addr}{n c:Nat}{xs:List Value}(h:Rd w A n c xs):n≤maxLen:=by
 obtain⟨_,h2,h3,_⟩:=h;exact Nat.le_trans h2 h3
end PB
end
section
open Go.RowKit
attribute [local go_sem ↓] Go.wp_at_zero Go.wp_at_succ
namespace PB
def szf(n most n2:Nat):Int×Int:=if most<n then(3,-1) else if 512<n2 then(3,-2) else(0,0)
theorem sizefault_any{A A2:Option Addr}{n c n2 c2 most:Nat}(hm:most≤2000)(hn:n≤maxLen)(hn2:n2≤maxLen)(w:World)(F:Int×Int)(hF:F=szf n most n2) :
  Calls Tryz.prog 9 #[.slice A n c,.int .i64 (most:Nat),.slice A2 n2 c2] w fun e w'=>e=.returned (.agg #[.int .i64 F.1,.int .i64 F.2])∧Below w.heap.size w w':=by
 unfold maxLen at hn hn2;have F0:=Two.new w 24 (.int .i64 0) (.int .i64 0);have y0:=(Below.refl w.heap.size w).alloc (Nat.le_refl _) (.cells #[.int .i64 0,.int .i64 0] 24);by_cases h1:most<n
 ·have h1z:(most:Int)<(n:Int):=by omega
  have hF2:F=(3,-1):=by rw[hF,szf,if_pos h1]
  subst hF2;clear hF
  go_enter Tryz.func9,Tryz.ntmps9
  go_wp2_with fail
  refine(kan7 _ _ _).mono ?_;rintro e w1 ⟨rfl,y1⟩;have F1:=F0.on y1;have Y1:=y0.trans (y1.mono y0.size);obtain⟨f0,f1,f2,f3,f4⟩:=F1.facts;have F2:=(F1.set0 (.int .i64 3)).set1 (.int .i64 (-1));have r0:=F2.c0;have r1:=F2.c1;clear y1 F0
  go_wp2
  exact bodyPost_ret (v:=.agg #[.int .i64 3,.int .i64 (-1)]) (by simp[results,Tryz.results9,go_sem,r0,r1]) rfl ⟨rfl,(Y1.setCell (p:=⟨w.heap.size,0,none⟩) (Nat.le_refl _) _).setCell (p:=⟨w.heap.size,1,none⟩) (Nat.le_refl _) _⟩
 ·have h1z:¬(most:Int)<(n:Int):=by omega
  by_cases h2:512<n2
  ·have h2z:(512:Int)<(n2:Int):=by omega
   have hF2:F=(3,-2):=by rw[hF,szf,if_neg h1,if_pos h2]
   subst hF2;clear hF
   go_enter Tryz.func9,Tryz.ntmps9
   go_wp2_with fail
   refine(kan7 _ _ _).mono ?_;rintro e w1 ⟨rfl,y1⟩;have F1:=F0.on y1;have Y1:=y0.trans (y1.mono y0.size);obtain⟨f0,f1,f2,f3,f4⟩:=F1.facts;have F2:=(F1.set0 (.int .i64 3)).set1 (.int .i64 (-2));have r0:=F2.c0;have r1:=F2.c1;clear y1 F0
   go_wp2
   exact bodyPost_ret (v:=.agg #[.int .i64 3,.int .i64 (-2)]) (by simp[results,Tryz.results9,go_sem,r0,r1]) rfl ⟨rfl,(Y1.setCell (p:=⟨w.heap.size,0,none⟩) (Nat.le_refl _) _).setCell (p:=⟨w.heap.size,1,none⟩) (Nat.le_refl _) _⟩
  ·have h2z:¬(512:Int)<(n2:Int):=by omega
   have hF2:F=(0,0):=by rw[hF,szf,if_neg h1,if_neg h2]
   subst hF2;clear hF
   go_enter Tryz.func9,Tryz.ntmps9
   have r0:=F0.c0;have r1:=F0.c1
   go_wp2
   exact bodyPost_ret (v:=.agg #[.int .i64 0,.int .i64 0]) (by simp[results,Tryz.results9,go_sem,r0,r1]) rfl ⟨rfl,y0⟩
theorem kgh7(l:List Nat)(x:Nat):ncells (l++[x])=ncells l++[.int .i64 (x:Nat)]:=by rw[kgu7];rfl
theorem steps_any{lo hi p:Int}{b:Nat}(h:Wid lo hi)(h1:1≤p)(h2:p≤4095)(hb:b≤1)(LO HI:Int)(R:List Nat)(hLO:LO=(stp lo hi b p).1)(hHI:HI=(stp lo hi b p).2.1)(hR:R=(stp lo hi b p).2.2)(bi:Int)(hbi:bi=(b:Nat))(w:World) :
  Calls Tryz.prog 48 #[.int .i64 lo,.int .i64 hi,.int .i64 bi,.int .i64 p] w fun e w'=>∃ A n c,e=.returned (.tuple #[.int .i64 LO,.int .i64 HI,.slice A n c])∧R.length=n∧w'.ownsRow w.heap.size 3 1 (.slice A n c) n (ncells R)∧Below w.heap.size w w':=by
 obtain⟨i0,hi0,hz0,hz1,hz2⟩:=info_parts kdq7;have hr0:=part_rng b h h1 h2;obtain⟨st1,st2,st3,st4⟩:=kah7 b h h1 h2;obtain⟨l2,hl2⟩:∃ l2,l2=(partOf lo hi b p).1:=⟨_,rfl⟩
 obtain⟨u2,hu2⟩:∃ u2,u2=(partOf lo hi b p).2:=⟨_,rfl⟩
 have hD0:dbl 20 l2 u2=(LO,HI,R):=by rw[hl2,hu2,hLO,hHI,hR];rfl
 have HD0:=Lib.hid hD0;have HR0:=Lib.hid (show Rng l2 u2 by rw[hl2,hu2];exact hr0);have HF0:=Lib.hid (show 65536<(u2-l2+1)*(2:Int) ^ 20 by
  obtain⟨r1,r2,r3⟩:=hr0;have e:(2:Int) ^ 20=1048576:=by decide
  rw[e,hl2,hu2];omega)
 obtain⟨sp,hsp⟩:∃ sp,sp=splitOf lo hi p:=⟨_,rfl⟩
 have HSP:=Lib.hid (fun(W:World)=>split_any h h1 h2 sp hsp W);have hs1:=split_in h h1 h2;rw[←hsp] at hs1;obtain⟨hs1a,hs1b⟩:=hs1;obtain⟨hw1,hw2,hw3,hw4,hw5⟩:=h;have hP:if b=1 then l2=lo∧u2=sp else l2=sp+1∧u2=hi:=by
  rw[hl2,hu2];unfold partOf;rw[←hsp];split<;>exact⟨rfl,rfl⟩
 clear hw5 hl2 hu2 hD0 hR hLO hHI st1 st2 st3 st4 hr0 hsp h1 h2;rcases(by omega:b=1∨b=0) with rfl|rfl
 ·obtain⟨rfl,rfl⟩:=hP;subst hbi;have k1:(((1:Nat):Int) == 1)=true:=rfl
  go_enter Tryz.func48,Tryz.ntmps48
  go_wp2_with fail
  refine(HSP.out _).mono ?_;rintro e w9 ⟨rfl,rfl⟩
  go_wp2_with fail
  go_loopw [0,1,11,12] (fun lv uv s _ wr=>∃ (l u:Int) (f m:Nat) (rest out:List Nat) (A':Option Addr) (c':Nat),Rng l u∧dbl f l u=(LO,HI,rest)∧65536<(u-l+1)*(2:Int) ^ f∧out++rest=R∧m=out.length∧m+f=20 ∧
    lv=.int .i64 l∧uv=.int .i64 u∧s=.slice A' m c'∧Below w.heap.size w wr∧wr.ownsRow w.heap.size 3 1 (.slice A' m c') m (ncells out)) (fun lv uv _ _ _=>(65536-(intOf uv-intOf lv)).toNat)
  case atStart=>exact⟨_,_,20,0,R,[],none,0,HR0.out,HD0.out,HF0.out,rfl,rfl,rfl,rfl,rfl,rfl,Below.refl _ _,World.ownsRow_nil _ _ _ _⟩
  case round =>
   obtain⟨l,u,f,m,rest,out,A',c',hrg,hd,hf,hs,hm,hmf,rfl,rfl,rfl,yr,ho⟩:=hrel;have HD:=Lib.hid hd;have HF:=Lib.hid hf;have HS1:=Lib.hid hs;have HRG:=Lib.hid hrg;have HO:=Lib.hid ho;have HM:=Lib.hid hm;have HMF:=Lib.hid hmf;have hys:=yr.size;obtain⟨rg1,rg2,rg3⟩:=hrg;clear hd hf hs ho hm hmf;rcases kdy7 HRG.out with⟨hn,hW⟩|⟨k,hk,hk2,hR'⟩
   ·have HTW:=Lib.hid (fun(W:World)=>khg7 (lo:=l) (hi:=u) (-1) (by rw[hn]) W);have e1:=HD.out;rw[kes7 hn] at e1;injection e1 with e1 e2;injection e2 with e2 e3;subst e1 e2 e3;have HB:=Lib.hid (show out=R by have:=HS1.out;simpa using this);clear hn hW
    go_wp2_with fail
    refine(HTW.out _).mono ?_;rintro e w9 ⟨rfl,rfl⟩
    go_wp2
    go_ret3
    exact⟨A',m,c',rfl,by rw[←HB.out];exact HM.out.symm,by rw[←HB.out];exact HO.out,yr⟩
   ·obtain⟨g,rfl⟩:=fuel_pos HRG.out HF.out;have hd1:=HD.out;rw[ket7 hk] at hd1;injection hd1 with e1 e2;injection e2 with e2 e3;obtain⟨l',hl'⟩:∃ l',l'=2*(l-16384*(k:Int)):=⟨_,rfl⟩
    obtain⟨u',hu'⟩:∃ u',u'=2*(u-16384*(k:Int))+1:=⟨_,rfl⟩
    rw[←hl',←hu'] at e1 e2 e3 hR';obtain⟨rest',hrest⟩:∃ r,r=(dbl g l' u').2.2:=⟨_,rfl⟩
    have HD2:=Lib.hid (show dbl g l' u'=(LO,HI,rest') by rw[←e1,←e2,hrest]);rw[←hrest] at e3;subst e3;have HF2:=Lib.hid (show 65536<(u'-l'+1)*(2:Int) ^ g by have:=fuel_next (k:=k) HF.out;rwa [←hl',←hu'] at this);have HL2:=Lib.hid hR';have HTW:=Lib.hid (fun(W:World)=>khg7 (lo:=l) (hi:=u) (k:Nat) (by rw[hk]) W);have hmm:u'-l'=2*(u-l)+1:=by rw[hl',hu'];omega
    have hm20:m<20:=by have:=HMF.out;omega
    have HBC:=Lib.hid (kgh7 out k);obtain⟨n1,n2,n3⟩:=hR';have HLL:=Lib.hid hl';have HUU:=Lib.hid hu';have kge:decide ((0:Int)≤(k:Int))=true:=by simp
    have klt:decide ((m:Int)<20)=true:=by simp;omega
    have q1:IntKind.i64.wrap (16384*(k:Int))=16384*(k:Int):=IntWalk.i64_in _ (by omega);have q2:IntKind.i64.wrap (l-16384*(k:Int))=l-16384*(k:Int):=IntWalk.i64_in _ (by omega);have q3:IntKind.i64.wrap (2*(l-16384*(k:Int)))=2*(l-16384*(k:Int)):=IntWalk.i64_in _ (by omega);clear hk e1 e2 hrest
    go_wp2_with fail
    refine(HTW.out _).mono ?_;rintro e w9 ⟨rfl,rfl⟩
    go_wp2_with fail
    refine(HTW.out _).mono ?_;rintro e w9 ⟨rfl,rfl⟩
    go_wp2_with (at_builtin;refine kat7 _ rfl _ _ _ rfl w.heap.size 3 i0 _ 8 Tryz.underlying41 hi0 hz0 hz1 hz2 rfl _ _ _ rfl HO.out (.int .i64 (k:Nat)) rfl rfl ?g1 ?g2 hys ?_)
    case g1=>unfold maxLen;omega
    case g2=>omega
    intro A5 c5 w5 ho5 hg5;have Y5:=kx7 yr HO.out hg5 (Nat.le_refl _) hys;rw[←HBC.out] at ho5;have HO5:=Lib.hid ho5;clear ho5 hg5
    go_wp2_with fail
    go_roundw
    case rel=>exact⟨l',u',g,m+1,rest',out++[k],A5,c5,HL2.out,HD2.out,HF2.out,by have:=HS1.out;rw[List.append_assoc];exact this,by rw[List.length_append,←HM.out];rfl,by have:=HMF.out;omega,by rw[HLL.out],by rw[HUU.out],rfl,Y5,HO5.out⟩
    case measure=>simp[intOf]<;>omega
 ·obtain⟨rfl,rfl⟩:=hP;subst hbi;have k1:(((0:Nat):Int) == 1)=false:=rfl
  go_enter Tryz.func48,Tryz.ntmps48
  go_wp2_with fail
  refine(HSP.out _).mono ?_;rintro e w9 ⟨rfl,rfl⟩
  go_wp2_with fail
  go_loopw [0,1,11,12] (fun lv uv s _ wr=>∃ (l u:Int) (f m:Nat) (rest out:List Nat) (A':Option Addr) (c':Nat),Rng l u∧dbl f l u=(LO,HI,rest)∧65536<(u-l+1)*(2:Int) ^ f∧out++rest=R∧m=out.length∧m+f=20 ∧
    lv=.int .i64 l∧uv=.int .i64 u∧s=.slice A' m c'∧Below w.heap.size w wr∧wr.ownsRow w.heap.size 3 1 (.slice A' m c') m (ncells out)) (fun lv uv _ _ _=>(65536-(intOf uv-intOf lv)).toNat)
  case atStart=>exact⟨_,_,20,0,R,[],none,0,HR0.out,HD0.out,HF0.out,rfl,rfl,rfl,rfl,rfl,rfl,Below.refl _ _,World.ownsRow_nil _ _ _ _⟩
  case round =>
   obtain⟨l,u,f,m,rest,out,A',c',hrg,hd,hf,hs,hm,hmf,rfl,rfl,rfl,yr,ho⟩:=hrel;have HD:=Lib.hid hd;have HF:=Lib.hid hf;have HS1:=Lib.hid hs;have HRG:=Lib.hid hrg;have HO:=Lib.hid ho;have HM:=Lib.hid hm;have HMF:=Lib.hid hmf;have hys:=yr.size;obtain⟨rg1,rg2,rg3⟩:=hrg;clear hd hf hs ho hm hmf;rcases kdy7 HRG.out with⟨hn,hW⟩|⟨k,hk,hk2,hR'⟩
   ·have HTW:=Lib.hid (fun(W:World)=>khg7 (lo:=l) (hi:=u) (-1) (by rw[hn]) W);have e1:=HD.out;rw[kes7 hn] at e1;injection e1 with e1 e2;injection e2 with e2 e3;subst e1 e2 e3;have HB:=Lib.hid (show out=R by have:=HS1.out;simpa using this);clear hn hW
    go_wp2_with fail
    refine(HTW.out _).mono ?_;rintro e w9 ⟨rfl,rfl⟩
    go_wp2
    go_ret3
    exact⟨A',m,c',rfl,by rw[←HB.out];exact HM.out.symm,by rw[←HB.out];exact HO.out,yr⟩
   ·obtain⟨g,rfl⟩:=fuel_pos HRG.out HF.out;have hd1:=HD.out;rw[ket7 hk] at hd1;injection hd1 with e1 e2;injection e2 with e2 e3;obtain⟨l',hl'⟩:∃ l',l'=2*(l-16384*(k:Int)):=⟨_,rfl⟩
    obtain⟨u',hu'⟩:∃ u',u'=2*(u-16384*(k:Int))+1:=⟨_,rfl⟩
    rw[←hl',←hu'] at e1 e2 e3 hR';obtain⟨rest',hrest⟩:∃ r,r=(dbl g l' u').2.2:=⟨_,rfl⟩
    have HD2:=Lib.hid (show dbl g l' u'=(LO,HI,rest') by rw[←e1,←e2,hrest]);rw[←hrest] at e3;subst e3;have HF2:=Lib.hid (show 65536<(u'-l'+1)*(2:Int) ^ g by have:=fuel_next (k:=k) HF.out;rwa [←hl',←hu'] at this);have HL2:=Lib.hid hR';have HTW:=Lib.hid (fun(W:World)=>khg7 (lo:=l) (hi:=u) (k:Nat) (by rw[hk]) W);have hmm:u'-l'=2*(u-l)+1:=by rw[hl',hu'];omega
    have hm20:m<20:=by have:=HMF.out;omega
    have HBC:=Lib.hid (kgh7 out k);obtain⟨n1,n2,n3⟩:=hR';have HLL:=Lib.hid hl';have HUU:=Lib.hid hu';have kge:decide ((0:Int)≤(k:Int))=true:=by simp
    have klt:decide ((m:Int)<20)=true:=by simp;omega
    have q1:IntKind.i64.wrap (16384*(k:Int))=16384*(k:Int):=IntWalk.i64_in _ (by omega);have q2:IntKind.i64.wrap (l-16384*(k:Int))=l-16384*(k:Int):=IntWalk.i64_in _ (by omega);have q3:IntKind.i64.wrap (2*(l-16384*(k:Int)))=2*(l-16384*(k:Int)):=IntWalk.i64_in _ (by omega);clear hk e1 e2 hrest
    go_wp2_with fail
    refine(HTW.out _).mono ?_;rintro e w9 ⟨rfl,rfl⟩
    go_wp2_with fail
    refine(HTW.out _).mono ?_;rintro e w9 ⟨rfl,rfl⟩
    go_wp2_with (at_builtin;refine kat7 _ rfl _ _ _ rfl w.heap.size 3 i0 _ 8 Tryz.underlying41 hi0 hz0 hz1 hz2 rfl _ _ _ rfl HO.out (.int .i64 (k:Nat)) rfl rfl ?g1 ?g2 hys ?_)
    case g1=>unfold maxLen;omega
    case g2=>omega
    intro A5 c5 w5 ho5 hg5;have Y5:=kx7 yr HO.out hg5 (Nat.le_refl _) hys;rw[←HBC.out] at ho5;have HO5:=Lib.hid ho5;clear ho5 hg5
    go_wp2_with fail
    go_roundw
    case rel=>exact⟨l',u',g,m+1,rest',out++[k],A5,c5,HL2.out,HD2.out,HF2.out,by have:=HS1.out;rw[List.append_assoc];exact this,by rw[List.length_append,←HM.out];rfl,by have:=HMF.out;omega,by rw[HLL.out],by rw[HUU.out],rfl,Y5,HO5.out⟩
    case measure=>simp[intOf]<;>omega
def wpart(l:List Nat)(e j:Nat):Nat:=num ((List.range j).map (wbit l e))
theorem wpart_succ(l:List Nat)(e j:Nat):wpart l e (j+1)=2*wpart l e j+wbit l e j:=by
 unfold wpart;rw[List.range_succ,List.map_append,List.map_singleton,kdm7]
theorem wpart_lt{l:List Nat}(h01:Is01 l)(e j:Nat):wpart l e j<2 ^ j:=by
 have:Is01 ((List.range j).map (wbit l e)):=Is01.of_mem fun x hx=>by
  obtain⟨i,_,rfl⟩:=List.mem_map.1 hx;exact wbit_lt h01 _ _
 have h:=kcy7 this;rw[List.length_map,List.length_range] at h;exact h
theorem window_any{A:Option Addr}{n c:Nat}{l:List Nat}{w:World}(h:Rd w A n c (ncells l))(h01:Is01 l)(hl:l.length≤1000000)(e:Nat)(he:e≤1000000)(ei:Int)(hei:ei=(e:Nat)) :
  Calls Tryz.prog 46 #[.slice A n c,.int .i64 ei] w fun r w'=>r=.returned (.int .i64 (wnd l e:Nat))∧w=w':=by
 subst hei;have hn:=h.len;rw[ko7] at hn;have hcap:=Reads.cap h;have hcm:=Reads.capMax h;unfold maxLen at hcm;obtain rfl:=hn;have HWL:=Lib.hid (fun j=>wpart_lt h01 e j);have HWS:=Lib.hid (fun j=>wpart_succ l e j);have H01:=Lib.hid h01;clear h01
 go_enter Tryz.func46,Tryz.ntmps46
 go_wp2
 go_loop [5,6] (fun t i=>∃ j:Nat,j≤24∧i=.int .i64 ((e:Int)-24+(j:Int))∧t=.int .i64 (wpart l e j:Nat)) (fun _ i=>(e-intOf i).toNat)
 case atStart=>exact⟨0,by omega,by simp,rfl⟩
 case round =>
  obtain⟨j,hj,rfl,rfl⟩:=hrel;obtain⟨v,hv⟩:∃ v,v=wpart l e j:=⟨_,rfl⟩
  have hvb:v<16777216:=by
   have:=HWL.out j;rw[←hv] at this;have:2 ^ j≤2 ^ 24:=Nat.pow_le_pow_right (by decide) (by omega);omega
  have HV:=Lib.hid hv;rw[←hv];clear hv;by_cases hlt:j<24
  ·have k0:decide ((e:Int)-24+(j:Int)<(e:Int))=true:=by simp;omega
   obtain⟨x,hx⟩:∃ x,x=wbit l e j:=⟨_,rfl⟩
   have hx1:x<2:=by rw[hx];exact wbit_lt H01.out _ _
   have HS:=Lib.hid (show wpart l e (j+1)=2*v+x by rw[HWS.out,←HV.out,←hx]);obtain⟨ii,hii⟩:∃ ii:Int,ii=(e:Int)-24+(j:Int):=⟨_,rfl⟩
   have hib:-24≤ii∧ii≤1000000:=by omega
   obtain⟨hib1,hib2⟩:=hib;rw[←hii] at k0;rw[←hii];have HII:=Lib.hid hii;have hlt2:ii<(e:Int):=by omega
   by_cases h0:0≤ii
   ·have k1:decide ((0:Int)≤ii)=true:=by simpa using h0
    obtain⟨i,hi⟩:∃ i:Nat,ii=(i:Nat):=⟨ii.toNat,by omega⟩
    subst hi;have hxe:x=l.getD i 0:=by rw[hx];unfold wbit;rw[if_neg (by omega)];congr 1;omega
    by_cases h1:i<l.length
    ·have k2:decide ((i:Int)<(l.length:Int))=true:=by simp;omega
     have k3:decide (i<l.length)=true:=by simpa using h1
     obtain⟨b,off,rfl,hb,hc⟩:=h.2.2.2 (by omega);have hcell:=hc i _ (kv7 l i h1);rw[←hxe] at hcell;clear hc hx hii hxe
     go_wp2
     go_round
     case rel=>exact⟨j+1,by omega,congrArg (Value.int .i64) (by have:=HII.out;omega),congrArg (Value.int .i64) (by rw[HS.out];omega)⟩
     case measure=>simp[intOf]<;>omega
    ·have k2:decide ((i:Int)<(l.length:Int))=false:=by simp;omega
     have k3:decide (i<l.length)=false:=by simpa using h1
     have hx0:x=0:=by rw[hxe,kaa7 (by omega)]
     have HX0:=Lib.hid hx0;clear hx hii hxe hx0
     go_wp2
     go_round
     case rel=>exact⟨j+1,by omega,congrArg (Value.int .i64) (by have:=HII.out;omega),congrArg (Value.int .i64) (by rw[HS.out,HX0.out];omega)⟩
     case measure=>simp[intOf]<;>omega
   ·have k1:decide ((0:Int)≤ii)=false:=by simpa using h0
    have hx0:x=0:=by rw[hx];unfold wbit;rw[if_pos (by omega)]
    have HX0:=Lib.hid hx0;clear hx hii hx0
    go_wp2
    go_round
    case rel=>exact⟨j+1,by omega,congrArg (Value.int .i64) (by have:=HII.out;omega),congrArg (Value.int .i64) (by rw[HS.out,HX0.out];omega)⟩
    case measure=>simp[intOf]<;>omega
  ·obtain rfl:j=24:=by omega
   have k0:decide ((e:Int)-24+((24:Nat):Int)<(e:Int))=false:=by simp
   have HE:=Lib.hid (show wnd l e=v by rw[HV.out];rfl)
   go_wp2
   go_ret
   exact⟨by rw[HE.out];rfl,rfl⟩
theorem Rd.elem{w:World}{b off n c:Nat}{xs:List Value}(h:Rd w (some ⟨b,off,none⟩) n c xs){k:Nat}{u:Value}(hx:xs[k]?=some u):w.cell? ⟨b,off+k,none⟩=some u:=by
 have hk:k<xs.length:=by
  rcases Nat.lt_or_ge k xs.length with h|h
  ·exact h
  ·rw[List.getElem?_eq_none h] at hx;cases hx
 obtain⟨b',off',e,_,hc⟩:=h.2.2.2 (by have:=h.1;omega);injection e with e;injection e with e1 e2;subst e1 e2;exact hc k u hx
theorem kgx7(ks:List Nat)(j:Nat)(h:j<ks.length)(b:Int):bas (ks.take (j+1)) b=(2*bas (ks.take j) b+32768*(ks[j]:Nat)) % 16777216:=by
 rw[List.take_succ_eq_append_getElem h,bas_snoc]
end PB
end
end Go.Proofs.YtnpcandaehejbaaGreat
