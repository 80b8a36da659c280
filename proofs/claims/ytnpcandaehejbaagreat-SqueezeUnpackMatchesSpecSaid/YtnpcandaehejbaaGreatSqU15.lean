/-
  Law SqueezeUnpackMatchesSpec, region by region, in a lone world (printed by gen_sqlaws2.py
-/
import Derived.ProofKit
import Derived.OpenShut
import Derived.ShutString
import Derived.ChangeOld
import Derived.Lib.SmallJoins
import Derived.Deep.Slices
import Derived.Deep.Fields
import Derived.ChangeSame
import Derived.HandedShaped
import Derived.Test.YtnpcandaehejbaaGreatSqU7
import Derived.Test.YtnpcandaehejbaaGreatSqU8
import Derived.Test.YtnpcandaehejbaaGreatSqU13
import Derived.Test.YtnpcandaehejbaaGreatSqU14
set_option linter.unusedVariables false
set_option linter.unusedSimpArgs false
set_option linter.unusedSectionVars false
set_option maxHeartbeats 6400000
set_option maxRecDepth 100000
namespace Go.Proofs.YtnpcandaehejbaaGreat
section
open Go.RowKit
attribute [local go_sem ↓] Go.wp_at_zero Go.wp_at_succ
namespace PB
open Cw (sq1 sq2)
theorem Two.grew{w w':World}{g:Nat}{t:TypeId}{x y:Value}(h:Two w g t x y)(k:Cw.Grew w w'):Two w' g t x y:=(k.2 g (Blk.lt h)).trans h
def T4z(A:Option Addr)(n c:Nat)(A2:Option Addr)(n2 c2:Nat):Array Value:=#[.slice A n c,.slice A2 n2 c2,undef,undef,undef,undef,undef,undef,undef,undef,undef,undef,undef,undef,undef,undef,undef,undef,undef,undef,undef,undef,undef,undef,undef,undef,undef,undef,undef,undef,undef,undef,undef,undef,undef,undef,undef,undef,undef,undef,undef,undef,undef,undef,undef,undef,undef,undef,undef,undef,undef,undef,undef,undef,undef,undef,undef,undef,undef,undef,undef,undef,undef,undef,undef,undef,undef,undef,undef,undef,undef,undef,undef,undef,undef,undef,undef,undef,undef,undef,undef,undef,undef]
def T4a(A:Option Addr)(n c:Nat)(A2:Option Addr)(n2 c2:Nat):Array Value:=#[.slice A n c,.slice A2 n2 c2,undef,undef,.bool false,undef,undef,undef,undef,undef,undef,undef,undef,undef,undef,undef,undef,undef,undef,undef,undef,undef,undef,undef,undef,undef,undef,undef,undef,undef,undef,undef,undef,undef,undef,undef,undef,undef,undef,undef,undef,undef,undef,undef,undef,undef,undef,undef,undef,undef,undef,undef,undef,undef,undef,undef,undef,undef,undef,undef,undef,undef,undef,undef,undef,undef,undef,undef,undef,undef,undef,undef,undef,undef,undef,undef,undef,undef,undef,undef,undef,undef,undef]
def T4b(A:Option Addr)(n c:Nat)(A2:Option Addr)(n2 c2:Nat)(A3:Option Addr)(n3 c3 g:Nat)(fc fi:Int):Array Value:=#[.slice A n c,.slice A2 n2 c2,undef,undef,.bool false,.slice A3 n3 c3,.pointer (some ⟨g,0,none⟩),undef,undef,undef,.tuple #[.slice A3 n3 c3,.agg #[.int .i64 fc,.int .i64 fi]],.slice A n c,.slice A2 n2 c2,.tuple #[.slice A3 n3 c3,.agg #[.int .i64 fc,.int .i64 fi]],.slice A3 n3 c3,.agg #[.int .i64 fc,.int .i64 fi],undef,undef,undef,undef,undef,undef,undef,undef,undef,undef,undef,undef,undef,undef,undef,undef,undef,undef,undef,undef,undef,undef,undef,undef,undef,undef,undef,undef,undef,undef,undef,undef,undef,undef,undef,undef,undef,undef,undef,undef,undef,undef,undef,undef,undef,undef,undef,undef,undef,undef,undef,undef,undef,undef,undef,undef,undef,undef,undef,undef,undef,undef,undef,undef,undef,undef,undef]
def T4c(A:Option Addr)(n c:Nat)(A2:Option Addr)(n2 c2:Nat)(A3:Option Addr)(n3 c3 g:Nat)(fc fi:Int)(wc wi:Int)(g2:Nat):Array Value:=#[.slice A n c,.slice A2 n2 c2,undef,undef,.bool false,.slice A3 n3 c3,.pointer (some ⟨g,0,none⟩),.pointer (some ⟨g2,0,none⟩),undef,undef,.tuple #[.slice A3 n3 c3,.agg #[.int .i64 fc,.int .i64 fi]],.slice A n c,.slice A2 n2 c2,.tuple #[.slice A3 n3 c3,.agg #[.int .i64 fc,.int .i64 fi]],.slice A3 n3 c3,.agg #[.int .i64 fc,.int .i64 fi],.slice A n c,.slice A2 n2 c2,.agg #[.int .i64 wc,.int .i64 wi],undef,undef,undef,undef,undef,undef,undef,undef,undef,undef,undef,undef,undef,undef,undef,undef,undef,undef,undef,undef,undef,undef,undef,undef,undef,undef,undef,undef,undef,undef,undef,undef,undef,undef,undef,undef,undef,undef,undef,undef,undef,undef,undef,undef,undef,undef,undef,undef,undef,undef,undef,undef,undef,undef,undef,undef,undef,undef,undef,undef,undef,undef,undef,undef]
def T4d(A:Option Addr)(n c:Nat)(A2:Option Addr)(n2 c2:Nat)(A3:Option Addr)(n3 c3 g:Nat)(fc fi:Int)(wc wi:Int)(g2:Nat):Array Value:=#[.slice A n c,.slice A2 n2 c2,undef,undef,.bool false,.slice A3 n3 c3,.pointer (some ⟨g,0,none⟩),.pointer (some ⟨g2,0,none⟩),undef,undef,.tuple #[.slice A3 n3 c3,.agg #[.int .i64 fc,.int .i64 fi]],.slice A n c,.slice A2 n2 c2,.tuple #[.slice A3 n3 c3,.agg #[.int .i64 fc,.int .i64 fi]],.slice A3 n3 c3,.agg #[.int .i64 fc,.int .i64 fi],.slice A n c,.slice A2 n2 c2,.agg #[.int .i64 wc,.int .i64 wi],.bool true,.bool false,undef,undef,undef,undef,undef,undef,undef,undef,undef,undef,undef,undef,undef,undef,undef,undef,undef,undef,undef,undef,undef,undef,undef,undef,undef,undef,undef,undef,undef,undef,undef,undef,undef,undef,undef,undef,undef,undef,undef,undef,undef,undef,undef,undef,undef,undef,undef,undef,undef,undef,undef,undef,undef,undef,undef,undef,undef,undef,undef,undef,undef,undef]
noncomputable def C4:Nat→Code
 | 0=>Tryz.f4.body.getD .skip
 | n+1=>sq2 (C4 n)
noncomputable def R4_3:Code:=sq1 (sq1 (C4 3))
noncomputable def ops4_3:Array Oper:=match R4_3 with|.region _ ops _=>ops|_=>#[]
noncomputable def R4_4:Code:=match sq2 (sq1 (C4 3)) with|.cond _ x _=>x|_=>.skip
theorem seq4_0:C4 0=.seq (sq1 (C4 0)) (C4 1):=by kernel_rfl
theorem seq4_1:C4 1=.seq (sq1 (C4 1)) (C4 2):=by kernel_rfl
theorem seq4_2:C4 2=.seq (sq1 (C4 2)) (C4 3):=by kernel_rfl
theorem seq4_3:C4 3=.seq (.seq (.region 3 ops4_3 false) (.cond (.tmp 20) R4_4 .skip)) (C4 4):=by kernel_rfl
theorem range4_3:List.range ops4_3.size=[0,1]:=by kernel_rfl
theorem r4_0{A:Option Addr}{n c:Nat}{A2:Option Addr}{n2 c2:Nat}(w:World):(sq1 (C4 0)).wp Tryz.prog (fun e a w'=>e=.normal∧a.defers=[]∧(a.tmps=T4a A n c A2 n2 c2∧Cw.Grew w w')) ⟨T4z A n c A2 n2 c2,[]⟩ w:=by
 dsimp only[C4,sq1,sq2,Tryz.f4,Option.getD_some,T4z]
 go_wp2
 exact⟨rfl,Cw.Grew.of (Below.refl _ _)⟩
def K4(A:Option Addr)(n:Nat)(code:List Nat)(n2:Nat)(dict:List Nat)(A3:Option Addr)(n3 c3:Nat)(fc fi:Int)(w':World):Prop :=
 (n≤1025∧n2≤512∧∃ D ok,UNP code dict D ok∧((ok=true∧fc=0∧fi=0∧Rd w' A3 n3 c3 (bcells D))∨(ok=false∧fc=16∧fi=-1∧n3=0)))∨((fc,fi)=szf n 1025 n2∧fc=3∧n3=0)
def P4(A:Option Addr)(n c:Nat)(code:List Nat)(A2:Option Addr)(n2 c2:Nat)(dict:List Nat)(w:World)(T:Array Value)(w':World):Prop :=
 ∃ A3 n3 c3 g fc fi,T=T4b A n c A2 n2 c2 A3 n3 c3 g fc fi∧Two w' g 24 (.int .i64 fc) (.int .i64 fi)∧Cw.Grew w w'∧K4 A n code n2 dict A3 n3 c3 fc fi w'
theorem r4_1_long{A:Option Addr}{n c:Nat}{code:List Nat}{A2:Option Addr}{n2 c2:Nat}{dict:List Nat}{w:World}(h:Rd w A n c (bcells code))(h2:Rd w A2 n2 c2 (bcells dict))(hd:∀ k,code.getD k 0<256)(hn:1025<n):(sq1 (C4 1)).wp Tryz.prog (fun e a w'=>e=.normal∧a.defers=[]∧P4 A n c code A2 n2 c2 dict w a.tmps w') ⟨T4a A n c A2 n2 c2,[]⟩ w:=by
 have HS:=Lib.hid (show((3:Int),((-1):Int))=szf n 1025 n2 by unfold szf;rw[if_pos hn]);dsimp only[C4,sq1,sq2,Tryz.f4,Option.getD_some,T4a]
 go_wp2_with fail
 refine(api_unpack_long hn h.le_max).mono ?_;rintro e w1 ⟨rfl,hb⟩;have Y1:=Lib.hid (hb.alloc hb.size (.cells #[.int .i64 3,.int .i64 (-1)] 24));have F1:=Lib.hid (Two.new w1 24 (.int .i64 3) (.int .i64 (-1)));clear hb
 go_wp2
 exact⟨none,0,0,w1.heap.size,3,(-1),rfl,F1.out,Cw.Grew.of Y1.out,.inr ⟨HS.out,rfl,rfl⟩⟩
theorem r4_1_dict{A:Option Addr}{n c:Nat}{code:List Nat}{A2:Option Addr}{n2 c2:Nat}{dict:List Nat}{w:World}(h:Rd w A n c (bcells code))(h2:Rd w A2 n2 c2 (bcells dict))(hd:∀ k,code.getD k 0<256)(hn:n≤1025)(hn2:512<n2):(sq1 (C4 1)).wp Tryz.prog (fun e a w'=>e=.normal∧a.defers=[]∧P4 A n c code A2 n2 c2 dict w a.tmps w') ⟨T4a A n c A2 n2 c2,[]⟩ w:=by
 have HS:=Lib.hid (show((3:Int),((-2):Int))=szf n 1025 n2 by unfold szf;rw[if_neg (by omega),if_pos hn2]);dsimp only[C4,sq1,sq2,Tryz.f4,Option.getD_some,T4a]
 go_wp2_with fail
 refine(api_unpack_dict hn hn2 h2.le_max).mono ?_;rintro e w1 ⟨rfl,hb⟩;have Y1:=Lib.hid (hb.alloc hb.size (.cells #[.int .i64 3,.int .i64 (-2)] 24));have F1:=Lib.hid (Two.new w1 24 (.int .i64 3) (.int .i64 (-2)));clear hb
 go_wp2
 exact⟨none,0,0,w1.heap.size,3,(-2),rfl,F1.out,Cw.Grew.of Y1.out,.inr ⟨HS.out,rfl,rfl⟩⟩
theorem r4_1_ok{A:Option Addr}{n c:Nat}{code:List Nat}{A2:Option Addr}{n2 c2:Nat}{dict:List Nat}{w:World}(h:Rd w A n c (bcells code))(h2:Rd w A2 n2 c2 (bcells dict))(hd:∀ k,code.getD k 0<256)(hn:n≤1025)(hn2:n2≤512):(sq1 (C4 1)).wp Tryz.prog (fun e a w'=>e=.normal∧a.defers=[]∧P4 A n c code A2 n2 c2 dict w a.tmps w') ⟨T4a A n c A2 n2 c2,[]⟩ w:=by
 dsimp only[C4,sq1,sq2,Tryz.f4,Option.getD_some,T4a]
 go_wp2_with fail
 refine(api_unpack_ok h h2 hn hn2 hd).mono ?_;rintro e w1 ⟨A3,n3,c3,D,D',ok,fc,fi,rfl,hU,hh,hr,hb⟩;have e3:=hr.len;rw[ka7] at e3;rcases hh with⟨rfl,rfl,rfl,rfl⟩|⟨rfl,rfl,rfl,rfl⟩
 ·have Y1:=Lib.hid (hb.alloc hb.size (.cells #[.int .i64 0,.int .i64 0] 24));have F1:=Lib.hid (Two.new w1 24 (.int .i64 0) (.int .i64 0));have R1:=Lib.hid (hr.alloc (.cells #[.int .i64 0,.int .i64 0] 24));have HU:=Lib.hid hU;clear hb hr hU e3
  go_wp2
  exact⟨A3,n3,c3,w1.heap.size,0,0,rfl,F1.out,Cw.Grew.of Y1.out,.inl ⟨hn,hn2,D,true,HU.out,.inl ⟨rfl,rfl,rfl,R1.out⟩⟩⟩
 ·have Y1:=Lib.hid (hb.alloc hb.size (.cells #[.int .i64 16,.int .i64 (-1)] 24));have F1:=Lib.hid (Two.new w1 24 (.int .i64 16) (.int .i64 (-1)));have e4:n3=0:=e3.symm;have HU:=Lib.hid hU;subst e4;clear hb hr hU e3
  go_wp2
  exact⟨A3,0,c3,w1.heap.size,16,-1,rfl,F1.out,Cw.Grew.of Y1.out,.inl ⟨hn,hn2,D',false,HU.out,.inr ⟨rfl,rfl,rfl,rfl⟩⟩⟩
theorem r4_1{A:Option Addr}{n c:Nat}{code:List Nat}{A2:Option Addr}{n2 c2:Nat}{dict:List Nat}{w:World}(h:Rd w A n c (bcells code))(h2:Rd w A2 n2 c2 (bcells dict))(hd:∀ k,code.getD k 0<256):(sq1 (C4 1)).wp Tryz.prog (fun e a w'=>e=.normal∧a.defers=[]∧P4 A n c code A2 n2 c2 dict w a.tmps w') ⟨T4a A n c A2 n2 c2,[]⟩ w:=by
 rcases Nat.lt_or_ge 1025 n with hn|hn
 ·exact r4_1_long h h2 hd hn
 ·rcases Nat.lt_or_ge 512 n2 with hn2|hn2
  ·exact r4_1_dict h h2 hd hn hn2
  ·exact r4_1_ok h h2 hd hn hn2
theorem r4_2{A:Option Addr}{n c:Nat}{A2:Option Addr}{n2 c2:Nat}{A3:Option Addr}{n3 c3 g:Nat}{fc fi:Int}{w:World}(hn:n≤maxLen)(hn2:n2≤maxLen)(wc wi:Int)(hF:(wc,wi)=szf n 1025 n2)(hG:Two w g 24 (.int .i64 fc) (.int .i64 fi)):(sq1 (C4 2)).wp Tryz.prog (fun e a w'=>e=.normal∧a.defers=[]∧∃ g2,a.tmps=T4c A n c A2 n2 c2 A3 n3 c3 g fc fi wc wi g2∧Two w' g 24 (.int .i64 fc) (.int .i64 fi)∧Two w' g2 24 (.int .i64 wc) (.int .i64 wi)∧Cw.Grew w w') ⟨T4b A n c A2 n2 c2 A3 n3 c3 g fc fi,[]⟩ w:=by
 dsimp only[C4,sq1,sq2,Tryz.f4,Option.getD_some,T4b]
 go_wp2_with fail
 refine(sizefault_any (most:=1025) (by decide) hn hn2 _ (wc,wi) hF).mono ?_;rintro e w1 ⟨rfl,hb⟩;have Y1:=Lib.hid (hb.alloc hb.size (.cells #[.int .i64 wc,.int .i64 wi] 24));have F1:=Lib.hid (Two.new w1 24 (.int .i64 wc) (.int .i64 wi));have G1:=Lib.hid ((hG.on hb).alloc (.cells #[.int .i64 wc,.int .i64 wi] 24));clear hb hF hG
 go_wp2
 exact⟨w1.heap.size,rfl,G1.out,F1.out,Cw.Grew.of Y1.out⟩
theorem r4_3{A:Option Addr}{n c:Nat}{A2:Option Addr}{n2 c2:Nat}{A3:Option Addr}{n3 c3 g:Nat}{fc fi:Int}{wc wi:Int}{g2:Nat}{w:World} :
  wpOps Tryz.prog ops4_3 (fun e a w'=>e=.normal∧a.defers=[]∧(a.tmps=T4d A n c A2 n2 c2 A3 n3 c3 g fc fi wc wi g2∧Cw.Grew w w')) [1] ⟨(T4c A n c A2 n2 c2 A3 n3 c3 g fc fi wc wi g2).setIfInBounds 19 (.bool true),[]⟩ w:=by
 have e1:([1]:List Nat)=List.range' 1 (ops4_3.toList.drop 1).length:=by kernel_rfl
 rw[e1,wpOps_eq_wpList (ops4_3.toList.drop 1) 1 (fun j=>by rw[List.getElem?_drop,Array.getElem?_toList])];have y0:=Lib.hid (Below.refl w.heap.size w);dsimp only[ops4_3,R4_3,C4,sq1,sq2,Tryz.f4,Option.getD_some,T4c,List.drop,List.setIfInBounds_toArray,List.set_cons_zero,List.set_cons_succ]
 go_wp2
 exact⟨rfl,Cw.Grew.of y0.out⟩
theorem r4_t_long{A:Option Addr}{n c:Nat}{A2:Option Addr}{n2 c2:Nat}{A3:Option Addr}{c3 g g2:Nat}{w:World}(hF:Two w g 24 (.int .i64 3) (.int .i64 (-1)))(hW:Two w g2 24 (.int .i64 3) (.int .i64 (-1))):(C4 4).wp Tryz.prog (bodyPost Tryz.prog Tryz.f4 fun e w'=>∃ v,e=.returned v∧v=.bool true∧Cw.Grew w w') ⟨T4d A n c A2 n2 c2 A3 0 c3 g 3 (-1) 3 (-1) g2,[]⟩ w:=by
 dsimp only[C4,sq1,sq2,Tryz.f4,Option.getD_some,T4d];have f0:=hF.c0;have f1:=hF.c1;have h0:=hW.c0;have h1:=hW.c1;have y0:=Lib.hid (Below.refl w.heap.size w);clear hF hW
 go_wp2
 go_ret
 exact⟨_,rfl,(by first|rfl|simp),Cw.Grew.of y0.out⟩
theorem r4_t_dict{A:Option Addr}{n c:Nat}{A2:Option Addr}{n2 c2:Nat}{A3:Option Addr}{c3 g g2:Nat}{w:World}(hF:Two w g 24 (.int .i64 3) (.int .i64 (-2)))(hW:Two w g2 24 (.int .i64 3) (.int .i64 (-2))):(C4 4).wp Tryz.prog (bodyPost Tryz.prog Tryz.f4 fun e w'=>∃ v,e=.returned v∧v=.bool true∧Cw.Grew w w') ⟨T4d A n c A2 n2 c2 A3 0 c3 g 3 (-2) 3 (-2) g2,[]⟩ w:=by
 dsimp only[C4,sq1,sq2,Tryz.f4,Option.getD_some,T4d];have f0:=hF.c0;have f1:=hF.c1;have h0:=hW.c0;have h1:=hW.c1;have y0:=Lib.hid (Below.refl w.heap.size w);clear hF hW
 go_wp2
 go_ret
 exact⟨_,rfl,(by first|rfl|simp),Cw.Grew.of y0.out⟩
theorem r4_t_good{A:Option Addr}{n c:Nat}{code:List Nat}{A2:Option Addr}{n2 c2:Nat}{dict:List Nat}{A3:Option Addr}{n3 c3 g g2:Nat}{D:List Nat}{w:World}(h:Rd w A n c (bcells code))(h2:Rd w A2 n2 c2 (bcells dict))(hd:∀ k,code.getD k 0<256)(hd2:∀ k,dict.getD k 0<256)(hn:n≤1025)(hn2:n2≤512)(h3:Rd w A3 n3 c3 (bcells D))(hU:UNP code dict D true)(hc:n<3∨(3≤n∧(code.getD 0 0≠1∨(code.getD 0 0=1∧code.getD 1 0≤40∧(code.getD 2 0=0∨5≤code.getD 2 0)))))(hF:Two w g 24 (.int .i64 0) (.int .i64 0))(hW:Two w g2 24 (.int .i64 0) (.int .i64 0)):(C4 4).wp Tryz.prog (bodyPost Tryz.prog Tryz.f4 fun e w'=>∃ v,e=.returned v∧v=.bool true∧Cw.Grew w w') ⟨T4d A n c A2 n2 c2 A3 n3 c3 g 0 0 0 0 g2,[]⟩ w:=by
 dsimp only[C4,sq1,sq2,Tryz.f4,Option.getD_some,T4d];have h0:=hW.c0;have h1:=hW.c1;have E1:=Lib.hid (show code.length=n by have:=h.len;rw[ka7] at this;exact this);have E2:=Lib.hid (show dict.length=n2 by have:=h2.len;rw[ka7] at this;exact this);have y0:=Lib.hid (Below.refl w.heap.size w);have HU:=Lib.hid hU;clear hW hU;have H3:=Lib.hid h3;clear h3;rcases hc with hs|⟨hs,hc⟩
 case' inl=>have j4:¬(3:Int)≤(n:Int):=by omega
 case' inr =>
  obtain⟨bA,off,rfl,hbA,hcc⟩:=Reads.byte h (by omega);have x0:=hcc 0 (by omega);have x1:=hcc 1 (by omega);have x2:=hcc 2 (by omega);rw[Nat.add_zero] at x0;have HCC:=Lib.hid hcc;clear hcc;have hx0:=hd 0;have hx1:=hd 1;have hx2:=hd 2;obtain⟨x,hx⟩:∃ x,x=code.getD 0 0:=⟨_,rfl⟩
  obtain⟨a,ha⟩:∃ a,a=code.getD 1 0:=⟨_,rfl⟩
  obtain⟨b,hb⟩:∃ b,b=code.getD 2 0:=⟨_,rfl⟩
  rw[←hx] at x0 hx0 hc;rw[←ha] at x1 hx1 hc;rw[←hb] at x2 hx2 hc;have j1:(0:Int)<(n:Int):=by omega
  have j2:(1:Int)<(n:Int):=by omega
  have j3:(2:Int)<(n:Int):=by omega
  have j4:(3:Int)≤(n:Int):=by omega
  clear hx ha hb;rcases hc with hc1|⟨hc1,hc2,hc3|hc3⟩
 case' inr.inl =>
  have k1:((x:Int) == 1)=false:=by simp;omega
  have k2:¬(x:Int)=1:=by omega
 case' inr.inr.inl =>
  have k2:¬(40:Int)<(a:Int):=by omega
  subst hc1 hc3
 case' inr.inr.inr =>
  have k2:¬(40:Int)<(a:Int):=by omega
  have k3:(0:Int)<(b:Int):=by omega
  have k4:¬(b:Int)<5:=by omega
  subst hc1
 all_goals go_wp2_with fail
 all_goals refine(kjc7 (by assumption) h2 hn hn2 hd).mono ?_
 all_goals
   rintro e w1 ⟨A4,n4,c4,D4,ok4,rfl,hU4,hr4,hb⟩;obtain⟨rfl,rfl⟩:=hU4.det HU.out;have Y1:=Lib.hid hb;have R3:=Lib.hid (H3.out.on hb);have R4:=Lib.hid (hr4 rfl);have HD:=Lib.hid (unp_ok hd hd2 (by rw[←E1.out] at hn;exact hn) (by rw[←E2.out] at hn2;exact hn2) HU.out);have F1:=hF.on hb;have f0:=F1.c0;have f1:=F1.c1;clear hU4 hr4 hb
   go_wp2_with fail
   refine(kch7 _ _ _ D4 _ _ _ D4 _ R3.out R4.out HD.out.2.1 HD.out.2.1).mono ?_;rintro e w2 ⟨rfl,rfl⟩
   go_wp2
   go_ret
   exact⟨_,rfl,(by first|rfl|simp),Cw.Grew.of Y1.out⟩
theorem r4_t_bad{A:Option Addr}{n c:Nat}{code:List Nat}{A2:Option Addr}{n2 c2:Nat}{dict:List Nat}{A3:Option Addr}{c3 g g2:Nat}{D:List Nat}{w:World}(h:Rd w A n c (bcells code))(h2:Rd w A2 n2 c2 (bcells dict))(hd:∀ k,code.getD k 0<256)(hd2:∀ k,dict.getD k 0<256)(hn:n≤1025)(hn2:n2≤512)(hU:UNP code dict D false)(hc:n<3∨(3≤n∧(code.getD 0 0≠1∨(code.getD 0 0=1∧code.getD 1 0≤40∧(code.getD 2 0=0∨5≤code.getD 2 0)))))(hF:Two w g 24 (.int .i64 16) (.int .i64 (-1)))(hW:Two w g2 24 (.int .i64 0) (.int .i64 0)):(C4 4).wp Tryz.prog (bodyPost Tryz.prog Tryz.f4 fun e w'=>∃ v,e=.returned v∧v=.bool true∧Cw.Grew w w') ⟨T4d A n c A2 n2 c2 A3 0 c3 g 16 (-1) 0 0 g2,[]⟩ w:=by
 dsimp only[C4,sq1,sq2,Tryz.f4,Option.getD_some,T4d];have h0:=hW.c0;have h1:=hW.c1;have E1:=Lib.hid (show code.length=n by have:=h.len;rw[ka7] at this;exact this);have E2:=Lib.hid (show dict.length=n2 by have:=h2.len;rw[ka7] at this;exact this);have y0:=Lib.hid (Below.refl w.heap.size w);have HU:=Lib.hid hU;clear hW hU;rcases hc with hs|⟨hs,hc⟩
 case' inl=>have j4:¬(3:Int)≤(n:Int):=by omega
 case' inr =>
  obtain⟨bA,off,rfl,hbA,hcc⟩:=Reads.byte h (by omega);have x0:=hcc 0 (by omega);have x1:=hcc 1 (by omega);have x2:=hcc 2 (by omega);rw[Nat.add_zero] at x0;have HCC:=Lib.hid hcc;clear hcc;have hx0:=hd 0;have hx1:=hd 1;have hx2:=hd 2;obtain⟨x,hx⟩:∃ x,x=code.getD 0 0:=⟨_,rfl⟩
  obtain⟨a,ha⟩:∃ a,a=code.getD 1 0:=⟨_,rfl⟩
  obtain⟨b,hb⟩:∃ b,b=code.getD 2 0:=⟨_,rfl⟩
  rw[←hx] at x0 hx0 hc;rw[←ha] at x1 hx1 hc;rw[←hb] at x2 hx2 hc;have j1:(0:Int)<(n:Int):=by omega
  have j2:(1:Int)<(n:Int):=by omega
  have j3:(2:Int)<(n:Int):=by omega
  have j4:(3:Int)≤(n:Int):=by omega
  clear hx ha hb;rcases hc with hc1|⟨hc1,hc2,hc3|hc3⟩
 case' inr.inl =>
  have k1:((x:Int) == 1)=false:=by simp;omega
  have k2:¬(x:Int)=1:=by omega
 case' inr.inr.inl =>
  have k2:¬(40:Int)<(a:Int):=by omega
  subst hc1 hc3
 case' inr.inr.inr =>
  have k2:¬(40:Int)<(a:Int):=by omega
  have k3:(0:Int)<(b:Int):=by omega
  have k4:¬(b:Int)<5:=by omega
  subst hc1
 all_goals go_wp2_with fail
 all_goals refine(kjc7 (by assumption) h2 hn hn2 hd).mono ?_
 all_goals
   rintro e w1 ⟨A4,n4,c4,D4,ok4,rfl,hU4,hr4,hb⟩;obtain⟨rfl,rfl⟩:=hU4.det HU.out;have Y1:=Lib.hid hb;have F1:=hF.on hb;have f0:=F1.c0;have f1:=F1.c1;clear hU4 hr4
   go_wp2_with fail
   go_region_held_law (fun w'=>w'.cell? ⟨g,0,none⟩=some (.int .i64 16)∧w'.cell? ⟨g,1,none⟩=some (.int .i64 (-1))) (go_keep) ((go_at_call 15;refine(kan7 _ _ _).mono ?_;rintro e w2 ⟨rfl,y2⟩;have Y2b:Below w1.heap.size w1.drew w2:=y2;have g0:=(Two.on (w:=w1.drew) F1 Y2b).c0;have g1:=(Two.on (w:=w1.drew) F1 Y2b).c1))
   have Y2:=Lib.hid ((belowD Y1.out).trans (Y2b.mono (belowD Y1.out).size));clear hb
   go_wp2
   go_ret
   exact⟨_,rfl,(by first|rfl|simp),Cw.Grew.of Y2.out⟩
theorem r4_t_ea{A:Option Addr}{n c:Nat}{code:List Nat}{A2:Option Addr}{n2 c2:Nat}{A3:Option Addr}{n3 c3 g g2:Nat}{fc fi:Int}{w:World}(h:Rd w A n c (bcells code))(hd:∀ k,code.getD k 0<256)(hs:3≤n)(hc:code.getD 0 0=1∧40<code.getD 1 0∧code.getD 2 0<256)(hW:Two w g2 24 (.int .i64 0) (.int .i64 0)):(C4 4).wp Tryz.prog (bodyPost Tryz.prog Tryz.f4 fun e w'=>∃ v,e=.returned v∧v=.bool true∧Cw.Grew w w') ⟨T4d A n c A2 n2 c2 A3 n3 c3 g fc fi 0 0 g2,[]⟩ w:=by
 dsimp only[C4,sq1,sq2,Tryz.f4,Option.getD_some,T4d];have h0:=hW.c0;have h1:=hW.c1;have y0:=Lib.hid (Below.refl w.heap.size w);clear hW;obtain⟨bA,off,rfl,hbA,hcc⟩:=Reads.byte h (by omega);have x0:=hcc 0 (by omega);have x1:=hcc 1 (by omega);have x2:=hcc 2 (by omega);rw[Nat.add_zero] at x0;have HCC:=Lib.hid hcc;clear hcc;have hx0:=hd 0;have hx1:=hd 1;have hx2:=hd 2;obtain⟨x,hx⟩:∃ x,x=code.getD 0 0:=⟨_,rfl⟩
 obtain⟨a,ha⟩:∃ a,a=code.getD 1 0:=⟨_,rfl⟩
 obtain⟨b,hb⟩:∃ b,b=code.getD 2 0:=⟨_,rfl⟩
 rw[←hx] at x0 hx0 hc;rw[←ha] at x1 hx1 hc;rw[←hb] at x2 hx2 hc;have j1:(0:Int)<(n:Int):=by omega
 have j2:(1:Int)<(n:Int):=by omega
 have j3:(2:Int)<(n:Int):=by omega
 have j4:(3:Int)≤(n:Int):=by omega
 clear hx ha hb;obtain⟨rfl,hc1,-⟩:=hc;have k2:(40:Int)<(a:Int):=by omega
 go_wp2_with fail
 go_ret
 exact⟨_,rfl,(by first|rfl|simp),Cw.Grew.of y0.out⟩
theorem r4_t_eb{A:Option Addr}{n c:Nat}{code:List Nat}{A2:Option Addr}{n2 c2:Nat}{A3:Option Addr}{n3 c3 g g2:Nat}{fc fi:Int}{w:World}(h:Rd w A n c (bcells code))(hd:∀ k,code.getD k 0<256)(hs:3≤n)(hc:code.getD 0 0=1∧code.getD 1 0≤40∧(0<code.getD 2 0∧code.getD 2 0<5))(hW:Two w g2 24 (.int .i64 0) (.int .i64 0)):(C4 4).wp Tryz.prog (bodyPost Tryz.prog Tryz.f4 fun e w'=>∃ v,e=.returned v∧v=.bool true∧Cw.Grew w w') ⟨T4d A n c A2 n2 c2 A3 n3 c3 g fc fi 0 0 g2,[]⟩ w:=by
 dsimp only[C4,sq1,sq2,Tryz.f4,Option.getD_some,T4d];have h0:=hW.c0;have h1:=hW.c1;have y0:=Lib.hid (Below.refl w.heap.size w);clear hW;obtain⟨bA,off,rfl,hbA,hcc⟩:=Reads.byte h (by omega);have x0:=hcc 0 (by omega);have x1:=hcc 1 (by omega);have x2:=hcc 2 (by omega);rw[Nat.add_zero] at x0;have HCC:=Lib.hid hcc;clear hcc;have hx0:=hd 0;have hx1:=hd 1;have hx2:=hd 2;obtain⟨x,hx⟩:∃ x,x=code.getD 0 0:=⟨_,rfl⟩
 obtain⟨a,ha⟩:∃ a,a=code.getD 1 0:=⟨_,rfl⟩
 obtain⟨b,hb⟩:∃ b,b=code.getD 2 0:=⟨_,rfl⟩
 rw[←hx] at x0 hx0 hc;rw[←ha] at x1 hx1 hc;rw[←hb] at x2 hx2 hc;have j1:(0:Int)<(n:Int):=by omega
 have j2:(1:Int)<(n:Int):=by omega
 have j3:(2:Int)<(n:Int):=by omega
 have j4:(3:Int)≤(n:Int):=by omega
 clear hx ha hb;obtain⟨rfl,hc1,hc2,hc3⟩:=hc;have k2:¬(40:Int)<(a:Int):=by omega
 have k3:(0:Int)<(b:Int):=by omega
 have k4:(b:Int)<5:=by omega
 go_wp2_with fail
 go_ret
 exact⟨_,rfl,(by first|rfl|simp),Cw.Grew.of y0.out⟩
theorem r4_t{A:Option Addr}{n c:Nat}{code:List Nat}{A2:Option Addr}{n2 c2:Nat}{dict:List Nat}{A3:Option Addr}{n3 c3 g g2:Nat}{fc fi wc wi:Int}{w:World}(h:Rd w A n c (bcells code))(h2:Rd w A2 n2 c2 (bcells dict))(hd:∀ k,code.getD k 0<256)(hd2:∀ k,dict.getD k 0<256)
  (hK:K4 A n code n2 dict A3 n3 c3 fc fi w) (hw:(wc,wi)=szf n 1025 n2) (hF:Two w g 24 (.int .i64 fc) (.int .i64 fi)) (hW:Two w g2 24 (.int .i64 wc) (.int .i64 wi)):(C4 4).wp Tryz.prog (bodyPost Tryz.prog Tryz.f4 fun e w'=>∃ v,e=.returned v∧v=.bool true∧Cw.Grew w w') ⟨T4d A n c A2 n2 c2 A3 n3 c3 g fc fi wc wi g2,[]⟩ w:=by
 rcases hK with⟨hn,hn2,D,ok,hU,hh⟩|⟨he,hf,rfl⟩
 ·unfold szf at hw;rw[if_neg (by omega),if_neg (by omega)] at hw;obtain⟨rfl,rfl⟩:=Prod.mk.inj hw;have key:(n<3∨(3≤n∧(code.getD 0 0≠1∨(code.getD 0 0=1∧code.getD 1 0≤40∧(code.getD 2 0=0∨5≤code.getD 2 0)))))∨(3≤n∧code.getD 0 0=1∧40<code.getD 1 0)∨(3≤n∧code.getD 0 0=1∧code.getD 1 0≤40∧(0<code.getD 2 0∧code.getD 2 0<5)):=by omega
  rcases key with hc|⟨hs,hc,hc2⟩|⟨hs,hc⟩
  ·rcases hh with⟨rfl,rfl,rfl,h3⟩|⟨rfl,rfl,rfl,rfl⟩
   ·exact r4_t_good h h2 hd hd2 hn hn2 h3 hU hc hF hW
   ·exact r4_t_bad h h2 hd hd2 hn hn2 hU hc hF hW
  ·exact r4_t_ea h hd hs ⟨hc,hc2,hd 2⟩ hW
  ·exact r4_t_eb h hd hs hc hW
 ·rw[←he] at hw;obtain⟨rfl,rfl⟩:=Prod.mk.inj hw;unfold szf at he
  split at he
  ·obtain⟨rfl,rfl⟩:=Prod.mk.inj he;exact r4_t_long hF hW
  ·split at he
   ·obtain⟨rfl,rfl⟩:=Prod.mk.inj he;exact r4_t_dict hF hW
   ·obtain⟨e1,_⟩:=Prod.mk.inj he;omega
end PB
end
section
open Go.ChangeShapes Go.WideShapes Go.ChangeAt Go.RowKit
namespace PB
section
variable {H:Type}{enc:TypeId×Value→H}{w:World}{base:Nat}{spare:Nat→Bool}{held:Bool}
theorem rd_of_ints{P:Program}{t e:TypeId}{k:IntKind}{fuel:Nat}{v:Value}{x:DataW H×List MemPlace}(ht:P.underlying t=some (.slice e))(he:P.underlying e=some (.int k))(hc:P.cellsOf e=1)
  (hval:∃ A n c,v=.slice A n c) (h:DataW.trod enc P w base spare held fuel t [v]=some x) :
  ∃ A n c,∃ zs:List Int,v=.slice A n c∧Rd w A n c (zs.map (Value.int k))∧∀ z∈zs,(Lit.int k z).wf=true:=by
 rcases open_ints ht he hc h with⟨hcs,_⟩|⟨a,len,cap,zs,hcs,_,hl,hm,hz,_,hcell,hwz⟩
 ·cases hcs;exact⟨none,0,0,[],rfl,Reads.nil _ _ none 0 (Nat.zero_le _),by simp⟩
 ·cases hcs;have hlz:len≤zs.length:=by rw[hz];split<;>omega
  refine⟨some a,len,cap,zs.take len,rfl,⟨by simp;omega,hl,hm,fun h0=>?_⟩,fun z hz'=>hwz z (List.mem_of_mem_take hz')⟩;obtain⟨b,off,spot⟩:=a;have h00:=hcell 0 (by omega);have hspot:spot=none:=by simpa [Addr.add] using World.cell?_spot h00
  subst hspot;have hadd:∀ j,(⟨b,off,none⟩:Addr).add j=⟨b,off+j,none⟩:=by
   intro j;unfold Addr.add;by_cases hj:j=0<;>simp[hj]
  refine⟨b,off,rfl,?_,fun j u hu=>?_⟩
  ·have:=World.block_lt_of_cell? _ _ h00
   simpa [hadd] using this
  ·rw[List.getElem?_map] at hu;have hj:j<len:=by
    rcases Nat.lt_or_ge j len with h|h
    ·exact h
    ·rw[List.getElem?_eq_none (by simp;omega)] at hu;simp at hu
   have hcj:=hcell j (by omega);rw[hadd] at hcj;rw[hcj];rw[List.getElem?_take,if_pos hj] at hu;rw[List.getElem?_eq_getElem (by omega)] at hu;simp at hu;rw[←hu,List.getD_eq_getElem?_getD,List.getElem?_eq_getElem (by omega)];rfl
theorem bytes_of_wf(zs:List Int)(h:∀ z∈zs,(Lit.int .u8 z).wf=true):∃ d:List Nat,zs.map (Value.int .u8)=bcells d∧∀ k,d.getD k 0<256:=by
 have hz:∀ z∈zs,0≤z∧z<256:=by
  intro z hz;have:=h z hz;simp[Lit.wf,IntKind.min,IntKind.max,IntKind.signed,IntKind.bits] at this;omega
 refine⟨zs.map Int.toNat,?_,?_⟩
 ·unfold bcells;rw[List.map_map];refine List.map_congr_left fun z hz'=>?_;have:=hz z hz';simp;omega
 ·intro k;rw[List.getD_eq_getElem?_getD,List.getElem?_map];rcases Nat.lt_or_ge k zs.length with hk|hk
  ·rw[List.getElem?_eq_getElem hk];have:=hz _ (List.getElem_mem hk);simp;omega
  ·rw[List.getElem?_eq_none hk];simp
end
end PB
theorem Tryz.own:ownKnob Tryz.prog.godebug=none:=by kernel_rfl
theorem Tryz.laidOut:laidOutB Tryz.prog=true:=by kernel_rfl
end
section
open Go.ChangeShapes Go.WideShapes Go.ChangeAt Go.RowKit Go.Deep
namespace PB
section
variable {H:Type}{enc:TypeId×Value→H}{w:World}{base:Nat}{spare:Nat→Bool}{held:Bool}
theorem open_bytes{r:Reach}{b0:Nat}{v:Value}{d:DataW H}{p:List MemPlace}(hv:Value.okWide Tryz.prog w r b0 22 v)(h:DataW.Trod enc Tryz.prog w base spare held 22 v d p) :
  ∃ (A:Option Addr) (n c:Nat) (bs:List Nat),v=.slice A n c∧Rd w A n c (bcells bs)∧∀ k,bs.getD k 0<256:=by
 obtain⟨fuel,hf⟩:=h;obtain⟨A,n,c,rfl⟩:=okWide_slice Tryz.underlying22 hv;obtain⟨A',n',c',zs,e,hr,hw⟩:=rd_of_ints Tryz.underlying22 Tryz.underlying5 (by kernel_rfl) ⟨_,_,_,rfl⟩ hf;obtain⟨bs,hb,hlt⟩:=bytes_of_wf zs hw;rw[hb] at hr;exact⟨A',n',c',bs,e,hr,hlt⟩
def Tok.wf(t:Tok):Prop:=t.lit<256∧-9223372036854775808≤t.d∧t.d≤9223372036854775807∧-9223372036854775808≤t.n∧t.n≤9223372036854775807
end
end PB
end
section
namespace Cw
open Go Go.Conc Go.ConcN Rn Go.RowKit
theorem lore_nil(n q:Nat):Lore (InB fun _=>False) n q #[]:=by
 have h:=past_nil;refine⟨h.clean,h.over,h.hears,fun op hop=>by simp at hop,fun i op x hi=>by simp at hi,fun i a ha=>?_,fun i a ha=>?_,fun op hop=>by simp at hop⟩
 ·obtain⟨x,hx,_⟩:=touch_of ha;simp at hx
 ·obtain⟨x,hx,_⟩:=touch_of ha;simp at hx
theorem run_of_fin{P:Program}{PostF:Value→World→Prop}{g:Goroutine}{w:World}(h:Fin P PostF (fun _=>False) 0 g w) :
  ∃ N last o w' t',runNT P (N+1) (solo g w) #[]=(.ended o w',t')∧runN P N (solo g w)=.next last∧step P last=.ended o w'∧Conc.Good P PostF last o w' t' :=
 h #[g] none #[] (fun _=>0) rfl rfl (leavers_one P g) (lore_nil _ _)
section
variable {H:Type}{enc:TypeId×Value→H}
theorem leaving_shaped{a:Assume}{C:Checked}{os:Os}{f:FuncId}{fn:Func}{s:ChangeSpec}{conds:List PathCond}{apart fresh handsOn again:Bool}
  (own:ownKnob C.prog.godebug=none) (started:os.Started) (hfn:C.prog.funcs[f]?=some fn)
  (witness:∃ (w:World) (tape:Tape) (i:Input),w.os=os∧(w.forCall tape i).Shaped C.prog∧i.vars=[]∧Input.okWide C.prog (w.forCall tape i) .any w.heap.size f i ∧
   s.pre6 enc C.prog fn conds apart (w.forCall tape i).memory i.args∧a.holds C.prog (lone (Frame.enter C.prog f i.args .normal) [] (w.forCall tape i)))
  (runs:∀ (W:World) (base:Nat) (args:Array Value) (ds gs:List (DataW H)) (before:List MemPlace),
   (∀ (j:Nat) t v,fn.params[j]?=some t→args[j]?=some v→Value.okWide C.prog W .any base t v) →
   DataW.Whole enc C.prog fn.params.toList s.vars apart W args.toList ds gs before →
   W.ShapedOpen C.prog →
   Fin C.prog (fun v W'=>s.post enc C.prog fn apart fresh handsOn again W args v W') (fun _=>False) 0 (G (Frame.enter C.prog f args .normal) []) W) :
  ReturnsInLeavingWide a C os f .any (s.pre6 enc C.prog fn conds apart) (s.post enc C.prog fn apart fresh handsOn again):=by
 refine returnsInLeavingWide_of_good own started witness ?_;intro w tape i _ hsh _ hok hpre hholds;obtain⟨_,_,_,fn',hfn',_,_,_,_,hval⟩:=hok;have e:fn'=fn:=Option.some.inj (hfn'.symm.trans hfn);subst e;obtain⟨⟨ds,gs,before,hw,hc⟩,hz⟩:=hpre;have hw':=DataW.Whole.of_heap (w':=w.forCall tape i) (by rfl) hw;obtain⟨M,last,o,w',t',h1,h2,h3,h4⟩:=run_of_fin (runs (w.forCall tape i) w.heap.size i.args ds gs before hval hw' hsh);exact⟨M,last,o,w',t',h1,h2,h3,h4.mono fun v hp=>ChangeSpec.post_blind hp⟩
end
theorem Same.below{W w:World}(h:Same W w):Below W.heap.size W w:=⟨h.os,h.tape,h.output,h.size,h.old⟩
theorem fin_mono{P:Program}{Post Post':Value→World→Prop}{B:Nat→Prop}{q0:Nat}{g:Goroutine}{w:World}(hp:∀ v w',Post v w'→Post' v w')(h:Fin P Post B q0 g w):Fin P Post' B q0 g w:=by
 intro gs sl t q h1 h2 h3 h4;obtain⟨N,last,o,w',t',k1,k2,k3,k4⟩:=h gs sl t q h1 h2 h3 h4;exact⟨N,last,o,w',t',k1,k2,k3,by
  obtain⟨v,x1,x2,x3⟩:=k4;exact⟨v,x1,hp v _ x2,x3⟩⟩
theorem kjd7:Tryz.prog.globals.size=1:=by kernel_rfl
theorem rowAt_int{fits:TypeId→Bool}(hf:fits 3=false):∀ d cnt off n,rowAt Tryz.prog fits d 3 cnt off n=false
 | 0,_,_,_=>rfl
 | d+1,cnt,off,n=>by
  unfold rowAt;simp only[Tryz.underlying3,hf,Bool.and_false,Bool.or_false,ite_self]
theorem no_bytes_in_int:∀ D cnt off n:Nat,liesAt Tryz.prog D 3 cnt off 5 n=false
 | 0,_,_,_=>rfl
 | D+1,cnt,off,n=>by
  have h0:sameLayout Tryz.prog Tryz.prog.depth 3 5=false:=by kernel_rfl
  unfold liesAt;simp only[Tryz.underlying5];rw[rowAt_int h0];rfl
theorem row_of_arg{W:World}{base:Nat}(hsh:W.ShapedOpen Tryz.prog){v:Value}(hv:Value.okWide Tryz.prog W .any base 22 v) :
  ∀ a l c,v=.slice (some a) l c→Tryz.prog.globals.size≤a.block∧a.spot=none∧∃ cs t f,W.heap[a.block]?=some (.cells cs t f):=by
 rintro a l c rfl;unfold Value.okWide at hv;rw[Tryz.underlying22] at hv;unfold Cell.okWide at hv;rw[Tryz.underlying22] at hv;unfold Cell.ok at hv;rw[Tryz.underlying22] at hv;obtain⟨h1,h2,h3⟩:=hv;obtain⟨_,hs,row,cells,hsp,hl⟩:=h3;have hx:∃ cs f,W.heap[a.block]?=some (.cells cs row f):=by
  unfold World.shape? at hsp
  split at hsp
  ·rename_i c0 e0 f0 he
   cases hsp;exact⟨_,_,he⟩
  ·cases hsp
 obtain⟨cs,f,hx⟩:=hx;refine⟨?_,hs,cs,row,f,hx⟩;rcases Nat.lt_or_ge a.block Tryz.prog.globals.size with hlt|hge
 ·exfalso;have hg:Tryz.prog.globals.size=1:=by kernel_rfl
  have hb:a.block=0:=by omega
  obtain⟨zero,hz⟩:∃ zero,(((begin Tryz.prog (fun _ _=>0) default).world).heap[0]?).bind Obj.row?=some (zero,3):=⟨#[.int .i64 0],by kernel_rfl⟩
  obtain⟨cs',e1,_⟩:=hsh.1 0 zero 3 (by omega) hz;rw[hb,e1] at hx;cases hx;rw[no_bytes_in_int] at hl;cases hl
 ·exact hge
theorem shaped_low{W:World}(hsh:W.ShapedOpen Tryz.prog):Tryz.prog.globals.size≤W.heap.size:=by
 rw[kjd7];have hz:(((begin Tryz.prog (fun _ _=>0) default).world).heap[0]?).bind Obj.row?=some (#[.int .i64 0],3):=by kernel_rfl
 obtain⟨cs',e1,_⟩:=hsh.1 0 #[.int .i64 0] 3 (by rw[kjd7];decide) hz;have:=(Array.getElem?_eq_some_iff.1 e1).1;omega
end Cw
end
section
namespace Cw
open Go Go.Conc Go.ConcN Rn Go.RowKit
section
variable {P:Program}{b:Frame}
theorem tail_of_code{fn:Func}{r:Nat}(hr:fn.results=#[.tmp r]){T:Array Value}{wp:World}{Q:Value→World→Prop}{c:Code}
  (h:∀ u,c.wp P (bodyPost P fn fun e w=>∃ v,e=.returned v∧Q v w) ⟨T,[]⟩ (tp wp u)) :
  ∀ u cs,∃ (T1:Array Value) (todo:List Item) (w1:World),Q (T1.getD r undef) w1∧Steps P (lone (b.at ⟨T,[]⟩ [.code c]) cs (tp wp u)) (lone { b.at ⟨T1,[]⟩ todo with mode:=.returning } cs w1):=by
 intro u cs;obtain⟨e2,a2,w2,hq,harr2⟩:=h u b [] cs;obtain⟨T2,D2⟩:=a2;cases e2 with
 | normal =>
  obtain⟨hd,v,hv,v',hv',hQ⟩:=hq;simp only at hd;subst hd;rw[kbg7 hr] at hv;cases hv;cases hv';exact⟨T2,[],w2,hQ,Steps.trans harr2 (.one step_end)⟩
 | ret =>
  obtain⟨hd,v,hv,v',hv',hQ⟩:=hq;simp only at hd;subst hd;rw[kbg7 hr] at hv;cases hv;cases hv';obtain⟨td,hs⟩:=harr2;exact⟨T2,td,w2,hQ,hs⟩
 | panic chain =>
  obtain⟨_,v,hv,_⟩:=hq;cases hv
 | exit id=>exact hq.elim
 | goto l=>exact hq.elim
 | outgrown =>
  obtain⟨v,hv,_⟩:=hq;cases hv
end
section
variable {S:Nat→Prop}{hS:∀ b,S b→Tryz.prog.globals.size≤b}{W:World}{B:Nat→Prop}{ρ:Ren Tryz.prog}{wp w:World}{q0:Nat}{b:Frame}{T T':Array Value}
theorem gh_tail(hrow:∀ b,S b→∃ c t f,W.heap[b]?=some (.cells c t f))(hg:Gh S hS W B ρ wp w)(hb:Plainb b){c1:Code}(hc:okCode Tryz.prog S0 M1 c1=true){fn:Func}(hf:Tryz.prog.funcs[b.fn]?=some fn)(hi:Tryz.prog.inits.idxOf? b.fn=none){r:Nat}(hr:fn.results=#[.tmp r])
  (hT:ARR ρ T T') (hk:Grew (veil S W) wp)
  (hlone:∀ u,c1.wp Tryz.prog (bodyPost Tryz.prog fn fun e w'=>∃ v,e=.returned v∧v=.bool true∧Grew (tp wp u) w') ⟨T,[]⟩ (tp wp u)) :
  Fin Tryz.prog (fun v w'=>v=.bool true∧Same W w') B q0 (G (b.at ⟨T',[]⟩ [.code c1]) []) w:=by
 refine fin_tail (r:=r) (wp:=wp) (ρ:=ρ) (Q:=fun v w'=>v=.bool true∧Grew wp w') kgn7 hb (by
  intro it hit;obtain rfl:=List.mem_singleton.1 hit;exact hc) hg.rho (tail_of_code (Q:=fun v w'=>v=.bool true∧Grew wp w') hr fun u=>hlone u) hT hg.rs hg.nb hg.bl ?_
 rintro ρ2 v T1' wp2 w2 u todo hr2 le ⟨rfl,k2⟩ hv hs haft;have hg2:=hg.go hs haft;refine fin_done hb hf hi hr fun w₁ r1=>?_;have hg1:=hg2.atRel r1;have e:T1'.getD r undef=.bool true:=by
  generalize T1'.getD r undef=x at hv;cases hv;rfl
 have k3:Grew wp wp2:=k2;exact⟨e,hg1.aft.sizer,veil_exact hrow hg1.aft hg1.rs (hk.trans k3).on_veil,hg1.aft.os,hg1.aft.tape,hg1.aft.output⟩
end
end Cw
end
section
namespace Cw
open Go Go.Conc Go.ConcN Rn Go.RowKit
open PB (C4 ops4_3 T4z T4a T4b T4c T4d P4 K4)
theorem body4:Tryz.f4.body=some (C4 0):=by kernel_rfl
theorem ntmps4:Tryz.f4.ntmps=83:=by kernel_rfl
noncomputable def o4_3:Oper:=(ops4_3[0]?).getD default
theorem o4_3_at:ops4_3[0]?=some o4_3:=by kernel_rfl
theorem o4_3_op:o4_3.dst=some 19∧o4_3.guard=none∧o4_3.op=.call { callee:=.value (.func 10),args:=#[],argTypes:=#[] }:=⟨by kernel_rfl,by kernel_rfl,by kernel_rfl⟩
theorem unpack_fin{W:World}{A:Option Addr}{n c:Nat}{code:List Nat}{A2:Option Addr}{n2 c2:Nat}{dict:List Nat}(h:PB.Rd W A n c (PB.bcells code))(h2:PB.Rd W A2 n2 c2 (PB.bcells dict))(hd:∀ k,code.getD k 0<256)(hd2:∀ k,dict.getD k 0<256)
  (hA:ArgOk W A) (hA2:ArgOk W A2) (hlo:Tryz.prog.globals.size≤W.heap.size) :
  Fin Tryz.prog (fun v w'=>v=.bool true∧Same W w') (fun _=>False) 0 (G (Frame.enter Tryz.prog 4 #[.slice A n c,.slice A2 n2 c2] .normal) []) W:=by
 rw[enter_at _ Tryz.func4 body4,ntmps4];have hb:Plainb (base 4):=⟨rfl⟩
 have hS:=args_low hA hA2;have hrow:=args_row hA hA2;have hv:PB.Rd (veil (ArgS A A2) W) A n c (PB.bcells code):=rd_veil h;have hv2:PB.Rd (veil (ArgS A A2) W) A2 n2 c2 (PB.bcells dict):=rd_veil h2;have g0:Gh (ArgS A A2) hS W (fun _=>False) (renA Tryz.prog S0 (ArgS A A2) hS) (veil (ArgS A A2) W) W:=Gh.begin hrow hlo;have eT:T4z A n c A2 n2 c2=#[.slice A n c,.slice A2 n2 c2]++Array.replicate (83-(#[.slice A n c,.slice A2 n2 c2]:Array Value).size) undef:=by kernel_rfl
 have hT0:ARR (renA Tryz.prog S0 (ArgS A A2) hS) (T4z A n c A2 n2 c2) (#[.slice A n c,.slice A2 n2 c2]++Array.replicate (83-(#[.slice A n c,.slice A2 n2 c2]:Array Value).size) undef):=by
  rw[eT];exact args_arr
 rw[PB.seq4_0];refine gh_seq g0 hb (by kernel_rfl) (Q:=fun T w'=>T=T4a A n c A2 n2 c2∧Grew (veil (ArgS A A2) W) w') hT0 (fun u=>PB.r4_0 (tp (veil (ArgS A A2) W) u)) ?_;rintro ρ1 T1 T1' wp1 w1 u1 g1 ⟨rfl,k1⟩ ha1;replace k1:Grew (veil (ArgS A A2) W) wp1:=k1;rw[PB.seq4_1];refine gh_seq g1 hb (by kernel_rfl) (Q:=fun T w'=>P4 A n c code A2 n2 c2 dict wp1 T w') ha1 (fun u=>PB.r4_1 (w:=tp wp1 u) (PB.Rd.grew hv k1) (PB.Rd.grew hv2 k1) hd) ?_;rintro ρ2 T2 T2' wp2 w2 u2 g2 ⟨A3,n3,c3,g,fc,fi,rfl,q1,q2,q3⟩ ha2;replace q1:PB.Two wp2 g 24 (.int .i64 fc) (.int .i64 fi):=q1;replace q3:K4 A n code n2 dict A3 n3 c3 fc fi wp2:=q3;have k2:Grew (veil (ArgS A A2) W) wp2:=k1.trans q2;obtain⟨⟨wc,wi⟩,hwF⟩:∃ F,F=PB.szf n 1025 n2:=⟨_,rfl⟩
 rw[PB.seq4_2];refine gh_seq g2 hb (by kernel_rfl) (Q:=fun T w'=>∃ gg,T=T4c A n c A2 n2 c2 A3 n3 c3 g fc fi wc wi gg∧PB.Two w' g 24 (.int .i64 fc) (.int .i64 fi)∧PB.Two w' gg 24 (.int .i64 wc) (.int .i64 wi)∧Grew wp2 w') ha2 (fun u=>PB.r4_2 (w:=tp wp2 u) h.le_max h2.le_max wc wi hwF q1) ?_;rintro ρ3 T3 T3' wp3 w3 u3 g3 ⟨gg,rfl,p1,p2,k3⟩ ha3;replace p1:PB.Two wp3 g 24 (.int .i64 fc) (.int .i64 fi):=p1;replace p2:PB.Two wp3 gg 24 (.int .i64 wc) (.int .i64 wi):=p2;replace k3:Grew wp2 wp3:=k3;rw[PB.seq4_3];refine gh_ctl g3 rfl (fun w₁=>stepG_seq) fun w4 g4=>?_;refine gh_ctl g4 rfl (fun w₁=>stepG_seq) fun w5 g5=>?_;refine gh_ctl g5 rfl (fun w₁=>stepG_region) fun w6 g6=>?_;rw[PB.range4_3];refine gh_packs g6 (by decide) o4_3_at (wanted_free o4_3_op.2.1) o4_3_op.1 o4_3_op.2.2 (by decide) ha3 fun w7 N g7 ha7=>?_;refine gh_ops g7 hb (by kernel_rfl) (Q:=fun T w'=>T=T4d A n c A2 n2 c2 A3 n3 c3 g fc fi wc wi gg∧Grew wp3 w') ha7 (fun u=>PB.r4_3 (w:=tp wp3 u)) ?_;rintro ρ8 T8 T8' wp8 w8 u8 g8 ⟨rfl,k8⟩ ha8;replace k8:Grew wp3 wp8:=k8;refine gh_ctl g8 rfl (fun w₁=>stepG_cond (t:=false) (eval_bool (k:=20) ha8 rfl)) fun w9 g9=>?_;refine gh_ctl g9 rfl (fun w₁=>stepG_skip) fun w10 g10=>?_;have k38:Grew (veil (ArgS A A2) W) wp8:=(k2.trans k3).trans k8;have hK8:K4 A n code n2 dict A3 n3 c3 fc fi wp8:=by
  rcases q3 with⟨a1,a2,D,ok,a3,⟨b1,b2,b3,b4⟩|hbb⟩|hx
  ·exact .inl ⟨a1,a2,D,ok,a3,.inl ⟨b1,b2,b3,PB.Rd.grew b4 (k3.trans k8)⟩⟩
  ·exact .inl ⟨a1,a2,D,ok,a3,.inr hbb⟩
  ·exact .inr hx
 exact gh_tail hrow g10 hb (by kernel_rfl) Tryz.func4 (by kernel_rfl) (r:=4) rfl ha8 k38 (fun u=>PB.r4_t (w:=tp wp8 u) (PB.Rd.grew hv k38) (PB.Rd.grew hv2 k38) hd hd2 hK8 hwF (PB.Two.grew p1 k8) (PB.Two.grew p2 k8))
end Cw
end
end Go.Proofs.YtnpcandaehejbaaGreat
