/-
  lz.next: the token at a position of a code.
-/
import Derived.Lib.SlBytesConst
import Derived.Test.YtnpcandaehejbaaGreatSqV7
import Derived.Test.YtnpcandaehejbaaGreatSqV8
set_option linter.unusedVariables false
set_option linter.unusedSimpArgs false
set_option linter.unusedSectionVars false
set_option maxHeartbeats 6400000
set_option maxRecDepth 100000
namespace Go.Proofs.YtnpcandaehejbaaGreat
section
open Go.RowKit
attribute [local go_sem ↓] Go.wp_at_zero Go.wp_at_succ
namespace PB
def NBad(l:List Nat)(p mis c:Nat):Prop :=
 (l.length≤p∧c=15)∨(p<l.length∧l.getD p 0=0∧l.length<p+9∧c=15) ∨
 (p<l.length∧l.getD p 0=1∧((∃ cd,GAt l (p+1) 0 0 cd∧cd≠0∧c=cd)∨(∃ d e,GAt l (p+1) d e 0∧1536<d∧c=16) ∨
  (∃ d e cd,GAt l (p+1) d e 0∧d≤1536∧GAt l e 0 0 cd∧cd≠0∧c=cd)∨(∃ d e n e2,GAt l (p+1) d e 0∧d≤1536∧GAt l e n e2 0∧mis<n+2∧c=16)))
def NOk(l:List Nat)(p mis:Nat)(t:Tok)(e:Nat):Prop :=
 (p<l.length∧l.getD p 0=0∧p+9≤l.length∧t=⟨0,0,num ((l.drop (p+1)).take 8)⟩∧e=p+9) ∨
 (p<l.length∧l.getD p 0=1∧∃ d e1 n,GAt l (p+1) d e1 0∧d≤1536∧GAt l e1 n e 0∧n+2≤mis∧t=⟨(d:Nat),((n+2:Nat):Int),0⟩)
theorem gat_end{l:List Nat}{f v e:Nat}(h:GAt l f v e 0):e≤l.length∧f<e:=by
 rcases h with⟨_,_,_,h3⟩|⟨_,_,_,_,h3⟩|⟨h1,h2,_,rfl,_⟩
 ·cases h3
 ·cases h3
 ·exact⟨h2,by omega⟩
theorem gat_val{l:List Nat}{f v e c:Nat}(h01:Is01 l)(h:GAt l f v e c):v<2147483648:=by
 rcases h with⟨_,rfl,_⟩|⟨_,_,rfl,_⟩|⟨h1,_,rfl,_⟩
 ·decide
 ·decide
 ·have a:=num_lt ((h01.drop (f+zr l f)).take (zr l f+1));have b:2 ^ ((l.drop (f+zr l f)).take (zr l f+1)).length≤2 ^ 31:=Nat.pow_le_pow_right (by decide) (by rw[List.length_take];omega);omega
theorem gat_pos{l:List Nat}{f v e:Nat}(h01:Is01 l)(h:GAt l f v e 0):1≤v:=by
 rcases h with⟨_,_,_,h3⟩|⟨_,_,_,_,h3⟩|⟨h1,h2,rfl,_,_⟩
 ·cases h3
 ·cases h3
 ·have hz:=zr_stop l f (by omega);have h1:=h01 (f+zr l f);have hd:(l.drop (f+zr l f)).take (zr l f+1)=l.getD (f+zr l f) 0::(l.drop (f+zr l f+1)).take (zr l f):=by
   rw[List.drop_eq_getElem_cons (by omega),List.take_succ_cons,kbf7 (by omega)]
  rw[hd];have e1:l.getD (f+zr l f) 0=1:=by omega
  rw[e1,khq7];have:=Nat.two_pow_pos ((l.drop (f+zr l f+1)).take (zr l f)).length;omega
theorem next_ex{l:List Nat}(h01:Is01 l)(p mis:Nat)(hp:p≤l.length):(∃ c,NBad l p mis c)∨∃ t e,NOk l p mis t e:=by
 rcases Nat.lt_or_ge p l.length with h1|h1
 ·rcases(by have:=h01 p;omega:l.getD p 0=0∨l.getD p 0=1) with h2|h2
  ·rcases Nat.lt_or_ge l.length (p+9) with h3|h3
   ·exact .inl ⟨15,.inr (.inl ⟨h1,h2,h3,rfl⟩)⟩
   ·exact .inr ⟨_,_,.inl ⟨h1,h2,h3,rfl,rfl⟩⟩
  ·obtain⟨d,e,c,hg⟩:=gat_ex l (p+1);by_cases hc:c=0
   ·subst hc;by_cases hd:d≤1536
    ·obtain⟨n,e2,c2,hg2⟩:=gat_ex l e;by_cases hc2:c2=0
     ·subst hc2;by_cases hm:n+2≤mis
      ·exact .inr ⟨_,e2,.inr ⟨h1,h2,d,e,n,hg,hd,hg2,hm,rfl⟩⟩
      ·exact .inl ⟨16,.inr (.inr ⟨h1,h2,.inr (.inr (.inr ⟨d,e,n,e2,hg,hd,hg2,by omega,rfl⟩))⟩)⟩
     ·have hz:GAt l e 0 0 c2:=by
       rcases hg2 with⟨a,rfl,rfl,b⟩|⟨a,b,rfl,rfl,c⟩|⟨_,_,_,_,a⟩
       ·exact .inl ⟨a,rfl,rfl,b⟩
       ·exact .inr (.inl ⟨a,b,rfl,rfl,c⟩)
       ·exact absurd a hc2
      exact .inl ⟨c2,.inr (.inr ⟨h1,h2,.inr (.inr (.inl ⟨d,e,c2,hg,hd,hz,hc2,rfl⟩))⟩)⟩
    ·exact .inl ⟨16,.inr (.inr ⟨h1,h2,.inr (.inl ⟨d,e,hg,by omega,rfl⟩)⟩)⟩
   ·have hz:GAt l (p+1) 0 0 c:=by
     rcases hg with⟨a,rfl,rfl,b⟩|⟨a,b,rfl,rfl,c⟩|⟨_,_,_,_,a⟩
     ·exact .inl ⟨a,rfl,rfl,b⟩
     ·exact .inr (.inl ⟨a,b,rfl,rfl,c⟩)
     ·exact absurd a hc
    exact .inl ⟨c,.inr (.inr ⟨h1,h2,.inl ⟨c,hz,hc,rfl⟩⟩)⟩
 ·exact .inl ⟨15,.inl ⟨h1,rfl⟩⟩
theorem kib7{l:List Nat}{p:Nat}(h:p<l.length):num ((l.drop p).take 1)=l.getD p 0:=by
 rw[List.drop_eq_getElem_cons h,List.take_succ_cons,List.take_zero,kbf7 h];simp[num]
theorem rd_ok{A:Option Addr}{n c:Nat}{l:List Nat}{f m:Nat}{fi mi:Int}{w:World}(h:Rd w A n c (bcells (pack l)))(h01:Is01 l)(hl:l.length≤131072)(hm:m≤32)(hf:f+m≤l.length)(hfi:fi=(f:Nat))(hmi:mi=(m:Nat))(v:Nat)(hv:v=num ((l.drop f).take m)) :
  Calls Tryz.prog 148 #[.agg #[.slice A n c,.int .i64 l.length],.int .i64 fi,.int .i64 mi] w fun e w'=>e=.returned (.tuple #[.int .i64 (v:Nat),.agg #[.int .i64 0,.int .i64 0]])∧Below w.heap.size w w':=by
 subst hfi hmi hv;exact read_ok A n c l f m _ w h (Nat.le_refl _) h01 hl hm hf
theorem Rd.keepBox{w:World}{A:Option Addr}{n c g:Nat}{xs:List Value}(h:Rd w A n c xs)(hA:∀ b off,A=some ⟨b,off,none⟩→0<n→b<g)(u0 u1:Value):Rd ((w.setCell ⟨g,0,none⟩ u0).setCell ⟨g,1,none⟩ u1) A n c xs:=by
 obtain⟨h1,h2,h3,h4⟩:=h;refine⟨h1,h2,h3,fun hn=>?_⟩;obtain⟨b,off,e,hb,hc⟩:=h4 hn;have hlt:=hA b off e hn;refine⟨b,off,e,by simpa [World.setCell] using hb,fun j u hu=>?_⟩;rw[World.cell?_setCell_other _ _ _ _ (fun e=>by injection e with e;omega),World.cell?_setCell_other _ _ _ _ (fun e=>by injection e with e;omega)];exact hc j u hu
theorem rg2_bad{A:Option Addr}{n c:Nat}{l:List Nat}{f cd:Nat}{fi:Int}{w:World}(h:Rd w A n c (bcells (pack l)))(h01:Is01 l)(hl:l.length≤131072)(hf:f≤l.length)(hG:GAt l f 0 0 cd)(hc:cd≠0)(hfi:fi=(f:Nat)) :
  Calls Tryz.prog 162 #[.agg #[.slice A n c,.int .i64 l.length],.int .i64 fi] w fun e w'=>e=.returned (.tuple #[.int .i64 0,.int .i64 0,.agg #[.int .i64 (cd:Nat),.int .i64 (-2)]])∧Below w.heap.size w w':=by
 subst hfi;exact rg_bad h h01 hl hf hG hc
theorem rg2_ok{A:Option Addr}{n c:Nat}{l:List Nat}{f v e1:Nat}{fi:Int}{w:World}(h:Rd w A n c (bcells (pack l)))(h01:Is01 l)(hl:l.length≤131072)(hf:f≤l.length)(hG:GAt l f v e1 0)(hfi:fi=(f:Nat)) :
  Calls Tryz.prog 162 #[.agg #[.slice A n c,.int .i64 l.length],.int .i64 fi] w fun e w'=>e=.returned (.tuple #[.int .i64 (v:Nat),.int .i64 (e1:Nat),.agg #[.int .i64 0,.int .i64 0]])∧Below w.heap.size w w':=by
 subst hfi;exact rg_ok h h01 hl hf hG
theorem rd_short{A:Option Addr}{n c:Nat}{l:List Nat}{f m:Nat}{fi mi:Int}{w:World}(h:Rd w A n c (bcells (pack l)))(h01:Is01 l)(hl:l.length≤131072)(hm:m≤32)(hf1:f≤l.length)(hf:l.length<f+m)(hfi:fi=(f:Nat))(hmi:mi=(m:Nat)) :
  Calls Tryz.prog 148 #[.agg #[.slice A n c,.int .i64 l.length],.int .i64 fi,.int .i64 mi] w fun e w'=>e=.returned (.tuple #[.int .i64 0,.agg #[.int .i64 15,.int .i64 (-2)]])∧Below w.heap.size w w':=by
 subst hfi hmi;exact read_short A n c l f m _ w h (Nat.le_refl _) h01 hl (by omega) (by omega) (by omega) (by omega) (by omega)
theorem next_none{A:Option Addr}{n c:Nat}{l:List Nat}{p mis:Nat}(hp1:p≤l.length)(hp:l.length≤p){w:World}(h:Rd w A n c (bcells (pack l)))(h01:Is01 l)(hl:l.length≤131072)(hmis:mis≤1024) :
  Calls Tryz.prog 156 #[.agg #[.slice A n c,.int .i64 l.length],.int .i64 (p:Nat),.int .i64 (mis:Nat)] w fun e w'=>e=.returned (.tuple #[.agg #[.int .i64 0,.int .i64 0,.int .u8 0],.int .i64 0,.int .i64 15])∧Below w.heap.size w w':=by
 have X0:=(Two.new w 70 (.slice A n c) (.int .i64 l.length)).alloc (.cells #[.int .i64 0,.int .i64 0,.int .u8 0] 79);have T0:=Three.new1 w (.cells #[.slice A n c,.int .i64 l.length] 70) 79 (.int .i64 0) (.int .i64 0) (.int .u8 0);have y0:Below w.heap.size w ((w.alloc (.cells #[.slice A n c,.int .i64 l.length] 70)).alloc (.cells #[.int .i64 0,.int .i64 0,.int .u8 0] 79)):=((Below.refl _ _).alloc (Nat.le_refl _) _).alloc (by simp) _;have R0:=(h.alloc (.cells #[.slice A n c,.int .i64 l.length] 70)).alloc (.cells #[.int .i64 0,.int .i64 0,.int .u8 0] 79);have H01:=Lib.hid h01;clear h01 h
 go_enter Tryz.func156,Tryz.ntmps156
 go_wp2_with fail
 refine(rd_short (f:=p) (m:=1) R0 H01.out hl (by decide) hp1 (by omega) rfl rfl).mono ?_;rintro e w1 ⟨rfl,y1⟩;have X1:=(X0.on y1).alloc (.cells #[.int .i64 15,.int .i64 (-2)] 24);have T1:=(T0.on y1).alloc (.cells #[.int .i64 15,.int .i64 (-2)] 24);have R1:=(R0.on y1).alloc (.cells #[.int .i64 15,.int .i64 (-2)] 24);have Z1:=y0.trans (y1.mono y0.size);have Y1:=Z1.alloc Z1.size (.cells #[.int .i64 15,.int .i64 (-2)] 24);have F1:=Two.new w1 24 (.int .i64 15) (.int .i64 (-2));have g0:=F1.c0;have g1:=F1.c1;have t0:=T1.c0;have t1:=T1.c1;have t2:=T1.c2;have t3:=T1.f0;have t4:=T1.f1;have t5:=T1.f2;have t6:=T1.lt
 go_wp2
 have r0:=(((T1.set0 (.int .i64 0)).set1 (.int .i64 0)).set2 (.int .u8 0)).c0;have r1:=(((T1.set0 (.int .i64 0)).set1 (.int .i64 0)).set2 (.int .u8 0)).c1;have r2:=(((T1.set0 (.int .i64 0)).set1 (.int .i64 0)).set2 (.int .u8 0)).c2;exact bodyPost_ret (v:=.tuple #[.agg #[.int .i64 0,.int .i64 0,.int .u8 0],.int .i64 0,.int .i64 15]) (by simp[results,Tryz.results156,go_sem,r0,r1,r2]) rfl ⟨rfl,(((Y1.setCell (by simp) _).setCell (by simp) _).setCell (by simp) _)⟩
theorem next_cut{A:Option Addr}{n c:Nat}{l:List Nat}{p mis:Nat}(hp:p<l.length)(hbit:l.getD p 0=0)(h9:l.length<p+9){w:World}(h:Rd w A n c (bcells (pack l)))(h01:Is01 l)(hl:l.length≤131072)(hmis:mis≤1024) :
  Calls Tryz.prog 156 #[.agg #[.slice A n c,.int .i64 l.length],.int .i64 (p:Nat),.int .i64 (mis:Nat)] w fun e w'=>e=.returned (.tuple #[.agg #[.int .i64 0,.int .i64 0,.int .u8 0],.int .i64 ((p:Int)+9),.int .i64 15])∧Below w.heap.size w w':=by
 have X0:=(Two.new w 70 (.slice A n c) (.int .i64 l.length)).alloc (.cells #[.int .i64 0,.int .i64 0,.int .u8 0] 79);have T0:=Three.new1 w (.cells #[.slice A n c,.int .i64 l.length] 70) 79 (.int .i64 0) (.int .i64 0) (.int .u8 0);have y0:Below w.heap.size w ((w.alloc (.cells #[.slice A n c,.int .i64 l.length] 70)).alloc (.cells #[.int .i64 0,.int .i64 0,.int .u8 0] 79)):=((Below.refl _ _).alloc (Nat.le_refl _) _).alloc (by simp) _;have R0:=(h.alloc (.cells #[.slice A n c,.int .i64 l.length] 70)).alloc (.cells #[.int .i64 0,.int .i64 0,.int .u8 0] 79);have H01:=Lib.hid h01;clear h01 h;have HB:=Lib.hid hbit;clear hbit
 go_enter Tryz.func156,Tryz.ntmps156
 go_wp2_with fail
 refine(rd_ok (f:=p) (m:=1) R0 H01.out hl (by decide) (by omega) rfl rfl 0 (by rw[kib7 hp,HB.out])).mono ?_;rintro e w1 ⟨rfl,y1⟩;have X1:=(X0.on y1).alloc (.cells #[.int .i64 0,.int .i64 0] 24);have T1:=(T0.on y1).alloc (.cells #[.int .i64 0,.int .i64 0] 24);have R1:=(R0.on y1).alloc (.cells #[.int .i64 0,.int .i64 0] 24);have Z1:=y0.trans (y1.mono y0.size);have Y1:=Z1.alloc Z1.size (.cells #[.int .i64 0,.int .i64 0] 24);have F1:=Two.new w1 24 (.int .i64 0) (.int .i64 0);have g0:=F1.c0;have g1:=F1.c1;have x0:=X1.c0;have x1:=X1.c1
 go_wp2_with fail
 refine(rd_short (f:=p+1) (m:=8) R1 H01.out hl (by decide) (by omega) (by omega) (by omega) rfl).mono ?_;rintro e w2 ⟨rfl,y2⟩;have X2:=(X1.on y2).alloc (.cells #[.int .i64 15,.int .i64 (-2)] 24);have T2:=(T1.on y2).alloc (.cells #[.int .i64 15,.int .i64 (-2)] 24);have R2:=(R1.on y2).alloc (.cells #[.int .i64 15,.int .i64 (-2)] 24);have Z2:=Y1.trans (y2.mono Y1.size);have Y2:=Z2.alloc Z2.size (.cells #[.int .i64 15,.int .i64 (-2)] 24);have F2:=Two.new w2 24 (.int .i64 15) (.int .i64 (-2));have j0:=F2.c0;have j1:=F2.c1;clear x0 x1 g0 g1;have t0:=T2.c0;have t1:=T2.c1;have t2:=T2.c2;have t3:=T2.f0;have t4:=T2.f1;have t5:=T2.f2;have t6:=T2.lt;have e1:¬w2.heap.size=w.heap.size+1:=by have:=T1.lt;have:=y2.size;omega
 have e2:¬w.heap.size+1=w2.heap.size:=fun e=>e1 e.symm;have u0:IntKind.i64.wrap ((p:Int)+9)=(p:Int)+9:=IntWalk.i64_in _ (by omega)
 go_upto_region 6 with(fail)
 go_region
 clear u0
 go_wp2
 have r0:=(((T2.set0 (.int .i64 0)).set1 (.int .i64 0)).set2 (.int .u8 0)).c0;have r1:=(((T2.set0 (.int .i64 0)).set1 (.int .i64 0)).set2 (.int .u8 0)).c1;have r2:=(((T2.set0 (.int .i64 0)).set1 (.int .i64 0)).set2 (.int .u8 0)).c2;exact bodyPost_ret (v:=.tuple #[.agg #[.int .i64 0,.int .i64 0,.int .u8 0],.int .i64 ((p:Int)+9),.int .i64 15]) (by simp[results,Tryz.results156,go_sem,r0,r1,r2]) rfl ⟨rfl,belowD (((Y2.setCell (by simp) _).setCell (by simp) _).setCell (by simp) _)⟩
theorem next_lit{A:Option Addr}{n c:Nat}{l:List Nat}{p mis:Nat}(hp:p<l.length)(hbit:l.getD p 0=0)(h9:p+9≤l.length)(v:Nat)(hv:v=num ((l.drop (p+1)).take 8))(hv256:v<256){w:World}(h:Rd w A n c (bcells (pack l)))(h01:Is01 l)(hl:l.length≤131072)(hmis:mis≤1024) :
  Calls Tryz.prog 156 #[.agg #[.slice A n c,.int .i64 l.length],.int .i64 (p:Nat),.int .i64 (mis:Nat)] w fun e w'=>e=.returned (.tuple #[.agg #[.int .i64 0,.int .i64 0,.int .u8 ((v:Nat):Int)],.int .i64 ((p:Int)+9),.int .i64 0])∧Below w.heap.size w w':=by
 have X0:=(Two.new w 70 (.slice A n c) (.int .i64 l.length)).alloc (.cells #[.int .i64 0,.int .i64 0,.int .u8 0] 79);have T0:=Three.new1 w (.cells #[.slice A n c,.int .i64 l.length] 70) 79 (.int .i64 0) (.int .i64 0) (.int .u8 0);have y0:Below w.heap.size w ((w.alloc (.cells #[.slice A n c,.int .i64 l.length] 70)).alloc (.cells #[.int .i64 0,.int .i64 0,.int .u8 0] 79)):=((Below.refl _ _).alloc (Nat.le_refl _) _).alloc (by simp) _;have R0:=(h.alloc (.cells #[.slice A n c,.int .i64 l.length] 70)).alloc (.cells #[.int .i64 0,.int .i64 0,.int .u8 0] 79);have H01:=Lib.hid h01;clear h01 h;have HB:=Lib.hid hbit;clear hbit;have HV:=Lib.hid hv;clear hv
 go_enter Tryz.func156,Tryz.ntmps156
 go_wp2_with fail
 refine(rd_ok (f:=p) (m:=1) R0 H01.out hl (by decide) (by omega) rfl rfl 0 (by rw[kib7 hp,HB.out])).mono ?_;rintro e w1 ⟨rfl,y1⟩;have X1:=(X0.on y1).alloc (.cells #[.int .i64 0,.int .i64 0] 24);have T1:=(T0.on y1).alloc (.cells #[.int .i64 0,.int .i64 0] 24);have R1:=(R0.on y1).alloc (.cells #[.int .i64 0,.int .i64 0] 24);have Z1:=y0.trans (y1.mono y0.size);have Y1:=Z1.alloc Z1.size (.cells #[.int .i64 0,.int .i64 0] 24);have F1:=Two.new w1 24 (.int .i64 0) (.int .i64 0);have g0:=F1.c0;have g1:=F1.c1;have x0:=X1.c0;have x1:=X1.c1
 go_wp2_with fail
 refine(rd_ok (f:=p+1) (m:=8) R1 H01.out hl (by decide) (by omega) (by omega) rfl v HV.out).mono ?_;rintro e w2 ⟨rfl,y2⟩;have X2:=(X1.on y2).alloc (.cells #[.int .i64 0,.int .i64 0] 24);have T2:=(T1.on y2).alloc (.cells #[.int .i64 0,.int .i64 0] 24);have R2:=(R1.on y2).alloc (.cells #[.int .i64 0,.int .i64 0] 24);have Z2:=Y1.trans (y2.mono Y1.size);have Y2:=Z2.alloc Z2.size (.cells #[.int .i64 0,.int .i64 0] 24);have F2:=Two.new w2 24 (.int .i64 0) (.int .i64 0);have j0:=F2.c0;have j1:=F2.c1;clear x0 x1 g0 g1;have t0:=T2.c0;have t1:=T2.c1;have t2:=T2.c2;have t3:=T2.f0;have t4:=T2.f1;have t5:=T2.f2;have t6:=T2.lt;have e1:¬w2.heap.size=w.heap.size+1:=by have:=T1.lt;have:=y2.size;omega
 have e2:¬w.heap.size+1=w2.heap.size:=fun e=>e1 e.symm;have u0:IntKind.i64.wrap ((p:Int)+9)=(p:Int)+9:=IntWalk.i64_in _ (by omega);have u1:IntKind.u8.wrap ((v:Nat):Int)=((v:Nat):Int):=by have:=hv256;rw[IntKind.wrap_u8];omega
 go_upto_region 6 with(fail)
 go_region
 clear u0 u1
 go_wp2
 have r0:=(((T2.set0 (.int .i64 0)).set1 (.int .i64 0)).set2 (.int .u8 ((v:Nat):Int))).c0;have r1:=(((T2.set0 (.int .i64 0)).set1 (.int .i64 0)).set2 (.int .u8 ((v:Nat):Int))).c1;have r2:=(((T2.set0 (.int .i64 0)).set1 (.int .i64 0)).set2 (.int .u8 ((v:Nat):Int))).c2;exact bodyPost_ret (v:=.tuple #[.agg #[.int .i64 0,.int .i64 0,.int .u8 ((v:Nat):Int)],.int .i64 ((p:Int)+9),.int .i64 0]) (by simp[results,Tryz.results156,go_sem,r0,r1,r2]) rfl ⟨rfl,belowD (((Y2.setCell (by simp) _).setCell (by simp) _).setCell (by simp) _)⟩
theorem next_nog{A:Option Addr}{n c:Nat}{l:List Nat}{p mis:Nat}{cd:Nat}(hp:p<l.length)(hbit:l.getD p 0=1)(hG:GAt l (p+1) 0 0 cd)(hc1:cd≠0){w:World}(h:Rd w A n c (bcells (pack l)))(h01:Is01 l)(hl:l.length≤131072)(hmis:mis≤1024) :
  Calls Tryz.prog 156 #[.agg #[.slice A n c,.int .i64 l.length],.int .i64 (p:Nat),.int .i64 (mis:Nat)] w fun e w'=>e=.returned (.tuple #[.agg #[.int .i64 0,.int .i64 0,.int .u8 0],.int .i64 0,.int .i64 (cd:Nat)])∧Below w.heap.size w w':=by
 have X0:=(Two.new w 70 (.slice A n c) (.int .i64 l.length)).alloc (.cells #[.int .i64 0,.int .i64 0,.int .u8 0] 79);have T0:=Three.new1 w (.cells #[.slice A n c,.int .i64 l.length] 70) 79 (.int .i64 0) (.int .i64 0) (.int .u8 0);have y0:Below w.heap.size w ((w.alloc (.cells #[.slice A n c,.int .i64 l.length] 70)).alloc (.cells #[.int .i64 0,.int .i64 0,.int .u8 0] 79)):=((Below.refl _ _).alloc (Nat.le_refl _) _).alloc (by simp) _;have R0:=(h.alloc (.cells #[.slice A n c,.int .i64 l.length] 70)).alloc (.cells #[.int .i64 0,.int .i64 0,.int .u8 0] 79);have hA0:∀ b off,A=some ⟨b,off,none⟩→0<n→b<w.heap.size:=fun b off e hn=>by
  obtain⟨b',off',e',hb,_⟩:=h.2.2.2 hn;rw[e] at e';injection e' with e';injection e' with e1;omega
 have H01:=Lib.hid h01;clear h01 h;have HB:=Lib.hid hbit;clear hbit;have HG:=Lib.hid hG;clear hG;have HC:=Lib.hid hc1
 go_enter Tryz.func156,Tryz.ntmps156
 go_wp2_with fail
 refine(rd_ok (f:=p) (m:=1) R0 H01.out hl (by decide) (by omega) rfl rfl 1 (by rw[kib7 hp,HB.out])).mono ?_;rintro e w1 ⟨rfl,y1⟩;have X1:=(X0.on y1).alloc (.cells #[.int .i64 0,.int .i64 0] 24);have T1:=(T0.on y1).alloc (.cells #[.int .i64 0,.int .i64 0] 24);have R1:=(R0.on y1).alloc (.cells #[.int .i64 0,.int .i64 0] 24);have Z1:=y0.trans (y1.mono y0.size);have Y1:=Z1.alloc Z1.size (.cells #[.int .i64 0,.int .i64 0] 24);have F1:=Two.new w1 24 (.int .i64 0) (.int .i64 0);have g0:=F1.c0;have g1:=F1.c1;have x0:=X1.c0;have x1:=X1.c1
 go_wp2_with fail
 refine(rg2_bad R1 H01.out hl (by omega) HG.out HC.out (by omega)).mono ?_;rintro e w2 ⟨rfl,y2⟩;have X2:=X1.on y2;have T2:=T1.on y2;have R2:=R1.on y2;have Z2:=Y1.trans (y2.mono Y1.size);have Y2:=Z2;have F2:=F1.on y2;obtain⟨j0,j1,j2,j3,j4⟩:=F2.facts;clear g0 g1;have e1:¬w1.heap.size=w.heap.size+1:=by have:=T0.lt;have:=y1.size;omega
 have e2:¬w.heap.size+1=w1.heap.size:=fun e=>e1 e.symm;have e3:¬w1.heap.size=w.heap.size:=by have:=X0.lt;have:=y1.size;omega
 have e4:¬w.heap.size=w1.heap.size:=fun e=>e3 e.symm;clear x0 x1;have hA1:∀ b off,A=some ⟨b,off,none⟩→0<n→b<w1.heap.size:=fun b off e hn=>by
  have:=hA0 b off e hn;have:=y0.size;have:=y1.size;omega
 have h1w:w.heap.size≤w1.heap.size:=by have:=y0.size;have:=y1.size;omega
 have X12:=(X2.far (p:=⟨w1.heap.size,0,none⟩) e4 (.int .i64 (cd:Nat))).far (p:=⟨w1.heap.size,1,none⟩) e4 (.int .i64 (-2));have T12:=(T2.far (p:=⟨w1.heap.size,0,none⟩) e2 (.int .i64 (cd:Nat))).far (p:=⟨w1.heap.size,1,none⟩) e2 (.int .i64 (-2));have F12:=(F2.set0 (.int .i64 (cd:Nat))).set1 (.int .i64 (-2));have Y12:=(Y2.setCell (p:=⟨w1.heap.size,0,none⟩) h1w (.int .i64 (cd:Nat))).setCell (p:=⟨w1.heap.size,1,none⟩) h1w (.int .i64 (-2));have R12:=Rd.keepBox (A:=A) R2 hA1 (.int .i64 (cd:Nat)) (.int .i64 (-2))
 go_upto_region 8 with(fail)
 generalize ((w2.setCell ⟨w1.heap.size,0,none⟩ (.int .i64 (cd:Nat))).setCell ⟨w1.heap.size,1,none⟩ (.int .i64 (-2)))=v2 at X12 T12 F12 Y12 R12 ⊢;clear j0 j1 j2 j3 j4;have j0:=F12.c0;have j1:=F12.c1;have t0:=T12.c0;have t1:=T12.c1;have t2:=T12.c2;have t3:=T12.f0;have t4:=T12.f1;have t5:=T12.f2;have t6:=T12.lt;have hnq:=run_neq_flt (cd:Nat) (-2) 0 0 (fun e=>hc1 (by omega))
 go_upto_region 9 with(fail)
 go_region
 go_wp2
 have r0:=(((T12.set0 (.int .i64 0)).set1 (.int .i64 0)).set2 (.int .u8 0)).c0;have r1:=(((T12.set0 (.int .i64 0)).set1 (.int .i64 0)).set2 (.int .u8 0)).c1;have r2:=(((T12.set0 (.int .i64 0)).set1 (.int .i64 0)).set2 (.int .u8 0)).c2;exact bodyPost_ret (v:=.tuple #[.agg #[.int .i64 0,.int .i64 0,.int .u8 0],.int .i64 0,.int .i64 (cd:Nat)]) (by simp[results,Tryz.results156,go_sem,r0,r1,r2]) rfl ⟨rfl,belowD (((Y12.setCell (by simp) _).setCell (by simp) _).setCell (by simp) _)⟩
theorem next_far{A:Option Addr}{n c:Nat}{l:List Nat}{p mis:Nat}{d e1:Nat}(hp:p<l.length)(hbit:l.getD p 0=1)(hG:GAt l (p+1) d e1 0)(hd:1536<d){w:World}(h:Rd w A n c (bcells (pack l)))(h01:Is01 l)(hl:l.length≤131072)(hmis:mis≤1024) :
  Calls Tryz.prog 156 #[.agg #[.slice A n c,.int .i64 l.length],.int .i64 (p:Nat),.int .i64 (mis:Nat)] w fun e w'=>e=.returned (.tuple #[.agg #[.int .i64 0,.int .i64 0,.int .u8 0],.int .i64 0,.int .i64 16])∧Below w.heap.size w w':=by
 have X0:=(Two.new w 70 (.slice A n c) (.int .i64 l.length)).alloc (.cells #[.int .i64 0,.int .i64 0,.int .u8 0] 79);have T0:=Three.new1 w (.cells #[.slice A n c,.int .i64 l.length] 70) 79 (.int .i64 0) (.int .i64 0) (.int .u8 0);have y0:Below w.heap.size w ((w.alloc (.cells #[.slice A n c,.int .i64 l.length] 70)).alloc (.cells #[.int .i64 0,.int .i64 0,.int .u8 0] 79)):=((Below.refl _ _).alloc (Nat.le_refl _) _).alloc (by simp) _;have R0:=(h.alloc (.cells #[.slice A n c,.int .i64 l.length] 70)).alloc (.cells #[.int .i64 0,.int .i64 0,.int .u8 0] 79);have hA0:∀ b off,A=some ⟨b,off,none⟩→0<n→b<w.heap.size:=fun b off e hn=>by
  obtain⟨b',off',e',hb,_⟩:=h.2.2.2 hn;rw[e] at e';injection e' with e';injection e' with e1;omega
 have H01:=Lib.hid h01;clear h01 h;have HB:=Lib.hid hbit;clear hbit;have HG:=Lib.hid hG;clear hG
 go_enter Tryz.func156,Tryz.ntmps156
 go_wp2_with fail
 refine(rd_ok (f:=p) (m:=1) R0 H01.out hl (by decide) (by omega) rfl rfl 1 (by rw[kib7 hp,HB.out])).mono ?_;rintro e w1 ⟨rfl,y1⟩;have X1:=(X0.on y1).alloc (.cells #[.int .i64 0,.int .i64 0] 24);have T1:=(T0.on y1).alloc (.cells #[.int .i64 0,.int .i64 0] 24);have R1:=(R0.on y1).alloc (.cells #[.int .i64 0,.int .i64 0] 24);have Z1:=y0.trans (y1.mono y0.size);have Y1:=Z1.alloc Z1.size (.cells #[.int .i64 0,.int .i64 0] 24);have F1:=Two.new w1 24 (.int .i64 0) (.int .i64 0);have g0:=F1.c0;have g1:=F1.c1;have x0:=X1.c0;have x1:=X1.c1
 go_wp2_with fail
 refine(rg2_ok R1 H01.out hl (by omega) HG.out (by omega)).mono ?_;rintro e w2 ⟨rfl,y2⟩;have X2:=X1.on y2;have T2:=T1.on y2;have R2:=R1.on y2;have Z2:=Y1.trans (y2.mono Y1.size);have Y2:=Z2;have F2:=F1.on y2;obtain⟨j0,j1,j2,j3,j4⟩:=F2.facts;clear g0 g1;have e1:¬w1.heap.size=w.heap.size+1:=by have:=T0.lt;have:=y1.size;omega
 have e2:¬w.heap.size+1=w1.heap.size:=fun e=>e1 e.symm;have e3:¬w1.heap.size=w.heap.size:=by have:=X0.lt;have:=y1.size;omega
 have e4:¬w.heap.size=w1.heap.size:=fun e=>e3 e.symm;clear x0 x1;have hA1:∀ b off,A=some ⟨b,off,none⟩→0<n→b<w1.heap.size:=fun b off e hn=>by
  have:=hA0 b off e hn;have:=y0.size;have:=y1.size;omega
 have h1w:w.heap.size≤w1.heap.size:=by have:=y0.size;have:=y1.size;omega
 have X12:=(X2.far (p:=⟨w1.heap.size,0,none⟩) e4 (.int .i64 0)).far (p:=⟨w1.heap.size,1,none⟩) e4 (.int .i64 0);have T12:=(T2.far (p:=⟨w1.heap.size,0,none⟩) e2 (.int .i64 0)).far (p:=⟨w1.heap.size,1,none⟩) e2 (.int .i64 0);have F12:=(F2.set0 (.int .i64 0)).set1 (.int .i64 0);have Y12:=(Y2.setCell (p:=⟨w1.heap.size,0,none⟩) h1w (.int .i64 0)).setCell (p:=⟨w1.heap.size,1,none⟩) h1w (.int .i64 0);have R12:=Rd.keepBox (A:=A) R2 hA1 (.int .i64 0) (.int .i64 0)
 go_upto_region 8 with(fail)
 generalize ((w2.setCell ⟨w1.heap.size,0,none⟩ (.int .i64 0)).setCell ⟨w1.heap.size,1,none⟩ (.int .i64 0))=v2 at X12 T12 F12 Y12 R12 ⊢;clear j0 j1 j2 j3 j4;have j0:=F12.c0;have j1:=F12.c1;have t0:=T12.c0;have t1:=T12.c1;have t2:=T12.c2;have t3:=T12.f0;have t4:=T12.f1;have t5:=T12.f2;have t6:=T12.lt
 go_wp2
 have r0:=(((T12.set0 (.int .i64 0)).set1 (.int .i64 0)).set2 (.int .u8 0)).c0;have r1:=(((T12.set0 (.int .i64 0)).set1 (.int .i64 0)).set2 (.int .u8 0)).c1;have r2:=(((T12.set0 (.int .i64 0)).set1 (.int .i64 0)).set2 (.int .u8 0)).c2;exact bodyPost_ret (v:=.tuple #[.agg #[.int .i64 0,.int .i64 0,.int .u8 0],.int .i64 0,.int .i64 16]) (by simp[results,Tryz.results156,go_sem,r0,r1,r2]) rfl ⟨rfl,(((Y12.setCell (by simp) _).setCell (by simp) _).setCell (by simp) _)⟩
theorem next_nog2{A:Option Addr}{n c:Nat}{l:List Nat}{p mis:Nat}{d e1 cd:Nat}(hp:p<l.length)(hbit:l.getD p 0=1)(hG:GAt l (p+1) d e1 0)(hd:d≤1536)(hG2:GAt l e1 0 0 cd)(hc1:cd≠0){w:World}(h:Rd w A n c (bcells (pack l)))(h01:Is01 l)(hl:l.length≤131072)(hmis:mis≤1024) :
  Calls Tryz.prog 156 #[.agg #[.slice A n c,.int .i64 l.length],.int .i64 (p:Nat),.int .i64 (mis:Nat)] w fun e w'=>e=.returned (.tuple #[.agg #[.int .i64 0,.int .i64 0,.int .u8 0],.int .i64 0,.int .i64 (cd:Nat)])∧Below w.heap.size w w':=by
 have X0:=(Two.new w 70 (.slice A n c) (.int .i64 l.length)).alloc (.cells #[.int .i64 0,.int .i64 0,.int .u8 0] 79);have T0:=Three.new1 w (.cells #[.slice A n c,.int .i64 l.length] 70) 79 (.int .i64 0) (.int .i64 0) (.int .u8 0);have y0:Below w.heap.size w ((w.alloc (.cells #[.slice A n c,.int .i64 l.length] 70)).alloc (.cells #[.int .i64 0,.int .i64 0,.int .u8 0] 79)):=((Below.refl _ _).alloc (Nat.le_refl _) _).alloc (by simp) _;have R0:=(h.alloc (.cells #[.slice A n c,.int .i64 l.length] 70)).alloc (.cells #[.int .i64 0,.int .i64 0,.int .u8 0] 79);have hA0:∀ b off,A=some ⟨b,off,none⟩→0<n→b<w.heap.size:=fun b off e hn=>by
  obtain⟨b',off',e',hb,_⟩:=h.2.2.2 hn;rw[e] at e';injection e' with e';injection e' with e1;omega
 have H01:=Lib.hid h01;clear h01 h;have HB:=Lib.hid hbit;clear hbit;have HG:=Lib.hid hG;clear hG;have hge:=(gat_end HG.out).1;have HG2:=Lib.hid hG2;clear hG2;have HC:=Lib.hid hc1
 go_enter Tryz.func156,Tryz.ntmps156
 go_wp2_with fail
 refine(rd_ok (f:=p) (m:=1) R0 H01.out hl (by decide) (by omega) rfl rfl 1 (by rw[kib7 hp,HB.out])).mono ?_;rintro e w1 ⟨rfl,y1⟩;have X1:=(X0.on y1).alloc (.cells #[.int .i64 0,.int .i64 0] 24);have T1:=(T0.on y1).alloc (.cells #[.int .i64 0,.int .i64 0] 24);have R1:=(R0.on y1).alloc (.cells #[.int .i64 0,.int .i64 0] 24);have Z1:=y0.trans (y1.mono y0.size);have Y1:=Z1.alloc Z1.size (.cells #[.int .i64 0,.int .i64 0] 24);have F1:=Two.new w1 24 (.int .i64 0) (.int .i64 0);have g0:=F1.c0;have g1:=F1.c1;have x0:=X1.c0;have x1:=X1.c1
 go_wp2_with fail
 refine(rg2_ok R1 H01.out hl (by omega) HG.out (by omega)).mono ?_;rintro e w2 ⟨rfl,y2⟩;have X2:=X1.on y2;have T2:=T1.on y2;have R2:=R1.on y2;have Z2:=Y1.trans (y2.mono Y1.size);have Y2:=Z2;have F2:=F1.on y2;obtain⟨j0,j1,j2,j3,j4⟩:=F2.facts;clear g0 g1;have e1:¬w1.heap.size=w.heap.size+1:=by have:=T0.lt;have:=y1.size;omega
 have e2:¬w.heap.size+1=w1.heap.size:=fun e=>e1 e.symm;have e3:¬w1.heap.size=w.heap.size:=by have:=X0.lt;have:=y1.size;omega
 have e4:¬w.heap.size=w1.heap.size:=fun e=>e3 e.symm;clear x0 x1;have hA1:∀ b off,A=some ⟨b,off,none⟩→0<n→b<w1.heap.size:=fun b off e hn=>by
  have:=hA0 b off e hn;have:=y0.size;have:=y1.size;omega
 have h1w:w.heap.size≤w1.heap.size:=by have:=y0.size;have:=y1.size;omega
 have X12:=(X2.far (p:=⟨w1.heap.size,0,none⟩) e4 (.int .i64 0)).far (p:=⟨w1.heap.size,1,none⟩) e4 (.int .i64 0);have T12:=(T2.far (p:=⟨w1.heap.size,0,none⟩) e2 (.int .i64 0)).far (p:=⟨w1.heap.size,1,none⟩) e2 (.int .i64 0);have F12:=(F2.set0 (.int .i64 0)).set1 (.int .i64 0);have Y12:=(Y2.setCell (p:=⟨w1.heap.size,0,none⟩) h1w (.int .i64 0)).setCell (p:=⟨w1.heap.size,1,none⟩) h1w (.int .i64 0);have R12:=Rd.keepBox (A:=A) R2 hA1 (.int .i64 0) (.int .i64 0)
 go_upto_region 8 with(fail)
 generalize ((w2.setCell ⟨w1.heap.size,0,none⟩ (.int .i64 0)).setCell ⟨w1.heap.size,1,none⟩ (.int .i64 0))=v2 at X12 T12 F12 Y12 R12 ⊢;clear j0 j1 j2 j3 j4;have j0:=F12.c0;have j1:=F12.c1;have x0:=X12.c0;have x1:=X12.c1
 go_wp2_with fail
 refine(rg2_bad R12 H01.out hl hge HG2.out HC.out (by omega)).mono ?_;rintro e w3 ⟨rfl,y3⟩;have X3:=X12.on y3;have T3:=T12.on y3;have F3:=F12.on y3;have Y3:=Y12.trans (y3.mono Y12.size);clear j0 j1 x0 x1;obtain⟨j0,j1,j2,j3,j4⟩:=F3.facts;have X13:=(X3.far (p:=⟨w1.heap.size,0,none⟩) e4 (.int .i64 (cd:Nat))).far (p:=⟨w1.heap.size,1,none⟩) e4 (.int .i64 (-2));have T13:=(T3.far (p:=⟨w1.heap.size,0,none⟩) e2 (.int .i64 (cd:Nat))).far (p:=⟨w1.heap.size,1,none⟩) e2 (.int .i64 (-2));have F13:=(F3.set0 (.int .i64 (cd:Nat))).set1 (.int .i64 (-2));have Y13:=(Y3.setCell (p:=⟨w1.heap.size,0,none⟩) h1w (.int .i64 (cd:Nat))).setCell (p:=⟨w1.heap.size,1,none⟩) h1w (.int .i64 (-2))
 go_upto_region 13 with(fail)
 generalize ((w3.setCell ⟨w1.heap.size,0,none⟩ (.int .i64 (cd:Nat))).setCell ⟨w1.heap.size,1,none⟩ (.int .i64 (-2)))=v3 at X13 T13 F13 Y13 ⊢;clear j0 j1 j2 j3 j4;have j0:=F13.c0;have j1:=F13.c1;have t0:=T13.c0;have t1:=T13.c1;have t2:=T13.c2;have t3:=T13.f0;have t4:=T13.f1;have t5:=T13.f2;have t6:=T13.lt;have hnq:=run_neq_flt (cd:Nat) (-2) 0 0 (fun e=>hc1 (by omega))
 go_upto_region 14 with(fail)
 go_region
 go_wp2
 have r0:=(((T13.set0 (.int .i64 0)).set1 (.int .i64 0)).set2 (.int .u8 0)).c0;have r1:=(((T13.set0 (.int .i64 0)).set1 (.int .i64 0)).set2 (.int .u8 0)).c1;have r2:=(((T13.set0 (.int .i64 0)).set1 (.int .i64 0)).set2 (.int .u8 0)).c2;exact bodyPost_ret (v:=.tuple #[.agg #[.int .i64 0,.int .i64 0,.int .u8 0],.int .i64 0,.int .i64 (cd:Nat)]) (by simp[results,Tryz.results156,go_sem,r0,r1,r2]) rfl ⟨rfl,belowD (((Y13.setCell (by simp) _).setCell (by simp) _).setCell (by simp) _)⟩
theorem next_long{A:Option Addr}{n c:Nat}{l:List Nat}{p mis:Nat}{d e1 m e9:Nat}(hp:p<l.length)(hbit:l.getD p 0=1)(hG:GAt l (p+1) d e1 0)(hd:d≤1536)(hG2:GAt l e1 m e9 0)(hm:mis<m+2){w:World}(h:Rd w A n c (bcells (pack l)))(h01:Is01 l)(hl:l.length≤131072)(hmis:mis≤1024) :
  Calls Tryz.prog 156 #[.agg #[.slice A n c,.int .i64 l.length],.int .i64 (p:Nat),.int .i64 (mis:Nat)] w fun e w'=>e=.returned (.tuple #[.agg #[.int .i64 0,.int .i64 0,.int .u8 0],.int .i64 0,.int .i64 16])∧Below w.heap.size w w':=by
 have X0:=(Two.new w 70 (.slice A n c) (.int .i64 l.length)).alloc (.cells #[.int .i64 0,.int .i64 0,.int .u8 0] 79);have T0:=Three.new1 w (.cells #[.slice A n c,.int .i64 l.length] 70) 79 (.int .i64 0) (.int .i64 0) (.int .u8 0);have y0:Below w.heap.size w ((w.alloc (.cells #[.slice A n c,.int .i64 l.length] 70)).alloc (.cells #[.int .i64 0,.int .i64 0,.int .u8 0] 79)):=((Below.refl _ _).alloc (Nat.le_refl _) _).alloc (by simp) _;have R0:=(h.alloc (.cells #[.slice A n c,.int .i64 l.length] 70)).alloc (.cells #[.int .i64 0,.int .i64 0,.int .u8 0] 79);have hA0:∀ b off,A=some ⟨b,off,none⟩→0<n→b<w.heap.size:=fun b off e hn=>by
  obtain⟨b',off',e',hb,_⟩:=h.2.2.2 hn;rw[e] at e';injection e' with e';injection e' with e1;omega
 have H01:=Lib.hid h01;clear h01 h;have HB:=Lib.hid hbit;clear hbit;have HG:=Lib.hid hG;clear hG;have hge:=(gat_end HG.out).1;have HG2:=Lib.hid hG2;clear hG2
 go_enter Tryz.func156,Tryz.ntmps156
 have hv1:=gat_val H01.out HG2.out
 go_wp2_with fail
 refine(rd_ok (f:=p) (m:=1) R0 H01.out hl (by decide) (by omega) rfl rfl 1 (by rw[kib7 hp,HB.out])).mono ?_;rintro e w1 ⟨rfl,y1⟩;have X1:=(X0.on y1).alloc (.cells #[.int .i64 0,.int .i64 0] 24);have T1:=(T0.on y1).alloc (.cells #[.int .i64 0,.int .i64 0] 24);have R1:=(R0.on y1).alloc (.cells #[.int .i64 0,.int .i64 0] 24);have Z1:=y0.trans (y1.mono y0.size);have Y1:=Z1.alloc Z1.size (.cells #[.int .i64 0,.int .i64 0] 24);have F1:=Two.new w1 24 (.int .i64 0) (.int .i64 0);have g0:=F1.c0;have g1:=F1.c1;have x0:=X1.c0;have x1:=X1.c1
 go_wp2_with fail
 refine(rg2_ok R1 H01.out hl (by omega) HG.out (by omega)).mono ?_;rintro e w2 ⟨rfl,y2⟩;have X2:=X1.on y2;have T2:=T1.on y2;have R2:=R1.on y2;have Z2:=Y1.trans (y2.mono Y1.size);have Y2:=Z2;have F2:=F1.on y2;obtain⟨j0,j1,j2,j3,j4⟩:=F2.facts;clear g0 g1;have e1:¬w1.heap.size=w.heap.size+1:=by have:=T0.lt;have:=y1.size;omega
 have e2:¬w.heap.size+1=w1.heap.size:=fun e=>e1 e.symm;have e3:¬w1.heap.size=w.heap.size:=by have:=X0.lt;have:=y1.size;omega
 have e4:¬w.heap.size=w1.heap.size:=fun e=>e3 e.symm;clear x0 x1;have hA1:∀ b off,A=some ⟨b,off,none⟩→0<n→b<w1.heap.size:=fun b off e hn=>by
  have:=hA0 b off e hn;have:=y0.size;have:=y1.size;omega
 have h1w:w.heap.size≤w1.heap.size:=by have:=y0.size;have:=y1.size;omega
 have X12:=(X2.far (p:=⟨w1.heap.size,0,none⟩) e4 (.int .i64 0)).far (p:=⟨w1.heap.size,1,none⟩) e4 (.int .i64 0);have T12:=(T2.far (p:=⟨w1.heap.size,0,none⟩) e2 (.int .i64 0)).far (p:=⟨w1.heap.size,1,none⟩) e2 (.int .i64 0);have F12:=(F2.set0 (.int .i64 0)).set1 (.int .i64 0);have Y12:=(Y2.setCell (p:=⟨w1.heap.size,0,none⟩) h1w (.int .i64 0)).setCell (p:=⟨w1.heap.size,1,none⟩) h1w (.int .i64 0);have R12:=Rd.keepBox (A:=A) R2 hA1 (.int .i64 0) (.int .i64 0)
 go_upto_region 8 with(fail)
 generalize ((w2.setCell ⟨w1.heap.size,0,none⟩ (.int .i64 0)).setCell ⟨w1.heap.size,1,none⟩ (.int .i64 0))=v2 at X12 T12 F12 Y12 R12 ⊢;clear j0 j1 j2 j3 j4;have j0:=F12.c0;have j1:=F12.c1;have x0:=X12.c0;have x1:=X12.c1
 go_wp2_with fail
 refine(rg2_ok R12 H01.out hl hge HG2.out (by omega)).mono ?_;rintro e w3 ⟨rfl,y3⟩;have X3:=X12.on y3;have T3:=T12.on y3;have F3:=F12.on y3;have Y3:=Y12.trans (y3.mono Y12.size);clear j0 j1 x0 x1;obtain⟨j0,j1,j2,j3,j4⟩:=F3.facts;have X13:=(X3.far (p:=⟨w1.heap.size,0,none⟩) e4 (.int .i64 0)).far (p:=⟨w1.heap.size,1,none⟩) e4 (.int .i64 0);have T13:=(T3.far (p:=⟨w1.heap.size,0,none⟩) e2 (.int .i64 0)).far (p:=⟨w1.heap.size,1,none⟩) e2 (.int .i64 0);have F13:=(F3.set0 (.int .i64 0)).set1 (.int .i64 0);have Y13:=(Y3.setCell (p:=⟨w1.heap.size,0,none⟩) h1w (.int .i64 0)).setCell (p:=⟨w1.heap.size,1,none⟩) h1w (.int .i64 0)
 go_upto_region 13 with(fail)
 generalize ((w3.setCell ⟨w1.heap.size,0,none⟩ (.int .i64 0)).setCell ⟨w1.heap.size,1,none⟩ (.int .i64 0))=v3 at X13 T13 F13 Y13 ⊢;clear j0 j1 j2 j3 j4;have j0:=F13.c0;have j1:=F13.c1;have t0:=T13.c0;have t1:=T13.c1;have t2:=T13.c2;have t3:=T13.f0;have t4:=T13.f1;have t5:=T13.f2;have t6:=T13.lt
 go_wp2
 have r0:=(((T13.set0 (.int .i64 0)).set1 (.int .i64 0)).set2 (.int .u8 0)).c0;have r1:=(((T13.set0 (.int .i64 0)).set1 (.int .i64 0)).set2 (.int .u8 0)).c1;have r2:=(((T13.set0 (.int .i64 0)).set1 (.int .i64 0)).set2 (.int .u8 0)).c2;exact bodyPost_ret (v:=.tuple #[.agg #[.int .i64 0,.int .i64 0,.int .u8 0],.int .i64 0,.int .i64 16]) (by simp[results,Tryz.results156,go_sem,r0,r1,r2]) rfl ⟨rfl,(((Y13.setCell (by simp) _).setCell (by simp) _).setCell (by simp) _)⟩
theorem next_match{A:Option Addr}{n c:Nat}{l:List Nat}{p mis:Nat}{d e1 m e9:Nat}(hp:p<l.length)(hbit:l.getD p 0=1)(hG:GAt l (p+1) d e1 0)(hd:d≤1536)(hG2:GAt l e1 m e9 0)(hm:m+2≤mis){w:World}(h:Rd w A n c (bcells (pack l)))(h01:Is01 l)(hl:l.length≤131072)(hmis:mis≤1024) :
  Calls Tryz.prog 156 #[.agg #[.slice A n c,.int .i64 l.length],.int .i64 (p:Nat),.int .i64 (mis:Nat)] w fun e w'=>e=.returned (.tuple #[.agg #[.int .i64 (d:Nat),.int .i64 ((m:Int)+2),.int .u8 0],.int .i64 (e9:Nat),.int .i64 0])∧Below w.heap.size w w':=by
 have X0:=(Two.new w 70 (.slice A n c) (.int .i64 l.length)).alloc (.cells #[.int .i64 0,.int .i64 0,.int .u8 0] 79);have T0:=Three.new1 w (.cells #[.slice A n c,.int .i64 l.length] 70) 79 (.int .i64 0) (.int .i64 0) (.int .u8 0);have y0:Below w.heap.size w ((w.alloc (.cells #[.slice A n c,.int .i64 l.length] 70)).alloc (.cells #[.int .i64 0,.int .i64 0,.int .u8 0] 79)):=((Below.refl _ _).alloc (Nat.le_refl _) _).alloc (by simp) _;have R0:=(h.alloc (.cells #[.slice A n c,.int .i64 l.length] 70)).alloc (.cells #[.int .i64 0,.int .i64 0,.int .u8 0] 79);have hA0:∀ b off,A=some ⟨b,off,none⟩→0<n→b<w.heap.size:=fun b off e hn=>by
  obtain⟨b',off',e',hb,_⟩:=h.2.2.2 hn;rw[e] at e';injection e' with e';injection e' with e1;omega
 have H01:=Lib.hid h01;clear h01 h;have HB:=Lib.hid hbit;clear hbit;have HG:=Lib.hid hG;clear hG;have hge:=(gat_end HG.out).1;have HG2:=Lib.hid hG2;clear hG2
 go_enter Tryz.func156,Tryz.ntmps156
 have hv1:=gat_val H01.out HG2.out
 go_wp2_with fail
 refine(rd_ok (f:=p) (m:=1) R0 H01.out hl (by decide) (by omega) rfl rfl 1 (by rw[kib7 hp,HB.out])).mono ?_;rintro e w1 ⟨rfl,y1⟩;have X1:=(X0.on y1).alloc (.cells #[.int .i64 0,.int .i64 0] 24);have T1:=(T0.on y1).alloc (.cells #[.int .i64 0,.int .i64 0] 24);have R1:=(R0.on y1).alloc (.cells #[.int .i64 0,.int .i64 0] 24);have Z1:=y0.trans (y1.mono y0.size);have Y1:=Z1.alloc Z1.size (.cells #[.int .i64 0,.int .i64 0] 24);have F1:=Two.new w1 24 (.int .i64 0) (.int .i64 0);have g0:=F1.c0;have g1:=F1.c1;have x0:=X1.c0;have x1:=X1.c1
 go_wp2_with fail
 refine(rg2_ok R1 H01.out hl (by omega) HG.out (by omega)).mono ?_;rintro e w2 ⟨rfl,y2⟩;have X2:=X1.on y2;have T2:=T1.on y2;have R2:=R1.on y2;have Z2:=Y1.trans (y2.mono Y1.size);have Y2:=Z2;have F2:=F1.on y2;obtain⟨j0,j1,j2,j3,j4⟩:=F2.facts;clear g0 g1;have e1:¬w1.heap.size=w.heap.size+1:=by have:=T0.lt;have:=y1.size;omega
 have e2:¬w.heap.size+1=w1.heap.size:=fun e=>e1 e.symm;have e3:¬w1.heap.size=w.heap.size:=by have:=X0.lt;have:=y1.size;omega
 have e4:¬w.heap.size=w1.heap.size:=fun e=>e3 e.symm;clear x0 x1;have hA1:∀ b off,A=some ⟨b,off,none⟩→0<n→b<w1.heap.size:=fun b off e hn=>by
  have:=hA0 b off e hn;have:=y0.size;have:=y1.size;omega
 have h1w:w.heap.size≤w1.heap.size:=by have:=y0.size;have:=y1.size;omega
 have X12:=(X2.far (p:=⟨w1.heap.size,0,none⟩) e4 (.int .i64 0)).far (p:=⟨w1.heap.size,1,none⟩) e4 (.int .i64 0);have T12:=(T2.far (p:=⟨w1.heap.size,0,none⟩) e2 (.int .i64 0)).far (p:=⟨w1.heap.size,1,none⟩) e2 (.int .i64 0);have F12:=(F2.set0 (.int .i64 0)).set1 (.int .i64 0);have Y12:=(Y2.setCell (p:=⟨w1.heap.size,0,none⟩) h1w (.int .i64 0)).setCell (p:=⟨w1.heap.size,1,none⟩) h1w (.int .i64 0);have R12:=Rd.keepBox (A:=A) R2 hA1 (.int .i64 0) (.int .i64 0)
 go_upto_region 8 with(fail)
 generalize ((w2.setCell ⟨w1.heap.size,0,none⟩ (.int .i64 0)).setCell ⟨w1.heap.size,1,none⟩ (.int .i64 0))=v2 at X12 T12 F12 Y12 R12 ⊢;clear j0 j1 j2 j3 j4;have j0:=F12.c0;have j1:=F12.c1;have x0:=X12.c0;have x1:=X12.c1
 go_wp2_with fail
 refine(rg2_ok R12 H01.out hl hge HG2.out (by omega)).mono ?_;rintro e w3 ⟨rfl,y3⟩;have X3:=X12.on y3;have T3:=T12.on y3;have F3:=F12.on y3;have Y3:=Y12.trans (y3.mono Y12.size);clear j0 j1 x0 x1;obtain⟨j0,j1,j2,j3,j4⟩:=F3.facts;have X13:=(X3.far (p:=⟨w1.heap.size,0,none⟩) e4 (.int .i64 0)).far (p:=⟨w1.heap.size,1,none⟩) e4 (.int .i64 0);have T13:=(T3.far (p:=⟨w1.heap.size,0,none⟩) e2 (.int .i64 0)).far (p:=⟨w1.heap.size,1,none⟩) e2 (.int .i64 0);have F13:=(F3.set0 (.int .i64 0)).set1 (.int .i64 0);have Y13:=(Y3.setCell (p:=⟨w1.heap.size,0,none⟩) h1w (.int .i64 0)).setCell (p:=⟨w1.heap.size,1,none⟩) h1w (.int .i64 0)
 go_upto_region 13 with(fail)
 generalize ((w3.setCell ⟨w1.heap.size,0,none⟩ (.int .i64 0)).setCell ⟨w1.heap.size,1,none⟩ (.int .i64 0))=v3 at X13 T13 F13 Y13 ⊢;clear j0 j1 j2 j3 j4;have j0:=F13.c0;have j1:=F13.c1;have t0:=T13.c0;have t1:=T13.c1;have t2:=T13.c2;have t3:=T13.f0;have t4:=T13.f1;have t5:=T13.f2;have t6:=T13.lt
 go_wp2
 have r0:=(((T13.set0 (.int .i64 (d:Nat))).set1 (.int .i64 ((m:Int)+2))).set2 (.int .u8 0)).c0;have r1:=(((T13.set0 (.int .i64 (d:Nat))).set1 (.int .i64 ((m:Int)+2))).set2 (.int .u8 0)).c1;have r2:=(((T13.set0 (.int .i64 (d:Nat))).set1 (.int .i64 ((m:Int)+2))).set2 (.int .u8 0)).c2;exact bodyPost_ret (v:=.tuple #[.agg #[.int .i64 (d:Nat),.int .i64 ((m:Int)+2),.int .u8 0],.int .i64 (e9:Nat),.int .i64 0]) (by simp[results,Tryz.results156,go_sem,r0,r1,r2]) rfl ⟨rfl,(((Y13.setCell (by simp) _).setCell (by simp) _).setCell (by simp) _)⟩
def ExpOut(n2:Nat)(R:Int×Int×List Nat)(w:World)(e:Ending)(w':World):Prop :=
 ∃ A' m c',e=.returned (.tuple #[.slice A' m c',.agg #[.int .i64 R.1,.int .i64 R.2.1]])∧Rd w' A' m c' (bcells (if R.1=0 then R.2.2.drop n2 else []))∧Below w.heap.size w w'
theorem lzexp_ok{A:Option Addr}{n c:Nat}{xs:List Tok}{A2:Option Addr}{n2 c2:Nat}{dict:List Nat}{w:World}(h:RdT w A n c xs)(h2:Rd w A2 n2 c2 (bcells dict))(hl:xs.length≤1024)(hall:AllTok xs xs.length)(hn2:n2≤512) :
  Calls Tryz.prog 149 #[.slice A n c,.slice A2 n2 c2] w (ExpOut n2 (expf n2 xs 0 dict) w):=by
 obtain⟨i0,hi,hz0,hz1,hz2⟩:=info_parts kca7;have hn:=h.1;have hcap:=h.2.1;have hcm:=h.2.2.1;unfold maxLen at hcm;obtain rfl:=hn;have hd2:=h2.len;rw[ka7] at hd2;have X0:=Two.new w 24 (.int .i64 0) (.int .i64 0);have y0:Below w.heap.size w (w.alloc (.cells #[.int .i64 0,.int .i64 0] 24)):=(Below.refl _ _).alloc (Nat.le_refl _) _;have R0:=h.alloc (.cells #[.int .i64 0,.int .i64 0] 24);have D0:=h2.alloc (.cells #[.int .i64 0,.int .i64 0] 24);obtain⟨RR,hRR⟩:∃ RR,RR=expf n2 xs 0 dict:=⟨_,rfl⟩
 rw[←hRR];have HRR:=Lib.hid hRR;have HA:=Lib.hid hall;have HD2:=Lib.hid hd2;have k512:decide ((512:Int)<(n2:Int))=false:=by simp;omega
 clear hall h2 hRR hd2;have fin:∀ (W:World) (cd ix:Int),RR.1=cd→RR.2.1=ix→cd≠0→Below w.heap.size w W→ExpOut n2 RR w (.returned (.tuple #[.slice none 0 0,.agg #[.int .i64 cd,.int .i64 ix]])) ((W.setCell ⟨w.heap.size,0,none⟩ (.int .i64 cd)).setCell ⟨w.heap.size,1,none⟩ (.int .i64 ix)):=by
  intro W cd ix h1 h2 h3 hY;subst h1 h2;exact⟨none,0,0,rfl,by rw[if_neg h3];exact Reads.nil _ _ none 0 (Nat.zero_le _),(hY.setCell (Nat.le_refl _) _).setCell (Nat.le_refl _) _⟩
 have HF:=Lib.hid fin;clear fin
 go_enter Tryz.func149,Tryz.ntmps149
 go_wp2_with fail
 refine(lzcheck_any R0 (.inr (.inr ⟨hl,HA.out,rfl,rfl⟩))).mono ?_;rintro e w1 ⟨rfl,y1⟩;have X2:=(X0.on y1).alloc (.cells #[.int .i64 0,.int .i64 0] 24);have Y1:=y0.trans (y1.mono y0.size);have Y2:=Y1.alloc Y1.size (.cells #[.int .i64 0,.int .i64 0] 24);have B2:=Two.new w1 24 (.int .i64 0) (.int .i64 0);have D2:=(D0.on y1).alloc (.cells #[.int .i64 0,.int .i64 0] 24);obtain⟨g0,g1,g2,g3,g4⟩:=B2.facts;clear y1 X0 y0 R0 Y1 D0
 go_wp2_with fail
 refine(bclone_any D2 (by omega)).mono ?_;rintro e w2 ⟨A3,c3,rfl,o3,y3⟩;have X3:=X2.on y3;have Y3:=Y2.trans (y3.mono Y2.size);have HO3:=Lib.hid (kao7 o3 Y2.size);clear o3 y3 X2 Y2 B2 g0 g1 g2 g3 g4 D2
 go_wp2_with fail
 go_loopw [7,24] (fun s i wr=>∃ k m:Nat,∃ A' c' win,k≤xs.length∧i=.int .i64 k∧s=.slice A' m c'∧m=win.length∧n2≤m∧m≤n2+1024∧Below w.heap.size w wr∧Two wr w.heap.size 24 (.int .i64 0) (.int .i64 0) ∧
   wr.ownsRow w.heap.size 5 1 (.slice A' m c') m (bcells win)∧RR=expf n2 (xs.drop k) k win) (fun _ i _=>xs.length-(intOf i).toNat)
 case atStart=>exact⟨0,n2,A3,c3,dict,Nat.zero_le _,rfl,rfl,HD2.out.symm,Nat.le_refl _,by omega,Y3,X3,HO3.out,HRR.out⟩
 case round =>
  obtain⟨k,m,A',c',win,hk,rfl,rfl,hm,hm1,hm2,yr,XR,ho,hR⟩:=hrel;have HM:=Lib.hid hm;have HO:=Lib.hid ho;have HR:=Lib.hid hR;clear Y3 X3 HO3 HRR hm ho hR;by_cases hlt:k<xs.length
  ·obtain⟨b,off,rfl,hb,q1,q2,q3⟩:=(h.on yr).at k hlt;obtain⟨xd,xn,xl,hx⟩:∃ xd xn xl,xs[k]=(⟨xd,xn,xl⟩:Tok):=⟨_,_,_,rfl⟩
   rw[hx] at q1 q2 q3;dsimp only at q1 q2 q3;have hok:Tok.ok ⟨xd,xn,xl⟩:=by rw[←hx];exact HA.out k hlt hlt
   have HOK:=Lib.hid hok;have HS:=Lib.hid (show RR=if (m:Int)<xd then(4,((k:Nat):Int),win) else if 1024<m-n2+tlen ⟨xd,xn,xl⟩ then(14,((k:Nat):Int),win) else expf n2 (xs.drop (k+1)) (k+1) (ext win ⟨xd,xn,xl⟩) by
    rw[HR.out,List.drop_eq_getElem_cons hlt,expf,hx,←HM.out])
   have hmx:=tlen_max _ hok;have htp:=tlen_pos _ hok;obtain⟨tl,htl⟩:∃ tl,tl=tlen ⟨xd,xn,xl⟩:=⟨_,rfl⟩
   rw[←htl] at hmx htp HS;dsimp only at hmx HS;have HTL:=Lib.hid htl;clear hx hok htl HR;have ysz:=yr.size;have yv:=yr.alloc ysz (.cells #[.int .i64 xd,.int .i64 xn,.int .u8 (xl:Nat)] 79);have XV:=XR.alloc (.cells #[.int .i64 xd,.int .i64 xn,.int .u8 (xl:Nat)] 79);have V0:=Three.new wr 79 (.int .i64 xd) (.int .i64 xn) (.int .u8 (xl:Nat));have HOV:=Lib.hid (HO.out.alloc (.cells #[.int .i64 xd,.int .i64 xn,.int .u8 (xl:Nat)] 79));have v0:=V0.c0;have v1:=V0.c1;have v2:=V0.c2;have HMX:=Lib.hid hmx;clear hmx;by_cases hdist:(m:Int)<xd
   ·have hRR:RR=(4,((k:Nat):Int),win):=by rw[HS.out,if_pos hdist]
    have H1:=Lib.hid (show RR.1=4 by rw[hRR]);have H2:=Lib.hid (show RR.2.1=(k:Nat) by rw[hRR]);clear hRR HS
    go_wp2_with fail
    refine(kcm7 _ _ _).mono ?_;rintro e w4 ⟨rfl,y4⟩;have X4:=XV.on y4;have Y4:=yv.trans (y4.mono yv.size);obtain⟨f0,f1,f2,f3,f4⟩:=X4.facts
    go_wp2
    have r0:=((X4.set0 (.int .i64 4)).set1 (.int .i64 (k:Nat))).c0;have r1:=((X4.set0 (.int .i64 4)).set1 (.int .i64 (k:Nat))).c1;exact bodyPost_ret (v:=.tuple #[.slice none 0 0,.agg #[.int .i64 4,.int .i64 (k:Nat)]]) (by simp[results,Tryz.results149,go_sem,r0,r1]) rfl (HF.out _ 4 (k:Nat) H1.out H2.out (by decide) Y4)
   have hmx2:max xn 1=((tl:Nat):Int):=HMX.out.symm;by_cases hbig:1024<m-n2+tl
   ·have hRR:RR=(14,((k:Nat):Int),win):=by rw[HS.out,if_neg hdist,if_pos hbig]
    have H1:=Lib.hid (show RR.1=14 by rw[hRR]);have H2:=Lib.hid (show RR.2.1=(k:Nat) by rw[hRR]);clear hRR HS
    go_wp2_with fail
    refine(kcm7 _ _ _).mono ?_;rintro e w4 ⟨rfl,y4⟩;have X4:=XV.on y4;have Y4:=yv.trans (y4.mono yv.size);obtain⟨f0,f1,f2,f3,f4⟩:=X4.facts
    go_wp2
    have r0:=((X4.set0 (.int .i64 14)).set1 (.int .i64 (k:Nat))).c0;have r1:=((X4.set0 (.int .i64 14)).set1 (.int .i64 (k:Nat))).c1;exact bodyPost_ret (v:=.tuple #[.slice none 0 0,.agg #[.int .i64 14,.int .i64 (k:Nat)]]) (by simp[results,Tryz.results149,go_sem,r0,r1]) rfl (HF.out _ 14 (k:Nat) H1.out H2.out (by decide) Y4)
   have HNX:=Lib.hid (show RR=expf n2 (xs.drop (k+1)) (k+1) (ext win ⟨xd,xn,xl⟩) by rw[HS.out,if_neg hdist,if_neg hbig]);clear HS;have HNX2:=HNX;rcases HOK.out with⟨h1,h2⟩|⟨h0,h1,h2,h3,h4⟩
   ·dsimp only at h1 h2;subst h1 h2;have hev:ext win ⟨0,0,xl⟩=win++[xl]:=rfl;obtain rfl:tl=1:=by rw[HTL.out];rfl
    rw[hev] at HNX;have HBC:=Lib.hid (show bcells (win++[xl])=bcells win++[.int .u8 (xl:Nat)] by rw[kbz7];rfl);have HLL:=Lib.hid (show m+1=(win++[xl]).length by rw[List.length_append,←HM.out];rfl);clear hev HNX2
    go_wp2_with fail
    refine(kan7 _ _ _ true (by simp) _).mono ?_;rintro e w4 ⟨rfl,y4⟩;have X4:=XV.on y4;have Y4:=yv.trans (y4.mono yv.size);have V4:=V0.on y4;have c0:=V4.c0;have c1:=V4.c1;have c2:=V4.c2;have HO4:=Lib.hid (kdc7 HOV.out y4);have Y4s:=Y4.size;clear q1 q2 q3 v0 v1 v2 XV yv V0
    go_wp2_with (at_builtin;refine wpList_app1 _ rfl _ _ _ rfl w.heap.size 5 i0 _ 1 Tryz.underlying22 hi hz0 hz1 hz2 rfl _ _ _ rfl HO4.out (.int .u8 (xl:Nat)) rfl rfl ?g1 ?g2 Y4s ?_)
    case g1=>unfold maxLen;omega
    case g2=>omega
    intro A5 c5 w5 ho5 hg5;have Y5:=kaq7 Y4 HO4.out hg5 (Nat.le_refl _) Y4s;have hlt4:=X4.lt;have X5:=X4.grown hg5 (kag7 HO4.out X4 (by decide)).symm;have V5:=V4.grown hg5 (khx7 HO4.out V4 (by decide)).symm;have d1:=V5.c1;rw[←HBC.out] at ho5;have HO5:=Lib.hid ho5;clear ho5 hg5 c0 c1 c2 V4 X4 Y4
    go_wp2_with fail
    go_loopw [7,60] (fun s i wr=>s=.slice A5 (m+1) c5∧i=.int .i64 0∧wr=w5) (fun _ i _=>0)
    case atStart=>exact⟨rfl,rfl,rfl⟩
    case round =>
     obtain⟨rfl,rfl,rfl⟩:=hrel
     go_wp2_with fail
     go_roundw
     case rel=>exact⟨k+1,m+1,A5,c5,_,by omega,by go_num,rfl,HLL.out,by omega,by omega,Y5,X5,HO5.out,HNX.out⟩
     case measure=>simp[intOf]<;>omega
   ·dsimp only at h0 h1 h2 h3 h4;obtain⟨d,rfl⟩:=Int.eq_ofNat_of_zero_le (show 0≤xd by omega);obtain⟨n,rfl⟩:=Int.eq_ofNat_of_zero_le (show 0≤xn by omega);have hev:ext win ⟨(d:Nat),(n:Nat),xl⟩=copyN d n win:=by unfold ext;dsimp only;rw[if_neg (by omega)];rfl
    obtain rfl:tl=n:=by rw[HTL.out];unfold tlen;dsimp only;rw[if_neg (by omega)];rfl
    rw[hev] at HNX;clear hev HNX2 h0 hmx2
    go_wp2_with fail
    refine(kan7 _ _ _ false (by simp;omega) _).mono ?_;rintro e w4 ⟨rfl,y4⟩;have X4:=XV.on y4;have Y4:=yv.trans (y4.mono yv.size);have V4:=V0.on y4;have c0:=V4.c0;have c1:=V4.c1;have c2:=V4.c2;have HO4:=Lib.hid (kdc7 HOV.out y4);have Y4s:=Y4.size;clear q1 q2 q3 v0 v1 v2 XV yv V0;obtain⟨gt,hgt⟩:∃ gt,gt=wr.heap.size:=⟨_,rfl⟩
    rw[←hgt] at V4 c0 c1 c2 ⊢;clear hgt
    go_wp2_with fail
    clear c0 c1 c2
    go_loopw [7,60] (fun s i wr=>∃ j M:Nat,∃ A' c',j≤tl∧i=.int .i64 j∧M=m+j∧s=.slice A' M c'∧Below w.heap.size w wr∧Two wr w.heap.size 24 (.int .i64 0) (.int .i64 0)∧Three wr gt 79 (.int .i64 (d:Nat)) (.int .i64 (tl:Nat)) (.int .u8 (xl:Nat)) ∧
      wr.ownsRow w.heap.size 5 1 (.slice A' M c') M (bcells (copyN d j win))) (fun _ i _=>tl-(intOf i).toNat)
    case atStart=>exact⟨0,m,A',c',Nat.zero_le _,rfl,rfl,rfl,Y4,X4,V4,HO4.out⟩
    case round =>
     obtain⟨j,M,A6,c6,hj,rfl,hM,rfl,Y6,X6,V6,ho6⟩:=hrel;have HO6:=Lib.hid ho6;have HMM:=Lib.hid hM;have hM1:m≤M:=by omega
     have hM2:M≤m+1024:=by omega
     have Y6s:=Y6.size;clear ho6 hM Y4 X4 V4 HO4 yr;by_cases hjn:j<tl
     ·have hlen:(copyN d j win).length=M:=by rw[kcs7,HMM.out,←HM.out]
      obtain⟨b6,o6,rfl,hb6,hc6⟩:=(Rd.own HO6.out).2.2.2 (by omega);have hcell:=hc6 (M-d) _ (kck7 (copyN d j win) (M-d) (by omega));obtain⟨v,hv⟩:∃ v,v=(copyN d j win).getD (M-d) 0:=⟨_,rfl⟩
      rw[←hv] at hcell;have HBC:=Lib.hid (show bcells (copyN d (j+1) win)=bcells (copyN d j win)++[.int .u8 (v:Nat)] by rw[kia7,hlen,←hv,kbz7];rfl);clear hc6 hv hlen;have i1:(0:Int)≤(M:Int)-(d:Int):=by omega
      have i2:(M:Int)-(d:Int)<(M:Int):=by omega
      have i3:((M:Int)-(d:Int)).toNat=M-d:=by omega
      have c0:=V6.c0;have c1:=V6.c1
      go_wp2_with (at_builtin;refine wpList_app1 _ rfl _ _ _ rfl w.heap.size 5 i0 _ 1 Tryz.underlying22 hi hz0 hz1 hz2 rfl _ _ _ rfl HO6.out (.int .u8 (v:Nat)) rfl rfl ?g1 ?g2 Y6s ?_)
      case g1=>unfold maxLen;omega
      case g2=>omega
      intro A7 c7 w7 ho7 hg7;have Y7:=kaq7 Y6 HO6.out hg7 (Nat.le_refl _) Y6s;have X7:=X6.grown hg7 (kag7 HO6.out X6 (by decide)).symm;have V7:=V6.grown hg7 (khx7 HO6.out V6 (by decide)).symm;rw[←HBC.out] at ho7;have HO7:=Lib.hid ho7;clear ho7 hg7 c0 c1 V6 X6 Y6 i1 i2 i3
      go_wp2_with fail
      go_roundw
      case rel=>exact⟨j+1,M+1,A7,c7,by omega,by go_num,by rw[HMM.out];omega,rfl,Y7,X7,V7,HO7.out⟩
      case measure=>simp[intOf]<;>omega
     ·obtain rfl:j=tl:=by omega
      have c1:=V6.c1
      go_wp2_with fail
      go_roundw
      case rel=>exact⟨k+1,M,A6,c6,_,by omega,by go_num,rfl,by rw[kcs7,HMM.out,←HM.out],by omega,by have:=HMM.out;omega,Y6,X6,HO6.out,HNX.out⟩
      case measure=>simp[intOf]<;>omega
  ·obtain rfl:k=xs.length:=by omega
   have hRR:RR=(0,0,win):=by rw[HR.out,List.drop_eq_nil_of_le (Nat.le_refl _)];rfl
   have H1:=Lib.hid (show RR.1=0 by rw[hRR]);have H2:=Lib.hid (show RR.2.1=0 by rw[hRR]);have H3:=Lib.hid (show RR.2.2=win by rw[hRR]);obtain⟨At,hcut,hrt⟩:=Rd.tail (A:=A') (n:=m) (c:=c') 22 5 i0 Tryz.underlying22 hi hz1 (Reads.cap (Rd.own HO.out)) n2 hm1;obtain⟨f0,f1,f2,f3,f4⟩:=XR.facts;have HRT:=Lib.hid hrt;clear hrt hRR hz0 hz1 hz2 hi
   go_wp2
   have r0:=((XR.set0 (.int .i64 0)).set1 (.int .i64 0)).c0;have r1:=((XR.set0 (.int .i64 0)).set1 (.int .i64 0)).c1;refine bodyPost_ret (v:=.tuple #[.slice At (m-n2) (c'-n2),.agg #[.int .i64 0,.int .i64 0]]) (by simp[results,Tryz.results149,go_sem,r0,r1]) rfl ⟨At,m-n2,c'-n2,by rw[H1.out,H2.out],?_,(yr.setCell (Nat.le_refl _) _).setCell (Nat.le_refl _) _⟩;rw[if_pos H1.out,H3.out];have hne:=kag7 HO.out XR (by decide);have hown:=kk7 (kk7 HO.out (p:=⟨w.heap.size,0,none⟩) hne (.int .i64 0)) (p:=⟨w.heap.size,1,none⟩) hne (.int .i64 0);have:=HRT.out _ _ (Rd.own hown);rw[show bcells (win.drop n2)=(bcells win).drop n2 by simp[bcells,List.map_drop]];exact this
inductive Dec(l:List Nat):Nat→Nat→Nat→Nat→List Tok→Nat→Prop
 | nil (p:Nat):Dec l p 0 0 0 [] p
 | bad (p cnt c:Nat):0<cnt→NBad l p cnt c→Dec l p cnt c p [] 0
 | cons (p cnt:Nat) (t:Tok) (e c i:Nat) (ts:List Tok) (en:Nat):0<cnt→NOk l p cnt t e→Dec l e (cnt-tlen t) c i ts en→Dec l p cnt c i (t::ts) en
theorem NOk.facts{l:List Nat}(h01:Is01 l){p mis:Nat}{t:Tok}{e:Nat}(h:NOk l p mis t e)(hm:1≤mis):e≤l.length∧1≤tlen t∧tlen t≤mis∧max t.n 1=((tlen t:Nat):Int)∧t.lit<256:=by
 rcases h with⟨h1,h2,h3,rfl,rfl⟩|⟨h1,h2,d,e1,n,hg,hd,hg2,hn,rfl⟩
 ·refine⟨by omega,Nat.le_refl _,hm,rfl,?_⟩;have a:=num_lt ((h01.drop (p+1)).take 8);have b:2 ^ ((l.drop (p+1)).take 8).length≤2 ^ 8:=Nat.pow_le_pow_right (by decide) (by rw[List.length_take];omega);show num _<256;omega
 ·have hd1:=gat_pos h01 hg;have e:tlen ⟨(d:Nat),((n+2:Nat):Int),0⟩=n+2:=by unfold tlen;dsimp only;rw[if_neg (by omega)];omega
  rw[e];refine⟨(gat_end hg2).1,by omega,hn,?_,(by decide:(0:Nat)<256)⟩;show max ((n+2:Nat):Int) 1=_;omega
theorem dec_ex{l:List Nat}(h01:Is01 l):∀ cnt p,p≤l.length→∃ c i ts en,Dec l p cnt c i ts en:=by
 intro cnt
 induction cnt using Nat.strongRecOn with
 | _ cnt ih =>
  intro p hp;rcases Nat.eq_zero_or_pos cnt with rfl|hpos
  ·exact⟨_,_,_,_,.nil p⟩
  ·rcases next_ex h01 p cnt hp with⟨c,hc⟩|⟨t,e,ht⟩
   ·exact⟨_,_,_,_,.bad p cnt c hpos hc⟩
   ·obtain⟨f1,f2,f3,f4,_⟩:=ht.facts h01 hpos;obtain⟨c,i,ts,en,hD⟩:=ih (cnt-tlen t) (by omega) e f1;exact⟨_,_,_,_,.cons p cnt t e c i ts en hpos ht hD⟩
theorem nbad_code{l:List Nat}{p mis c:Nat}(h:NBad l p mis c):c=15∨c=16:=by
 have key:∀ {f cd},GAt l f 0 0 cd→cd≠0→cd=15∨cd=16:=fun h hc=>by
  rcases h with⟨_,_,_,h⟩|⟨_,_,_,_,h⟩|⟨_,_,_,_,h⟩
  ·exact .inr h
  ·exact .inl h
  ·exact absurd h hc
 rcases h with⟨_,h⟩|⟨_,_,_,h⟩|⟨_,_,⟨cd,h1,h2,h3⟩|⟨d,e,_,_,h⟩|⟨d,e,cd,_,_,h1,h2,h3⟩|⟨d,e,n,e2,_,_,_,_,h⟩⟩
 ·exact .inl h
 ·exact .inl h
 ·rw[h3];exact key h1 h2
 ·exact .inr h
 ·rw[h3];exact key h1 h2
 ·exact .inr h
theorem next_bad{A:Option Addr}{n c:Nat}{l:List Nat}{p mis cd:Nat}{w:World}(h:Rd w A n c (bcells (pack l)))(h01:Is01 l)(hl:l.length≤131072)(hmis:mis≤1024)(hp:p≤l.length)(hN:NBad l p mis cd) :
  Calls Tryz.prog 156 #[.agg #[.slice A n c,.int .i64 l.length],.int .i64 (p:Nat),.int .i64 (mis:Nat)] w fun e w'=>∃ b:Int,e=.returned (.tuple #[.agg #[.int .i64 0,.int .i64 0,.int .u8 0],.int .i64 b,.int .i64 (cd:Nat)])∧Below w.heap.size w w':=by
 rcases hN with⟨h1,rfl⟩|⟨h1,h2,h3,rfl⟩|⟨h1,h2,⟨c1,g1,g2,rfl⟩|⟨d,e,g1,g2,rfl⟩|⟨d,e,c1,g1,g2,g3,g4,rfl⟩|⟨d,e,m,e2,g1,g2,g3,g4,rfl⟩⟩
 ·exact(next_none hp h1 h h01 hl hmis).mono fun e w' ⟨h1,h2⟩=>⟨_,h1,h2⟩
 ·exact(next_cut h1 h2 h3 h h01 hl hmis).mono fun e w' ⟨h1,h2⟩=>⟨_,h1,h2⟩
 ·exact(next_nog h1 h2 g1 g2 h h01 hl hmis).mono fun e w' ⟨h1,h2⟩=>⟨_,h1,h2⟩
 ·exact(next_far h1 h2 g1 g2 h h01 hl hmis).mono fun e w' ⟨h1,h2⟩=>⟨_,h1,h2⟩
 ·exact(next_nog2 h1 h2 g1 g2 g3 g4 h h01 hl hmis).mono fun e w' ⟨h1,h2⟩=>⟨_,h1,h2⟩
 ·exact(next_long h1 h2 g1 g2 g3 g4 h h01 hl hmis).mono fun e w' ⟨h1,h2⟩=>⟨_,h1,h2⟩
theorem next_ok{A:Option Addr}{n c:Nat}{l:List Nat}{p mis e9:Nat}{t:Tok}{w:World}(h:Rd w A n c (bcells (pack l)))(h01:Is01 l)(hl:l.length≤131072)(hmis:mis≤1024)(hN:NOk l p mis t e9) :
  Calls Tryz.prog 156 #[.agg #[.slice A n c,.int .i64 l.length],.int .i64 (p:Nat),.int .i64 (mis:Nat)] w fun e w'=>e=.returned (.tuple #[.agg #[.int .i64 t.d,.int .i64 t.n,.int .u8 (t.lit:Nat)],.int .i64 (e9:Nat),.int .i64 0])∧Below w.heap.size w w':=by
 rcases hN with⟨h1,h2,h3,rfl,rfl⟩|⟨h1,h2,d,e1,m,hg,hd,hg2,hn,rfl⟩
 ·have a:=num_lt ((h01.drop (p+1)).take 8);have b:2 ^ ((l.drop (p+1)).take 8).length≤2 ^ 8:=Nat.pow_le_pow_right (by decide) (by rw[List.length_take];omega);exact next_lit h1 h2 h3 _ rfl (by omega) h h01 hl hmis
 ·exact next_match h1 h2 hg hd hg2 hn h h01 hl hmis
def DecOut(c i:Nat)(ts:List Tok)(en:Nat)(w:World)(e:Ending)(w':World):Prop :=
 ∃ A' m c',e=.returned (.tuple #[.slice A' m c',.int .i64 ((if c=0 then en else 0:Nat):Int),.agg #[.int .i64 (c:Nat),.int .i64 ((if c=0 then 0 else i:Nat):Int)]])∧w'.ownsRow w.heap.size 79 3 (.slice A' m c') m (tcells (if c=0 then ts else []))∧Below w.heap.size w w'
theorem lzdec_ok{A:Option Addr}{n c:Nat}{l:List Nat}{count cd ix en:Nat}{TS:List Tok}{w:World}(h:Rd w A n c (bcells (pack l)))(h01:Is01 l)(hl:l.length≤131072)(hcount:count≤1024)(hD:Dec l 0 count cd ix TS en) :
  Calls Tryz.prog 147 #[.agg #[.slice A n c,.int .i64 l.length],.int .i64 (count:Nat)] w (DecOut cd ix TS en w):=by
 obtain⟨i1,ti,tz0,tz1,tz2⟩:=info_parts tok_info;have B0:=(Two.new w 70 (.slice A n c) (.int .i64 l.length)).alloc (.cells #[.int .i64 0,.int .i64 0] 24);have F0:=Two.new1 w (.cells #[.slice A n c,.int .i64 l.length] 70) 24 (.int .i64 0) (.int .i64 0);have y0:Below w.heap.size w ((w.alloc (.cells #[.slice A n c,.int .i64 l.length] 70)).alloc (.cells #[.int .i64 0,.int .i64 0] 24)):=((Below.refl _ _).alloc (Nat.le_refl _) _).alloc (by simp) _;have R0:=(h.alloc (.cells #[.slice A n c,.int .i64 l.length] 70)).alloc (.cells #[.int .i64 0,.int .i64 0] 24);have H01:=Lib.hid h01;have HD:=Lib.hid hD;have HH:=Lib.hid h;clear h01 hD h
 go_enter Tryz.func147,Tryz.ntmps147
 go_wp2_with fail
 refine(kau7 A n c l _ _ R0 (Nat.le_refl _) H01.out hl).mono ?_;rintro e w1 ⟨rfl,y1⟩;have F1:=F0.on y1;have B1:=B0.on y1;have Y1:=y0.trans (y1.mono y0.size);have s1:=F1.lt;clear F0 B0 y0 R0 y1
 go_wp2_with fail
 go_loopw [1,7,8] (fun cn o p wr=>∃ cnt pos m:Nat,∃ A' c' done ts,cnt≤1024∧pos≤l.length∧m+cnt≤1024∧cn=.int .i64 cnt∧p=.int .i64 pos∧o=.slice A' m c'∧Below w.heap.size w wr∧Two wr w.heap.size 70 (.slice A n c) (.int .i64 l.length)∧Two wr (w.heap.size+1) 24 (.int .i64 0) (.int .i64 0) ∧
   wr.ownsRow (w.heap.size+2) 79 3 (.slice A' m c') m (tcells done)∧Dec l pos cnt cd ix ts en∧done++ts=TS) (fun cn _ _ _=>(intOf cn).toNat)
 case atStart=>exact⟨count,0,0,none,0,[],TS,hcount,Nat.zero_le _,by omega,rfl,rfl,rfl,Y1,B1,F1,World.ownsRow_nil _ _ _ _,HD.out,rfl⟩
 case round =>
  obtain⟨cnt,pos,m,A',c',done,ts,hc1,hp1,hm1,rfl,rfl,rfl,yr,BR,FR,ho,hDr,hts⟩:=hrel;have HO:=Lib.hid ho;have HTS:=Lib.hid hts;have RR:=HH.out.on yr;clear Y1 B1 F1 HD ho hts;have b0:=BR.c0;have b1:=BR.c1;cases hDr with
  | nil p =>
   have HTS2:=Lib.hid (show done=TS by rw[←HTS.out,List.append_nil]);obtain⟨f0,f1,f2,f3,f4⟩:=FR.facts
   go_wp2
   have r0:=((FR.set0 (.int .i64 0)).set1 (.int .i64 0)).c0;have r1:=((FR.set0 (.int .i64 0)).set1 (.int .i64 0)).c1;refine bodyPost_ret (v:=.tuple #[.slice A' m c',.int .i64 (en:Nat),.agg #[.int .i64 0,.int .i64 0]]) (by simp[results,Tryz.results147,go_sem,r0,r1]) rfl ⟨A',m,c',rfl,?_,(yr.setCell (by simp) _).setCell (by simp) _⟩;rw[if_pos rfl,←HTS2.out];have hne:(Value.slice A' m c').ownBlock≠some (w.heap.size+1):=fun e=>by have:=(HO.out.lt _ e).1;omega
   exact kao7 (kk7 (kk7 HO.out (p:=⟨w.heap.size+1,0,none⟩) hne _) (p:=⟨w.heap.size+1,1,none⟩) hne _) (by omega)
  | bad p cn c9 hpos hbad =>
   have HB:=Lib.hid hbad;have hcd:cd≠0:=by rcases nbad_code hbad with h|h<;>omega
   have hnq:(((cd:Nat):Int) != 0)=true:=by rw[bne_iff_ne];omega
   clear hbad
   go_wp2_with fail
   refine(next_bad RR H01.out hl hc1 hp1 HB.out).mono ?_;rintro e w2 ⟨bb,rfl,y2⟩;have F2:=(FR.on y2).alloc (.cells #[.int .i64 0,.int .i64 0,.int .u8 0] 79);have Y2:=yr.trans (y2.mono yr.size);have Y2a:=Y2.alloc Y2.size (.cells #[.int .i64 0,.int .i64 0,.int .u8 0] 79)
   go_wp2_with fail
   refine(kcm7 _ _ _).mono ?_;rintro e w3 ⟨rfl,y3⟩;have F3:=F2.on y3;have Y3:=Y2a.trans (y3.mono Y2a.size);obtain⟨f0,f1,f2,f3,f4⟩:=F3.facts
   go_wp2
   have r0:=((F3.set0 (.int .i64 (cd:Nat))).set1 (.int .i64 (ix:Nat))).c0;have r1:=((F3.set0 (.int .i64 (cd:Nat))).set1 (.int .i64 (ix:Nat))).c1;exact bodyPost_ret (v:=.tuple #[.slice none 0 0,.int .i64 0,.agg #[.int .i64 (cd:Nat),.int .i64 (ix:Nat)]]) (by simp[results,Tryz.results147,go_sem,r0,r1]) rfl ⟨none,0,0,by rw[if_neg hcd,if_neg hcd];rfl,by rw[if_neg hcd];exact World.ownsRow_nil _ _ _ _,(Y3.setCell (by simp) _).setCell (by simp) _⟩
  | cons p cn t e9 c9 i9 ts' en9 hpos hok hrest =>
   obtain⟨f1,f2,f3,f4,_⟩:=hok.facts H01.out hpos;have HK:=Lib.hid hok;have HR:=Lib.hid hrest;obtain⟨td,tn,tl,ht⟩:∃ td tn tl,t=(⟨td,tn,tl⟩:Tok):=⟨_,_,_,rfl⟩
   subst ht;dsimp only at f4;obtain⟨tz,htz⟩:∃ tz,tz=tlen ⟨td,tn,tl⟩:=⟨_,rfl⟩
   rw[←htz] at f2 f3 f4 HR;clear hok hrest htz
   go_wp2_with fail
   refine(next_ok RR H01.out hl hc1 HK.out).mono ?_;rintro e w2 ⟨rfl,y2⟩;dsimp only;have F2:=(FR.on y2).alloc (.cells #[.int .i64 td,.int .i64 tn,.int .u8 (tl:Nat)] 79);have B2:=(BR.on y2).alloc (.cells #[.int .i64 td,.int .i64 tn,.int .u8 (tl:Nat)] 79);have T2:=Three.new w2 79 (.int .i64 td) (.int .i64 tn) (.int .u8 (tl:Nat));have Y2:=yr.trans (y2.mono yr.size);have Y2a:=Y2.alloc Y2.size (.cells #[.int .i64 td,.int .i64 tn,.int .u8 (tl:Nat)] 79);have HO2:=Lib.hid ((kdc7 HO.out y2).alloc (.cells #[.int .i64 td,.int .i64 tn,.int .u8 (tl:Nat)] 79));have s2:=F2.lt;have hrow:∀ g,(Value.slice A' m c').ownBlock=some g→g<w2.heap.size:=fun g hg=>Nat.lt_of_lt_of_le (HO.out.lt g hg).2 y2.size;clear y2 Y2 yr BR FR b0 b1 HO RR
   go_upto_region 11 with(fail)
   generalize (w2.alloc (.cells #[.int .i64 td,.int .i64 tn,.int .u8 (tl:Nat)] 79))=w3 at F2 B2 T2 Y2a HO2 s2 ⊢;obtain⟨gt,hgt⟩:∃ gt,gt=w2.heap.size:=⟨_,rfl⟩
   rw[←hgt] at T2 hrow ⊢;clear hgt;have t0:=T2.c0;have t1:=T2.c1;have t2:=T2.c2
   go_wp2_with (at_builtin;refine wpList_tok1 _ rfl _ _ 44 rfl (w.heap.size+2) 79 i1 _ 24 Tryz.underlying44 ti tz0 tz1 tz2 rfl _ _ _ rfl HO2.out _ _ _ (tcells_one [⟨td,tn,tl⟩]) rfl ?g1 ?g2 s2 ?_)
   case g1=>unfold maxLen;omega
   case g2=>omega
   intro A5 c5 w5 ho5 hg5;have nF:some (w.heap.size+1)≠(Value.slice A' m c').ownBlock:=fun e=>by have:=(HO2.out.lt _ e.symm).1;omega
   have nB:some w.heap.size≠(Value.slice A' m c').ownBlock:=fun e=>by have:=(HO2.out.lt _ e.symm).1;omega
   have nT:some gt≠(Value.slice A' m c').ownBlock:=fun e=>by have:=hrow _ e.symm;omega
   have F5:=F2.grown hg5 nF;have B5:=B2.grown hg5 nB;have T5:=T2.grown hg5 nT;have Y5:=kaq7 Y2a HO2.out hg5 (by omega) Y2a.size;have HO5:=Lib.hid (show w5.ownsRow (w.heap.size+2) 79 3 (.slice A5 (m+1) c5) (m+1) (tcells (done++[⟨td,tn,tl⟩])) by rw[kgh7];simpa [tcells,tcell] using ho5);have t1:=T5.c1;clear ho5 hg5 nF nB nT hrow F2 B2 T2 Y2a HO2 t2 ti tz0 tz1 tz2
   go_wp2_with fail
   go_roundw
   case rel=>exact⟨cnt-tz,e9,m+1,A5,c5,_,ts',by omega,f1,by omega,congrArg (Value.int .i64) (by omega),rfl,rfl,Y5,B5,F5,HO5.out,HR.out,by rw[←HTS.out,List.append_assoc];rfl⟩
   case measure=>simp[intOf]<;>omega
end PB
end
section
open Go.RowKit
namespace PB
section
variable {all:List Nat}{f:Nat}{L nn dd:Nat→Nat}
theorem tokOf_ok(h:Tab gsz all f L nn dd)(hN:all.length≤1536)(hf:all.length≤f+1024){i:Nat}(hi:f≤i)(hl:i<all.length):(tokOf all nn dd i).ok∧tlen (tokOf all nn dd i)=max (nn i) 1∧tcost (tokOf all nn dd i)+L (i+max (nn i) 1)=L i∧i+max (nn i) 1≤all.length:=by
 rcases h.nn0 hi hl with⟨h1,h2,h3⟩|⟨h1,h3⟩
 ·have e:tokOf all nn dd i=⟨0,0,all.getD i 0⟩:=by unfold tokOf;rw[if_pos h1]
  rw[e,h1];exact⟨.inl ⟨rfl,rfl⟩,rfl,by rw[h3];rfl,by omega⟩
 ·obtain⟨a1,a2,a3,a4⟩:=h1;have hr:=rep_le (all:=all) (i:=i) (d:=dd i);have e:tokOf all nn dd i=⟨(dd i:Nat),(nn i:Nat),0⟩:=by unfold tokOf;rw[if_neg (by omega)]
  rw[e,show max (nn i) 1=nn i by omega];refine⟨.inr ⟨rfl,by dsimp only;omega,by dsimp only;omega,by dsimp only;omega,by dsimp only;omega⟩,?_,?_,by omega⟩
  ·unfold tlen;dsimp only;rw[if_neg (by omega)];omega
  ·unfold tcost;dsimp only;rw[if_neg (by omega),h3];rfl
theorem tokens_all(h:Tab gsz all f L nn dd)(hN:all.length≤1536)(hf:all.length≤f+1024):∀ k i,f≤i→i≤all.length→all.length≤i+k →
  (∀ t∈tokens all nn dd i,t.ok)∧((tokens all nn dd i).map tlen).sum=all.length-i∧costs (tokens all nn dd i)=L i∧(tokens all nn dd i).length≤all.length-i:=by
 intro k
 induction k with
 | zero =>
  intro i h1 h2 h3;obtain rfl:i=all.length:=by omega
  rw[kbs7 (Nat.le_refl _)];exact⟨(fun t ht=>by cases ht),by simp,by rw[h.1];rfl,by simp⟩
 | succ k ih =>
  intro i h1 h2 h3;rcases Nat.lt_or_ge i all.length with hl|hl
  ·obtain⟨b1,b2,b3,b4⟩:=tokOf_ok h hN hf h1 hl;obtain⟨c1,c2,c3,c4⟩:=ih (i+max (nn i) 1) (by omega) b4 (by omega);rw[kdt7 hl];refine⟨fun t ht=>?_,?_,?_,?_⟩
   ·rcases List.mem_cons.1 ht with rfl|ht
    ·exact b1
    ·exact c1 t ht
   ·rw[List.map_cons,List.sum_cons,b2,c2];omega
   ·unfold costs at c3 ⊢;rw[List.map_cons,List.sum_cons,c3];omega
   ·rw[List.length_cons];omega
  ·obtain rfl:i=all.length:=by omega
   rw[kbs7 (Nat.le_refl _)];exact⟨(fun t ht=>by cases ht),by simp,by rw[h.1];rfl,by simp⟩
theorem AllTok.of(xs:List Tok)(h:∀ t∈xs,t.ok):AllTok xs xs.length:=fun i hi _=>h _ (List.getElem_mem hi)
theorem tokens_lit(hb:∀ i,all.getD i 0<256):∀ k i,∀ t∈toks all nn dd k i,t.lit<256:=by
 intro k
 induction k with
 | zero=>intro i t ht;cases ht
 | succ k ih =>
  intro i t ht;rw[toks] at ht
  split at ht
  ·rcases List.mem_cons.1 ht with rfl|ht
   ·unfold tokOf
    split
    ·exact hb i
    ·exact(by decide:(0:Nat)<256)
   ·exact ih _ t ht
  ·cases ht
end
theorem dec_code:∀ (xs:List Tok) (pre rest:List Nat),(∀ t∈xs,t.ok∧t.lit<256)→Dec (pre++codeOf xs++rest) pre.length (xs.map tlen).sum 0 0 xs (pre.length+(codeOf xs).length):=by
 intro xs
 induction xs with
 | nil=>intro pre rest _;exact .nil _
 | cons t ts ih =>
  intro pre rest h;obtain⟨hok,hlit⟩:=h t (List.mem_cons_self ..);have hc:codeOf (t::ts)=tokbits t++codeOf ts:=by simp[codeOf]
  have hrec:=ih (pre++tokbits t) rest (fun x hx=>h x (List.mem_cons_of_mem _ hx));have hl:=tlen_pos t hok;have e1:(pre++tokbits t).length+(codeOf ts).length=pre.length+(codeOf (t::ts)).length:=by rw[hc,List.length_append,List.length_append];omega
  have e2:pre++tokbits t++codeOf ts++rest=pre++codeOf (t::ts)++rest:=by rw[hc];simp[List.append_assoc]
  rw[e1,e2] at hrec;have e3:(ts.map tlen).sum=((t::ts).map tlen).sum-tlen t:=by rw[List.map_cons,List.sum_cons];omega
  rw[e3] at hrec;refine .cons _ _ t (pre++tokbits t).length _ _ _ _ (by rw[List.map_cons,List.sum_cons];omega) ?_ hrec;rw[hc];obtain⟨d,n,lit⟩:=t;rcases hok with⟨h1,h2⟩|⟨h0,h1,h2,h3,h4⟩
  ·dsimp only at h1 h2 hlit;subst h1 h2;have hb:tokbits ⟨0,0,lit⟩=0::digs lit 8:=by
    show digs lit 9=_;rw[kgt7,Nat.div_eq_of_lt (by omega)]
   rw[hb];refine .inl ⟨by simp<;>omega,?_,by simp[kaj7]<;>omega,?_,by simp[kaj7]⟩
   ·simp[List.getD_eq_getElem?_getD]
   ·congr 1
    have e:((pre++(0::digs lit 8++codeOf ts)++rest).drop (pre.length+1)).take 8=digs lit 8:=by
     rw[show pre++(0::digs lit 8++codeOf ts)++rest=(pre++[0])++(digs lit 8++(codeOf ts++rest)) by simp[List.append_assoc],List.drop_left' (by simp),List.take_left' (by rw[kaj7])]
    rw[e,num_digs 8 lit (by omega)]
  ·dsimp only at h0 h1 h2 h3 h4;obtain⟨d,rfl⟩:=Int.eq_ofNat_of_zero_le (show 0≤d by omega);obtain⟨n,rfl⟩:=Int.eq_ofNat_of_zero_le (show 0≤n by omega);have hl0:lit=0:=by omega
   subst hl0;have hb:tokbits ⟨(d:Nat),(n:Nat),0⟩=1::(gam d++gam (n-2)):=by unfold tokbits;dsimp only;rw[if_neg (by omega)];rfl
   rw[hb];have g1:=gat_gam (pre++[1]) (gam (n-2)++codeOf ts++rest) d (by omega) (by omega);have g2:=gat_gam (pre++[1]++gam d) (codeOf ts++rest) (n-2) (by omega) (by omega);have q1:pre++[1]++gam d++(gam (n-2)++codeOf ts++rest)=pre++(1::(gam d++gam (n-2))++codeOf ts)++rest:=by simp[List.append_assoc]
   have q2:pre++[1]++gam d++gam (n-2)++(codeOf ts++rest)=pre++(1::(gam d++gam (n-2))++codeOf ts)++rest:=by simp[List.append_assoc]
   have ep:(pre++[1]).length=pre.length+1:=by simp
   have ep2:(pre++[1]++gam d).length=pre.length+1+gsz d:=by rw[List.length_append,kbt7,ep]
   rw[q1,ep] at g1;rw[q2,ep2] at g2;refine .inr ⟨by simp<;>omega,by simp[List.getD_eq_getElem?_getD],d,pre.length+1+gsz d,n-2,g1,by omega,?_,?_,?_⟩
   ·have e:(pre++1::(gam d++gam (n-2))).length=pre.length+1+gsz d+gsz (n-2):=by
     rw[List.length_append,List.length_cons,List.length_append,kbt7,kbt7];omega
    rw[e];exact g2
   ·rw[List.map_cons,List.sum_cons];have e:tlen ⟨(d:Nat),(n:Nat),0⟩=n:=by unfold tlen;dsimp only;rw[if_neg (by omega)];rfl
    rw[e];omega
   ·rw[show n-2+2=n by omega]
end PB
end
section
open Go.RowKit
namespace PB
theorem copyN_prefix(d:Nat):∀ k w,w <+: copyN d k w:=by
 intro k
 induction k with
 | zero=>intro w;exact List.prefix_refl _
 | succ k ih=>intro w;exact(List.prefix_append _ _).trans (ih _)
theorem ext_prefix(w:List Nat)(t:Tok):w <+: ext w t:=by
 unfold ext
 split
 ·exact List.prefix_append _ _
 ·exact copyN_prefix _ _ _
theorem expf_prefix(dl:Nat):∀ xs k w,w <+: (expf dl xs k w).2.2:=by
 intro xs
 induction xs with
 | nil=>intro k w;exact List.prefix_refl _
 | cons t ts ih =>
  intro k w;rw[expf]
  split
  ·exact List.prefix_refl _
  ·split
   ·exact List.prefix_refl _
   ·exact(ext_prefix w t).trans (ih _ _)
theorem kff7{w all:List Nat}(h:w <+: all):w=all.take w.length:=(List.prefix_iff_eq_take.1 h)
theorem copyN_rep{all:List Nat}{d i:Nat}(hd:1≤d)(hdi:d≤i):∀ n,copyN d n (all.take i)=all.take (i+n)→i+n≤all.length→n≤rep all i d:=by
 intro n h hl;refine rep_ge fun k hk=>⟨by omega,?_⟩
 have hpre:∀ q,q≤n→copyN d q (all.take i)=all.take (i+q):=by
  intro q hq;have hp:copyN d q (all.take i) <+: copyN d n (all.take i):=by
   obtain⟨r,rfl⟩:∃ r,n=q+r:=⟨n-q,by omega⟩
   clear h hl hk hq
   induction r with
   | zero=>exact List.prefix_refl _
   | succ r ih=>rw[←Nat.add_assoc,kia7];exact ih.trans (List.prefix_append _ _)
  rw[h] at hp;have:=kff7 (hp.trans (List.take_prefix _ _));rw[this,kcs7,List.length_take,show min i all.length=i by omega]
 have h1:=hpre (k+1) (by omega);rw[kia7,hpre k (by omega)] at h1;have h2:=congrArg (fun l=>l.getD (i+k) 0) h1
 (try simp only at h2)
 have hlen:(all.take (i+k)).length=i+k:=by rw[List.length_take];omega
 rw[kai7 (by omega),hlen,Nat.sub_self] at h2;have e1:(all.take (i+(k+1))).getD (i+k) 0=all.getD (i+k) 0:=by
  rw[List.getD_eq_getElem?_getD,List.getD_eq_getElem?_getD,List.getElem?_take_of_lt (by omega)]
 have e2:(all.take (i+k)).getD (i+k-d) 0=all.getD (i+k-d) 0:=by
  rw[List.getD_eq_getElem?_getD,List.getD_eq_getElem?_getD,List.getElem?_take_of_lt (by omega)]
 rw[e1,e2] at h2;exact h2.symm
theorem least{all:List Nat}{f:Nat}{L nn dd:Nat→Nat}(h:Tab gsz all f L nn dd):∀ (ts:List Tok) (i q:Nat),(∀ t∈ts,t.ok)→f≤i→i≤all.length→expf f ts q (all.take i)=(0,0,all)→L i≤costs ts:=by
 intro ts
 induction ts with
 | nil =>
  intro i q _ h1 h2 h3;rw[expf] at h3;injection h3 with _ h3;injection h3 with _ h3;have:i=all.length:=by
   have:=congrArg List.length h3;rw[List.length_take] at this;omega
  rw[this,h.1];exact Nat.zero_le _
 | cons t ts ih =>
  intro i q hok h1 h2 h3;have hlen:(all.take i).length=i:=by rw[List.length_take];omega
  rw[expf,hlen] at h3
  split at h3
  ·simp at h3
  split at h3
  ·simp at h3
  rename_i g1 g2
  have hto:=hok t (List.mem_cons_self ..);have hp:=expf_prefix f ts (q+1) (ext (all.take i) t);rw[h3] at hp;have hx:=kff7 hp;rw[ext_length,hlen] at hx;have hle:i+tlen t≤all.length:=by
   have:=hp.length_le;rw[ext_length,hlen] at this;exact this
  have htp:=tlen_pos t hto;rw[hx] at h3;have hrec:=ih (i+tlen t) (q+1) (fun x hx=>hok x (List.mem_cons_of_mem _ hx)) (by omega) hle h3;have hc:costs (t::ts)=tcost t+costs ts:=by simp[costs]
  rw[hc];have hG:=h.2 i h1 (by omega);rcases hto with⟨e1,e2⟩|⟨e0,e1,e2,e3,e4⟩
  ·have:tlen t=1:=by unfold tlen;rw[if_pos e1]
   have hcost:tcost t=9:=by unfold tcost;rw[if_pos e1]
   rw[this] at hrec;have:=hG.lit;omega
  ·have hl:tlen t=t.n.toNat:=by unfold tlen;rw[if_neg (by omega)]
   have hcost:tcost t=mcost gsz t.d.toNat t.n.toNat:=by unfold tcost;rw[if_neg (by omega)]
   rw[hl] at hrec hle hx;have hext:ext (all.take i) t=copyN t.d.toNat t.n.toNat (all.take i):=by unfold ext;rw[if_neg (by omega)]
   rw[hext] at hx;have hr:=copyN_rep (all:=all) (d:=t.d.toNat) (i:=i) (by omega) (by omega) _ hx hle;have:=hG.opt t.n.toNat t.d.toNat ⟨by omega,by omega,by omega,hr⟩ trivial;rw[hcost];omega
def PTok(data dict:List Nat)(ts:List Tok):Prop:=∃ L nn dd,Tab gsz (dict++data) dict.length L nn dd∧ts=tokens (dict++data) nn dd dict.length
section
variable {data dict:List Nat}{ts:List Tok}
theorem PTok.ok(h:PTok data dict ts)(h1:data.length≤1024)(h2:dict.length≤512):(∀ t∈ts,t.ok)∧ts.length≤1024∧(ts.map tlen).sum=data.length:=by
 obtain⟨L,nn,dd,hT,rfl⟩:=h;have hl:(dict++data).length=dict.length+data.length:=List.length_append;obtain⟨a,b,_,d⟩:=tokens_all hT (by omega) (by omega) (dict++data).length dict.length (Nat.le_refl _) (by omega) (by omega);exact⟨a,by omega,by omega⟩
theorem PTok.lit(h:PTok data dict ts)(h1:∀ k,data.getD k 0<256)(h2:∀ k,dict.getD k 0<256):∀ t∈ts,t.lit<256:=by
 obtain⟨L,nn,dd,hT,rfl⟩:=h;refine tokens_lit (fun i=>?_) _ _;rcases Nat.lt_or_ge i dict.length with hi|hi
 ·rw[kh7 hi];exact h2 i
 ·rw[kai7 hi];exact h1 _
theorem PTok.cost_le(h:PTok data dict ts)(h1:data.length≤1024)(h2:dict.length≤512):costs ts≤9*data.length:=by
 obtain⟨L,nn,dd,hT,rfl⟩:=h;have hl:(dict++data).length=dict.length+data.length:=List.length_append;obtain⟨_,_,c,_⟩:=tokens_all hT (by omega) (by omega) (dict++data).length dict.length (Nat.le_refl _) (by omega) (by omega);rw[c];exact hT.le data.length dict.length (Nat.le_refl _) (by omega)
end
end PB
end
section
open Go.RowKit
attribute [local go_sem ↓] Go.wp_at_zero Go.wp_at_succ
namespace PB
theorem sz_parse{A:Option Addr}{n c:Nat}{data:List Nat}{A2:Option Addr}{n2 c2:Nat}{dict:List Nat}{w:World}(h:Rd w A n c (bcells data))(h2:Rd w A2 n2 c2 (bcells dict))(hn:n≤1024)(hn2:n2≤512) :
  Calls Tryz.prog 145 #[.slice A n c,.slice A2 n2 c2] w fun e w'=>∃ A' m c' ts,e=.returned (.tuple #[.slice A' m c',.agg #[.int .i64 0,.int .i64 0]])∧(RdT w' A' m c' ts∧PTok data dict ts)∧Below w.heap.size w w':=by
 have e2:=h2.len;rw[ka7] at e2;refine(lzparse_ok h h2 hn hn2).mono ?_;rintro e w' ⟨L,nn,dd,A',m,c',rfl,hT,ho,hb⟩;subst e2;exact⟨A',m,c',_,rfl,⟨RdT.own ho,L,nn,dd,hT,rfl⟩,hb⟩
theorem mpack_any{A:Option Addr}{n c:Nat}{data:List Nat}{A2:Option Addr}{n2 c2:Nat}{dict:List Nat}{w:World}(h:Rd w A n c (bcells data))(h2:Rd w A2 n2 c2 (bcells dict))(hn:n≤1024)(hn2:n2≤512)(hd:∀ k,data.getD k 0<256)(hd2:∀ k,dict.getD k 0<256) :
  Calls Tryz.prog 143 #[.agg #[],.slice A n c,.slice A2 n2 c2] w fun e w'=>∃ A' n' c' ts,e=.returned (.slice A' n' c')∧PTok data dict ts∧Rd w' A' n' c' (bcells (pack (codeOf ts)))∧Below w.heap.size w w':=by
 have e1:=h.len;have e2:=h2.len;rw[ka7] at e1 e2;have E1:=Lib.hid e1;have E2:=Lib.hid e2;have HD:=Lib.hid hd;have HD2:=Lib.hid hd2;clear hd hd2 e1 e2;have R_0:=h.alloc (.cells #[] 110);have S_0:=h2.alloc (.cells #[] 110);have Z0:=(Below.refl w.heap.size w).alloc (Nat.le_refl _) (.cells #[] 110);clear h h2
 go_enter Tryz.func143,Tryz.ntmps143
 go_wp2_with fail
 refine(sz_parse R_0 S_0 hn hn2).mono ?_;rintro e w1 ⟨A3,m3,c3,ts,rfl,⟨hT,hP⟩,y1⟩;have HP:=Lib.hid hP;clear hP;have z1:=Z0.trans (y1.mono Z0.size);have Z1:=z1.alloc (by have:=z1.size;omega) (.cells #[.int .i64 0,.int .i64 0] 24);have T_1:=hT.alloc (.cells #[.int .i64 0,.int .i64 0] 24);have hdl:data.length≤1024:=by rw[E1.out];exact hn
 have hdl2:dict.length≤512:=by rw[E2.out];exact hn2
 obtain⟨ok1,ok2,-⟩:=HP.out.ok hdl hdl2;have OK1:=Lib.hid ok1;have OK2:=Lib.hid ok2;have LT:=Lib.hid (HP.out.lit HD.out HD2.out);clear ok1 ok2 hdl hdl2
 go_wp2_with fail
 refine(lzenc_ok T_1 OK2.out (AllTok.of _ OK1.out) LT.out).mono ?_;rintro e w2 ⟨A4,n4,c4,rfl,ho,y2⟩;have z2:=Z1.trans (y2.mono Z1.size);have Z2:=(z2.alloc (by have:=z2.size;omega) (.cells #[.slice A4 n4 c4,.int .i64 ((codeOf ts).length:Nat)] 70)).alloc (by have:=z2.size;simp;omega) (.cells #[.int .i64 0,.int .i64 0] 24);have RO:=((Rd.own ho).alloc (.cells #[.slice A4 n4 c4,.int .i64 ((codeOf ts).length:Nat)] 70)).alloc (.cells #[.int .i64 0,.int .i64 0] 24);have b0:=(Two.new w2 70 (.slice A4 n4 c4) (.int .i64 ((codeOf ts).length:Nat))).alloc (.cells #[.int .i64 0,.int .i64 0] 24);have b0_c0:=b0.c0;have b0_c1:=b0.c1;clear ho z2 y2
 go_wp2
 go_ret
 exact⟨A4,n4,c4,ts,rfl,HP.out,RO,Z2⟩
def allbits(d:List Nat):List Nat:=(List.range (8*d.length)).map (bitAt d)
theorem kbi7(d:List Nat):(allbits d).length=8*d.length:=by simp[allbits]
theorem allbits_getD(d:List Nat)(i:Nat)(hi:i<8*d.length):(allbits d).getD i 0=bitAt d i:=by
 unfold allbits;rw[List.getD_eq_getElem?_getD,List.getElem?_map,List.getElem?_range hi];rfl
theorem kcn7(d:List Nat):Is01 (allbits d):=by
 refine Is01.of_mem fun x hx=>?_;obtain⟨i,_,rfl⟩:=List.mem_map.1 hx;unfold bitAt;omega
theorem kgm7(d:List Nat)(k:Nat)(hk:k<8*d.length):(allbits d).take (k+1)=(allbits d).take k++[bitAt d k]:=by
 rw[List.take_succ_eq_append_getElem (by rw[kbi7];exact hk)]
 congr 2
 rw[←kbf7,allbits_getD d k hk]
end PB
end
namespace PB
def Wid(lo hi:Int):Prop:=0≤lo∧lo<32768∧32768≤hi∧hi≤65535∧(lo<16384∨49152≤hi)
instance (lo hi:Int):Decidable (Wid lo hi):=by unfold Wid;exact inferInstance
def splitOf(lo hi p:Int):Int:=lo+(hi-lo+1)*p / 4096-1
def twc(lo hi:Int):Option Nat:=if hi<32768 then some 0 else if 32768≤lo then some 2 else if 16384≤lo∧hi<49152 then some 1 else none
def Rng(lo hi:Int):Prop:=0≤lo∧hi≤65535∧lo+3≤hi
def dbl:Nat→Int→Int→Int×Int×List Nat
 | 0,lo,hi=>(lo,hi,[])
 | f+1,lo,hi=>match twc lo hi with
  | none=>(lo,hi,[])
  | some k=>let r:=dbl f (2*(lo-16384*k)) (2*(hi-16384*k)+1)
   (r.1,r.2.1,k::r.2.2)
theorem twc_cases{lo hi:Int}(h:Rng lo hi):(twc lo hi=none∧Wid lo hi)∨∃ k:Nat,twc lo hi=some k∧k≤2∧Rng (2*(lo-16384*k)) (2*(hi-16384*k)+1):=by
 obtain⟨h1,h2,h3⟩:=h;unfold twc;by_cases a:hi<32768
 ·right;exact⟨0,by rw[if_pos a],by omega,by unfold Rng;omega⟩
 ·by_cases b:32768≤lo
  ·right;exact⟨2,by rw[if_neg a,if_pos b],by omega,by unfold Rng;omega⟩
  ·by_cases c:16384≤lo∧hi<49152
   ·right;exact⟨1,by rw[if_neg a,if_neg b,if_pos c],by omega,by unfold Rng;omega⟩
   ·left;refine⟨by rw[if_neg a,if_neg b,if_neg c],?_⟩;unfold Wid;omega
theorem dbl_none{lo hi:Int}{f:Nat}(h:twc lo hi=none):dbl f lo hi=(lo,hi,[]):=by
 cases f with
 | zero=>rfl
 | succ f=>rw[dbl,h]
theorem dbl_some{lo hi:Int}{f k:Nat}(h:twc lo hi=some k):dbl (f+1) lo hi=((dbl f (2*(lo-16384*k)) (2*(hi-16384*k)+1)).1,(dbl f (2*(lo-16384*k)) (2*(hi-16384*k)+1)).2.1,k::(dbl f (2*(lo-16384*k)) (2*(hi-16384*k)+1)).2.2):=by
 rw[dbl,h]
theorem dbl_wide:∀ f lo hi,Rng lo hi→(65536:Int)<(hi-lo+1)*2 ^ f→Wid (dbl f lo hi).1 (dbl f lo hi).2.1∧(dbl f lo hi).2.2.length<f∧(∀ k∈(dbl f lo hi).2.2,k≤2) ∧
  (dbl f lo hi).2.1-(dbl f lo hi).1+1=(hi-lo+1)*2 ^ (dbl f lo hi).2.2.length:=by
 intro f
 induction f with
 | zero =>
  intro lo hi h hs;obtain⟨h1,h2,h3⟩:=h;omega
 | succ f ih =>
  intro lo hi h hs;rcases twc_cases h with⟨h1,h2⟩|⟨k,h1,h2,h3⟩
  ·rw[dbl_none h1];exact⟨h2,Nat.succ_pos _,by simp,by simp⟩
  ·rw[dbl_some h1];have e:2*(hi-16384*(k:Int))+1-2*(lo-16384*(k:Int))+1=2*(hi-lo+1):=by omega
   have hs':(65536:Int)<(2*(hi-16384*(k:Int))+1-2*(lo-16384*(k:Int))+1)*2 ^ f:=by
    rw[e];have:(2*(hi-lo+1))*(2:Int) ^ f=(hi-lo+1)*2 ^ (f+1):=by rw[Int.pow_succ];rw[Int.mul_assoc,Int.mul_left_comm,Int.mul_comm ((2:Int)^f) 2]
    rw[this];exact hs
   obtain⟨a1,a2,a3,a4⟩:=ih _ _ h3 hs';refine⟨a1,by simp only[List.length_cons];omega,?_,?_⟩
   ·intro x hx;rcases List.mem_cons.1 hx with rfl|hx
    ·exact h2
    ·exact a3 x hx
   ·dsimp only;rw[a4,e,List.length_cons,Int.pow_succ];rw[Int.mul_comm 2 (hi-lo+1),Int.mul_assoc,Int.mul_comm 2]
def partOf(lo hi:Int)(b:Nat)(p:Int):Int×Int:=if b=1 then(lo,splitOf lo hi p) else(splitOf lo hi p+1,hi)
theorem wid_size{lo hi:Int}(h:Wid lo hi):16386≤hi-lo+1∧hi-lo+1≤65536:=by
 obtain⟨h1,h2,h3,h4,h5⟩:=h;omega
theorem part_bounds{s p:Int}(hs:16386≤s)(h1:1≤p)(h2:p≤4095):4≤s*p / 4096∧s*p / 4096≤s-4:=by
 have a:s*1≤s*p:=Int.mul_le_mul_of_nonneg_left h1 (by omega);have b:s*p≤s*4095:=Int.mul_le_mul_of_nonneg_left h2 (by omega);generalize s*p=m at a b ⊢;omega
theorem part_rng{lo hi p:Int}(b:Nat)(h:Wid lo hi)(h1:1≤p)(h2:p≤4095):Rng (partOf lo hi b p).1 (partOf lo hi b p).2:=by
 obtain⟨a1,a2⟩:=wid_size h;obtain⟨b1,b2⟩:=part_bounds a1 h1 h2;obtain⟨c1,c2,c3,c4,c5⟩:=h;unfold partOf Rng splitOf
 split<;>(dsimp only;omega)
def stp(lo hi:Int)(b:Nat)(p:Int):Int×Int×List Nat:=dbl 20 (partOf lo hi b p).1 (partOf lo hi b p).2
theorem two_pow_cast(n:Nat):(2:Int) ^ n=((2 ^ n:Nat):Int):=by simp
theorem kct7{lo hi p:Int}(b:Nat)(h:Wid lo hi)(h1:1≤p)(h2:p≤4095):Wid (stp lo hi b p).1 (stp lo hi b p).2.1∧(stp lo hi b p).2.2.length≤14∧(∀ k∈(stp lo hi b p).2.2,k≤2) ∧
  (stp lo hi b p).2.1-(stp lo hi b p).1+1=((partOf lo hi b p).2-(partOf lo hi b p).1+1)*2 ^ (stp lo hi b p).2.2.length:=by
 have hr:=part_rng b h h1 h2;obtain⟨r1,r2,r3⟩:=hr;obtain⟨d1,d2,d3,d4⟩:=dbl_wide 20 _ _ ⟨r1,r2,r3⟩ (by
  have e:(2:Int) ^ 20=1048576:=by decide
  rw[e];omega)
 refine⟨d1,?_,d3,d4⟩;rcases Nat.lt_or_ge 14 (stp lo hi b p).2.2.length with hc|hc
 ·exfalso;have w:=(wid_size d1).2;have e:(32768:Nat)≤2 ^ (stp lo hi b p).2.2.length:=Nat.le_trans (by decide:32768≤2 ^ 15) (Nat.pow_le_pow_right (by decide) (by omega));have e2:(32768:Int)≤2 ^ (stp lo hi b p).2.2.length:=by rw[two_pow_cast];omega
  have e3:4*(2:Int) ^ (stp lo hi b p).2.2.length≤((partOf lo hi b p).2-(partOf lo hi b p).1+1)*2 ^ (stp lo hi b p).2.2.length:=Int.mul_le_mul_of_nonneg_right (by omega) (by omega);have d5:(dbl 20 (partOf lo hi b p).1 (partOf lo hi b p).2).2.2.length=(stp lo hi b p).2.2.length:=rfl;rw[d5] at d4;omega
 ·exact hc
def sentf:List Nat→Nat→List Nat×Nat
 | [],q=>([],q)
 | k::r,q=>if k=1 then sentf r (q+1) else(k / 2::(List.replicate q (1-k / 2)++(sentf r 0).1),(sentf r 0).2)
def crt(b q:Nat):List Nat:=b::List.replicate q (1-b)
theorem kdu7(r:List Nat)(q:Nat):sentf (1::r) q=sentf r (q+1):=by rw[sentf,if_pos rfl]
theorem kar7{k:Nat}(hk:k≠1)(r:List Nat)(q:Nat):sentf (k::r) q=(crt (k / 2) q++(sentf r 0).1,(sentf r 0).2):=by rw[sentf,if_neg hk];rfl
theorem sentf_append(a b:List Nat):∀ q,sentf (a++b) q=((sentf a q).1++(sentf b (sentf a q).2).1,(sentf b (sentf a q).2).2):=by
 induction a with
 | nil=>intro q;rfl
 | cons k r ih =>
  intro q;by_cases hk:k=1
  ·subst hk;rw[List.cons_append,kdu7,kdu7,ih]
  ·rw[List.cons_append,kar7 hk,kar7 hk,ih];simp
theorem kbk7(a:List Nat):∀ q,(sentf a q).1.length+(sentf a q).2=a.length+q:=by
 induction a with
 | nil=>intro q;simp[sentf]
 | cons k r ih =>
  intro q;by_cases hk:k=1
  ·subst hk;rw[kdu7,ih,List.length_cons];omega
  ·rw[kar7 hk];have:=ih 0;simp only[List.length_append,List.length_cons,crt,List.length_replicate];omega
theorem crt_le{b q:Nat}(hb:b≤1):∀ x∈crt b q,x≤1:=by
 intro x hx;rcases List.mem_cons.1 hx with rfl|hx
 ·exact hb
 ·have:=List.eq_of_mem_replicate hx;omega
theorem sentf_le(a:List Nat)(ha:∀ k∈a,k≤2):∀ q,∀ x∈(sentf a q).1,x≤1:=by
 induction a with
 | nil=>intro q x hx;simp[sentf] at hx
 | cons k r ih =>
  intro q x hx;have ih':=ih (fun y hy=>ha y (List.mem_cons_of_mem _ hy));have hk2:=ha k List.mem_cons_self;by_cases hk:k=1
  ·subst hk;rw[kdu7] at hx;exact ih' _ x hx
  ·rw[kar7 hk] at hx;rcases List.mem_append.1 hx with hx|hx
   ·exact crt_le (by omega) x hx
   ·exact ih' 0 x hx
def res:List Nat→Nat×List Nat
 | []=>(0,[])
 | d::r=>(((res r).1+d) / 2,((res r).1+d) % 2::(res r).2)
theorem twc_none{lo hi:Int}(h:twc lo hi=none):32768≤hi∧lo<32768∧(lo<16384∨49152≤hi):=by
 unfold twc at h
 split at h
 ·cases h
 ·split at h
  ·cases h
  ·split at h
   ·cases h
   ·omega
theorem twc_some{lo hi:Int}{k:Nat}(h:twc lo hi=some k):(k=0∧hi<32768)∨(k=2∧32768≤hi∧32768≤lo)∨(k=1∧32768≤hi∧lo<32768∧16384≤lo∧hi<49152):=by
 unfold twc at h
 split at h
 ·injection h with h;omega
 ·split at h
  ·injection h with h;omega
  ·split at h
   ·injection h with h;omega
   ·cases h
end PB
section
open Go.RowKit Go.Shelf
namespace PB
theorem lays166:Go.Proofs.Lays.n166 Tryz.prog Tryz.lays105_ren:={
 mixed:=Tryz.lays105.mixed,
 f166:=Tryz.lays105.f166,
 f240:=Tryz.lays105.f240,
 f276:=Tryz.lays105.f276,
 t0:=Tryz.lays105.t0,
 a0:=Tryz.lays105.a0,
 z0:=Tryz.lays105.z0,
 v0:=Tryz.lays105.v0,
 t3:=Tryz.lays105.t3,
 a3:=Tryz.lays105.a3,
 z3:=Tryz.lays105.z3,
 v3:=Tryz.lays105.v3,
 t4:=Tryz.lays105.t4,
 a4:=Tryz.lays105.a4,
 z4:=Tryz.lays105.z4,
 v4:=Tryz.lays105.v4,
 t9:=Tryz.lays105.t9,
 a9:=Tryz.lays105.a9,
 z9:=Tryz.lays105.z9,
 v9:=Tryz.lays105.v9,
 t20:=Tryz.lays105.t20,
 a20:=Tryz.lays105.a20,
 z20:=Tryz.lays105.z20,
 v20:=Tryz.lays105.v20,
 t37:=Tryz.lays105.t37,
 a37:=Tryz.lays105.a37,
 z37:=Tryz.lays105.z37,
 v37:=Tryz.lays105.v37,
 t70:=Tryz.lays105.t70,
 a70:=Tryz.lays105.a70,
 z70:=Tryz.lays105.z70,
 v70:=Tryz.lays105.v70,
 t72:=Tryz.lays105.t72,
 a72:=Tryz.lays105.a72,
 z72:=Tryz.lays105.z72,
 v72:=Tryz.lays105.v72,
 t75:=Tryz.lays105.t75,
 a75:=Tryz.lays105.a75,
 z75:=Tryz.lays105.z75,
 v75:=Tryz.lays105.v75,
 t164:=Tryz.lays105.t164,
 a164:=Tryz.lays105.a164,
 z164:=Tryz.lays105.z164,
 v164:=Tryz.lays105.v164 }
end PB
end
section
open Go.RowKit
attribute [local go_sem ↓] Go.wp_at_zero Go.wp_at_succ
namespace PB
theorem validp_any(p:Int)(w:World):Calls Tryz.prog 120 #[.int .i64 p] w fun e w'=>e=.returned (.bool (decide (1≤p∧p≤4095)))∧w=w':=by
 by_cases h1:1≤p
 ·have k1:decide ((1:Int)≤p)=true:=by simpa using h1
  by_cases h2:p<4096
  ·have e:decide (1≤p∧p≤4095)=true:=decide_eq_true ⟨h1,by omega⟩;rw[e];have k2:decide (p<4096)=true:=by simpa using h2
   go_enter Tryz.func120,Tryz.ntmps120
   go_wp2
   go_ret
   exact⟨rfl,rfl⟩
  ·have e:decide (1≤p∧p≤4095)=false:=decide_eq_false (by omega);rw[e];have k2:decide (p<4096)=false:=by simp;omega
   go_enter Tryz.func120,Tryz.ntmps120
   go_wp2
   go_ret
   exact⟨rfl,rfl⟩
 ·have e:decide (1≤p∧p≤4095)=false:=decide_eq_false (by omega);rw[e];have k1:decide ((1:Int)≤p)=false:=by simp;omega
  go_enter Tryz.func120,Tryz.ntmps120
  go_wp2
  go_ret
  exact⟨rfl,rfl⟩
theorem wide_any(lo hi:Int)(r:Bool)(hr:r=decide (Wid lo hi))(w:World):Calls Tryz.prog 125 #[.int .i64 lo,.int .i64 hi] w fun e w'=>e=.returned (.bool r)∧w=w':=by
 have HR:=Lib.hid hr;clear hr;cases h1:decide ((0:Int)≤lo)<;>cases h2:decide (lo<32768)<;>cases h3:decide ((32768:Int)≤hi)<;>cases h4:decide (hi≤65535)<;>cases h5:decide (lo<16384)<;>cases h6:decide ((49152:Int)≤hi)
 all_goals
  go_enter Tryz.func125,Tryz.ntmps125
  go_wp2
  go_ret
  refine⟨?_,rfl⟩;have HR2:=HR.out;simp only[decide_eq_true_iff,decide_eq_false_iff_not] at *
  first
   | (rw[HR2,decide_eq_true (by unfold Wid;omega)];rfl)
   | (rw[HR2,decide_eq_false (by unfold Wid;omega)];rfl)
theorem part_any{lo hi p:Int}{b:Nat}(hb:b≤1)(h:Wid lo hi)(h1:1≤p)(h2:p≤4095)(l2 u2:Int)(hl:l2=(partOf lo hi b p).1)(hu:u2=(partOf lo hi b p).2)(w:World) :
  Calls Tryz.prog 129 #[.int .i64 lo,.int .i64 hi,.int .i64 (b:Nat),.int .i64 p] w fun e w'=>e=.returned (.tuple #[.int .i64 l2,.int .i64 u2])∧w=w':=by
 obtain⟨a1,a2⟩:=wid_size h;obtain⟨b1,b2⟩:=part_bounds a1 h1 h2;obtain⟨c1,c2,c3,c4,c5⟩:=h;have m1:(hi-lo+1)*p≤(hi-lo+1)*4095:=Int.mul_le_mul_of_nonneg_left h2 (by omega);have m2:(hi-lo+1)*1≤(hi-lo+1)*p:=Int.mul_le_mul_of_nonneg_left h1 (by omega);have q1:IntKind.i64.wrap (hi-lo)=hi-lo:=IntWalk.i64_in _ (by omega);have q2:IntKind.i64.wrap (hi-lo+1)=hi-lo+1:=IntWalk.i64_in _ (by omega);have q3:IntKind.i64.wrap ((hi-lo+1)*p)=(hi-lo+1)*p:=IntWalk.i64_in _ (by omega);have q4:((hi-lo+1)*p).tdiv 4096=(hi-lo+1)*p / 4096:=Int.tdiv_eq_ediv_of_nonneg (by omega);have q5:IntKind.i64.wrap ((hi-lo+1)*p / 4096)=(hi-lo+1)*p / 4096:=IntWalk.i64_in _ (by omega);obtain⟨s,hs⟩:∃ s,s=(hi-lo+1)*p / 4096:=⟨_,rfl⟩
 rw[←hs] at b1 b2 q4 q5;unfold partOf splitOf at hl hu;rw[←hs] at hl hu;clear hs m1 m2 a1 a2;have HL:=Lib.hid hl;have HU:=Lib.hid hu;clear hl hu;rcases(by omega:b=1∨b=0) with rfl|rfl
 ·go_enter Tryz.func129,Tryz.ntmps129
  go_wp2
  exact bodyPost_ret (v:=.tuple #[.int .i64 lo,.int .i64 (lo+s-1)]) (by simp[results,Tryz.results129,go_sem]) rfl ⟨by rw[HL.out,HU.out];rfl,rfl⟩
 ·go_enter Tryz.func129,Tryz.ntmps129
  go_wp2
  exact bodyPost_ret (v:=.tuple #[.int .i64 (lo+s-1+1),.int .i64 hi]) (by simp[results,Tryz.results129,go_sem]) rfl ⟨by rw[HL.out,HU.out];rfl,rfl⟩
theorem double_none{lo hi:Int}(h:Rng lo hi)(ht:twc lo hi=none)(w:World) :
  Calls Tryz.prog 130 #[.int .i64 lo,.int .i64 hi] w fun e w'=>e=.returned (.tuple #[.int .i64 lo,.int .i64 hi,.int .i64 0,.bool false])∧w=w':=by
 obtain⟨r1,r2,r3⟩:=h;obtain⟨t1,t2,t3⟩:=twc_none ht;clear ht;have k1:decide (hi<32768)=false:=by simp;omega
 have k2:decide ((32768:Int)≤lo)=false:=by simp;omega
 by_cases h3:16384≤lo
 ·have k3:decide ((16384:Int)≤lo)=true:=by simpa using h3
  have k4:decide (hi<49152)=false:=by simp;omega
  clear t1 t2 t3 h3
  go_enter Tryz.func130,Tryz.ntmps130
  go_wp2
  exact bodyPost_ret (v:=.tuple #[.int .i64 (lo),.int .i64 (hi),.int .i64 (0),.bool false]) (by simp[results,Tryz.results130,go_sem]) rfl ⟨rfl,rfl⟩
 ·have k3:decide ((16384:Int)≤lo)=false:=by simp;omega
  clear t1 t2 t3 h3
  go_enter Tryz.func130,Tryz.ntmps130
  go_wp2
  exact bodyPost_ret (v:=.tuple #[.int .i64 (lo),.int .i64 (hi),.int .i64 (0),.bool false]) (by simp[results,Tryz.results130,go_sem]) rfl ⟨rfl,rfl⟩
theorem double_some{lo hi:Int}{k:Nat}(h:Rng lo hi)(ht:twc lo hi=some k)(w:World) :
  Calls Tryz.prog 130 #[.int .i64 lo,.int .i64 hi] w fun e w'=>e=.returned (.tuple #[.int .i64 (2*(lo-16384*k)),.int .i64 (2*(hi-16384*k)+1),.int .i64 (16384*k),.bool true])∧w=w':=by
 obtain⟨r1,r2,r3⟩:=h;rcases twc_some ht with⟨rfl,h1⟩|⟨rfl,h1,h2⟩|⟨rfl,h1,h2,h3,h4⟩
 ·have k1:decide (hi<32768)=true:=by simpa using h1
  clear ht h1;have q1:IntKind.i64.wrap (2*lo)=2*lo:=IntWalk.i64_in _ (by omega);have q2:IntKind.i64.wrap (2*hi)=2*hi:=IntWalk.i64_in _ (by omega);have q3:IntKind.i64.wrap (2*hi+1)=2*hi+1:=IntWalk.i64_in _ (by omega);have e0:lo-16384*((0:Nat):Int)=lo:=by omega
  have e1:hi-16384*((0:Nat):Int)=hi:=by omega
  rw[e0,e1];clear e0 e1
  go_enter Tryz.func130,Tryz.ntmps130
  go_wp2
  exact bodyPost_ret (v:=.tuple #[.int .i64 (2*lo),.int .i64 (2*hi+1),.int .i64 (0),.bool true]) (by simp[results,Tryz.results130,go_sem]) rfl ⟨rfl,rfl⟩
 ·have k1:decide (hi<32768)=false:=by simp;omega
  have k2:decide ((32768:Int)≤lo)=true:=by simpa using h2
  clear ht h1 h2;have q0:IntKind.i64.wrap (lo-32768)=lo-32768:=IntWalk.i64_in _ (by omega);have q1:IntKind.i64.wrap (2*(lo-32768))=2*(lo-32768):=IntWalk.i64_in _ (by omega);have q2:IntKind.i64.wrap (hi-32768)=hi-32768:=IntWalk.i64_in _ (by omega);have q3:IntKind.i64.wrap (2*(hi-32768))=2*(hi-32768):=IntWalk.i64_in _ (by omega);have q4:IntKind.i64.wrap (2*(hi-32768)+1)=2*(hi-32768)+1:=IntWalk.i64_in _ (by omega)
  go_enter Tryz.func130,Tryz.ntmps130
  go_wp2
  exact bodyPost_ret (v:=.tuple #[.int .i64 (2*(lo-32768)),.int .i64 (2*(hi-32768)+1),.int .i64 (32768),.bool true]) (by simp[results,Tryz.results130,go_sem]) rfl ⟨rfl,rfl⟩
 ·have k1:decide (hi<32768)=false:=by simp;omega
  have k2:decide ((32768:Int)≤lo)=false:=by simp;omega
  have k3:decide ((16384:Int)≤lo)=true:=by simpa using h3
  have k4:decide (hi<49152)=true:=by simpa using h4
  clear ht h1 h2 h3 h4;have q0:IntKind.i64.wrap (lo-16384)=lo-16384:=IntWalk.i64_in _ (by omega);have q1:IntKind.i64.wrap (2*(lo-16384))=2*(lo-16384):=IntWalk.i64_in _ (by omega);have q2:IntKind.i64.wrap (hi-16384)=hi-16384:=IntWalk.i64_in _ (by omega);have q3:IntKind.i64.wrap (2*(hi-16384))=2*(hi-16384):=IntWalk.i64_in _ (by omega);have q4:IntKind.i64.wrap (2*(hi-16384)+1)=2*(hi-16384)+1:=IntWalk.i64_in _ (by omega)
  go_enter Tryz.func130,Tryz.ntmps130
  go_wp2
  exact bodyPost_ret (v:=.tuple #[.int .i64 (2*(lo-16384)),.int .i64 (2*(hi-16384)+1),.int .i64 (16384),.bool true]) (by simp[results,Tryz.results130,go_sem]) rfl ⟨rfl,rfl⟩
def bt(l:List Nat):ByteArray:=bstr (l.map (48+·))
theorem kic7(l:List Nat):(bt l).data=(l.map fun x=>UInt8.ofNat (48+x)).toArray:=by simp[bt,bstr]
theorem kfg7(a b:List Nat):bt (a++b)=bt a++bt b:=by
 apply ByteArray.ext;rw[ByteArray.data_append,kic7,kic7,kic7];simp
theorem kee7(l:List Nat):(bt l).size=l.length:=by
 show(bt l).data.size=_;rw[kic7];simp
theorem repeat_one(x:UInt8):∀ q,Lib.repeatL [x] q=List.replicate q x:=by
 intro q
 induction q with
 | zero=>rfl
 | succ q ih=>show [x]++Lib.repeatL [x] q=_;rw[ih,List.replicate_succ];rfl
theorem rep_text(b:Nat)(q:Nat):(⟨(Lib.repeatL [UInt8.ofNat (48+b)] q).toArray⟩:ByteArray)=bt (List.replicate q b):=by
 apply ByteArray.ext;rw[kic7,repeat_one];simp
theorem certain_any{b q:Nat}(hb:b≤1)(hq:q≤1000000)(w:World) :
  Calls Tryz.prog 131 #[.int .i64 (b:Nat),.int .i64 (q:Nat)] w fun e w'=>e=.returned (.string (bt (crt b q)))∧Below w.heap.size w w':=by
 rcases(by omega:b=0∨b=1) with rfl|rfl
 ·have e0:bt (crt 0 q)=⟨#[48]⟩++bt (List.replicate q 1):=kfg7 [0] (List.replicate q 1);rw[e0,←rep_text 1 q];have C:=Lib.hid (Tryz.strings_Repeat ⟨#[49]⟩ q w (by omega) (by show 1*q≤_;omega));obtain⟨R,hR⟩:∃ R:ByteArray,R=⟨(Lib.repeatL [UInt8.ofNat (48+1)] q).toArray⟩:=⟨_,rfl⟩
  have C2:=C.out;have e1:(⟨(Lib.repeatL (⟨#[49]⟩:ByteArray).data.toList q).toArray⟩:ByteArray)=R:=by rw[hR];rfl
  rw[e1] at C2;rw[←hR];have HC:=Lib.hid C2;have hns:¬(9223372036854775807<1+R.size):=by rw[hR,rep_text 1 q,kee7,List.length_replicate];omega
  clear C C2 e1 hR  e0
  go_enter Tryz.func131,Tryz.ntmps131
  go_wp2_with fail
  refine HC.out.mono ?_;rintro e w1 ⟨rfl,y1⟩
  go_wp2
  go_ret
  exact⟨rfl,y1⟩
 ·have e0:bt (crt 1 q)=⟨#[49]⟩++bt (List.replicate q 0):=kfg7 [1] (List.replicate q 0);rw[e0,←rep_text 0 q];have C:=Lib.hid (Tryz.strings_Repeat ⟨#[48]⟩ q w (by omega) (by show 1*q≤_;omega));obtain⟨R,hR⟩:∃ R:ByteArray,R=⟨(Lib.repeatL [UInt8.ofNat (48+0)] q).toArray⟩:=⟨_,rfl⟩
  have C2:=C.out;have e1:(⟨(Lib.repeatL (⟨#[48]⟩:ByteArray).data.toList q).toArray⟩:ByteArray)=R:=by rw[hR];rfl
  rw[e1] at C2;rw[←hR];have HC:=Lib.hid C2;have hns:¬(9223372036854775807<1+R.size):=by rw[hR,rep_text 0 q,kee7,List.length_replicate];omega
  clear C C2 e1 hR  e0
  go_enter Tryz.func131,Tryz.ntmps131
  go_wp2_with fail
  refine HC.out.mono ?_;rintro e w1 ⟨rfl,y1⟩
  go_wp2
  go_ret
  exact⟨rfl,y1⟩
theorem kdv7{b q:Nat}(bi qi:Int)(hbi:bi=(b:Nat))(hqi:qi=(q:Nat))(hb:b≤1)(hq:q≤1000000)(w:World) :
  Calls Tryz.prog 131 #[.int .i64 bi,.int .i64 qi] w fun e w'=>e=.returned (.string (bt (crt b q)))∧Below w.heap.size w w':=by
 subst hbi hqi;exact certain_any hb hq w
theorem double_int{lo hi:Int}{k:Nat}(h:Rng lo hi)(ht:twc lo hi=some k)(l2 u2 o2:Int)(hl:l2=2*(lo-16384*k))(hu:u2=2*(hi-16384*k)+1)(ho:o2=16384*k)(w:World) :
  Calls Tryz.prog 130 #[.int .i64 lo,.int .i64 hi] w fun e w'=>e=.returned (.tuple #[.int .i64 l2,.int .i64 u2,.int .i64 o2,.bool true])∧w=w':=by
 subst hl hu ho;exact double_some h ht w
theorem fuel_pos{l u:Int}{f:Nat}(h:Rng l u)(hf:65536<(u-l+1)*2 ^ f):∃ g,f=g+1:=by
 obtain⟨h1,h2,h3⟩:=h;cases f with
 | zero=>exfalso;rw[Int.pow_zero] at hf;omega
 | succ g=>exact⟨g,rfl⟩
theorem fuel_next{l u:Int}{k f:Nat}(hf:65536<(u-l+1)*2 ^ (f+1)):65536<(2*(u-16384*(k:Int))+1-2*(l-16384*(k:Int))+1)*(2:Int) ^ f:=by
 have e:2*(u-16384*(k:Int))+1-2*(l-16384*(k:Int))+1=(u-l+1)*2:=by omega
 rw[e,Int.mul_assoc,Int.mul_comm 2];exact hf
theorem encode_any{lo hi p:Int}{b q:Nat}(h:Wid lo hi)(h1:1≤p)(h2:p≤4095)(hb:b≤1)(hq:q≤200000)(LO HI:Int)(S:List Nat)(Q:Nat)(hLO:LO=(stp lo hi b p).1)(hHI:HI=(stp lo hi b p).2.1)(hS:S=(sentf (stp lo hi b p).2.2 q).1)(hQ:Q=(sentf (stp lo hi b p).2.2 q).2)(w:World) :
  Calls Tryz.prog 121 #[.agg #[.int .i64 lo,.int .i64 hi,.int .i64 (q:Nat)],.int .i64 (b:Nat),.int .i64 p] w fun e w'=>e=.returned (.tuple #[.agg #[.int .i64 LO,.int .i64 HI,.int .i64 (Q:Nat)],.string (bt S)])∧Below w.heap.size w w':=by
 have hr0:=part_rng b h h1 h2;obtain⟨st1,st2,st3,st4⟩:=kct7 b h h1 h2;obtain⟨l2,hl2⟩:∃ l2,l2=(partOf lo hi b p).1:=⟨_,rfl⟩
 obtain⟨u2,hu2⟩:∃ u2,u2=(partOf lo hi b p).2:=⟨_,rfl⟩
 have hD0:dbl 20 l2 u2=(LO,HI,(stp lo hi b p).2.2):=by rw[hl2,hu2,hLO,hHI];rfl
 obtain⟨R,hR⟩:∃ R,R=(stp lo hi b p).2.2:=⟨_,rfl⟩
 rw[←hR] at hD0 st2 st3 hS hQ;have HS:=Lib.hid hS;have HQ:=Lib.hid hQ;have HD0:=Lib.hid hD0;have HR0:=Lib.hid (show Rng l2 u2 by rw[hl2,hu2];exact hr0);have HF0:=Lib.hid (show 65536<(u2-l2+1)*(2:Int) ^ 20 by
  obtain⟨r1,r2,r3⟩:=hr0;have e:(2:Int) ^ 20=1048576:=by decide
  rw[e,hl2,hu2];omega)
 have HPA:=Lib.hid (fun(W:World)=>part_any hb h h1 h2 l2 u2 hl2 hu2 W);have HRL:=Lib.hid st2;clear hl2 hu2 hD0 hR hS hQ hLO hHI st1 st2 st3 st4 hr0;have C0:=(Three.new w 141 (.int .i64 lo) (.int .i64 hi) (.int .i64 (q:Nat))).alloc (.cells #[.int .i64 0,.int .i64 0,.int .i64 0] 141);have X0:=Three.new1 w (.cells #[.int .i64 lo,.int .i64 hi,.int .i64 (q:Nat)] 141) 141 (.int .i64 0) (.int .i64 0) (.int .i64 0);have y0:Below w.heap.size w ((w.alloc (.cells #[.int .i64 lo,.int .i64 hi,.int .i64 (q:Nat)] 141)).alloc (.cells #[.int .i64 0,.int .i64 0,.int .i64 0] 141)):=((Below.refl _ _).alloc (Nat.le_refl _) _).alloc (by simp) _;have c0:=C0.c0;have c1:=C0.c1;have c2:=C0.c2;have g0:=C0.f0;have g1:=C0.f1;have g2:=C0.f2
 go_enter Tryz.func121,Tryz.ntmps121
 go_wp2_with fail
 refine(HPA.out _).mono ?_;rintro e w9 ⟨rfl,rfl⟩
 go_upto_region 2 with(fail)
 have C1:=(Three.new w 141 (.int .i64 l2) (.int .i64 u2) (.int .i64 (q:Nat))).alloc (.cells #[.int .i64 0,.int .i64 0,.int .i64 0] 141);have X1:=Three.new1 w (.cells #[.int .i64 l2,.int .i64 u2,.int .i64 (q:Nat)] 141) 141 (.int .i64 0) (.int .i64 0) (.int .i64 0);have Y1:Below w.heap.size w ((w.alloc (.cells #[.int .i64 l2,.int .i64 u2,.int .i64 (q:Nat)] 141)).alloc (.cells #[.int .i64 0,.int .i64 0,.int .i64 0] 141)):=((Below.refl _ _).alloc (Nat.le_refl _) _).alloc (by simp) _;generalize ((w.alloc (.cells #[.int .i64 l2,.int .i64 u2,.int .i64 (q:Nat)] 141)).alloc (.cells #[.int .i64 0,.int .i64 0,.int .i64 0] 141))=wa at C1 X1 Y1 ⊢;clear C0 X0 y0 c0 c1 c2 g0 g1 g2
 go_wp2_with fail
 go_loopw [8,9,10,11,12] (fun t _ _ _ _ wr=>∃ (l u:Int) (q' f:Nat) (rest out:List Nat),Rng l u∧dbl f l u=(LO,HI,rest)∧65536<(u-l+1)*(2:Int) ^ f∧out++(sentf rest q').1=S∧(sentf rest q').2=Q∧out.length+q'+rest.length≤q+20∧t=.string (bt out) ∧
   Three wr w.heap.size 141 (.int .i64 l) (.int .i64 u) (.int .i64 (q':Nat))∧Three wr (w.heap.size+1) 141 (.int .i64 0) (.int .i64 0) (.int .i64 0)∧Below w.heap.size w wr) (fun _ _ _ _ _ wr=>(65536-(intOf ((wr.cell? ⟨w.heap.size,1,none⟩).getD undef)-intOf ((wr.cell? ⟨w.heap.size,0,none⟩).getD undef))).toNat)
 case atStart =>
  refine⟨l2,u2,q,20,R,[],HR0.out,HD0.out,HF0.out,HS.out.symm,HQ.out.symm,by have:=HRL.out;simp;omega,rfl,C1,X1,Y1⟩
 case round =>
  obtain⟨l,u,q',f,rest,out,hrg,hd,hf,hs,hq2,hlen,rfl,C,X,yr⟩:=hrel;clear C1 X1 Y1;have HD:=Lib.hid hd;have HF:=Lib.hid hf;have HS1:=Lib.hid hs;have HQ1:=Lib.hid hq2;have HRG:=Lib.hid hrg;obtain⟨rg1,rg2,rg3⟩:=hrg;clear hd hf hs hq2;have c0:=C.c0;have c1:=C.c1;have c2:=C.c2;have g0:=C.f0;have g1:=C.f1;have g2:=C.f2;rcases twc_cases HRG.out with⟨hn,hW⟩|⟨k,hk,hk2,hR'⟩
  ·have HN:=Lib.hid hn;have e1:=HD.out;rw[dbl_none hn] at e1;injection e1 with e1 e2;injection e2 with e2 e3;subst e1 e2 e3;have HB:=Lib.hid (show out=S by have:=HS1.out;simpa [sentf] using this);have HQ3:=Lib.hid (show q'=Q from HQ1.out);clear hn hW;have x0:=X.f0;have x1:=X.f1;have x2:=X.f2;have a0:=X.c0;have a1:=X.c1;have a2:=X.c2
   go_wp2_with fail
   refine(double_none HRG.out HN.out _).mono ?_;rintro e w9 ⟨rfl,rfl⟩;have r0:=(((X.set0 (.int .i64 l)).set1 (.int .i64 u)).set2 (.int .i64 (q':Nat))).c0;have r1:=(((X.set0 (.int .i64 l)).set1 (.int .i64 u)).set2 (.int .i64 (q':Nat))).c1;have r2:=(((X.set0 (.int .i64 l)).set1 (.int .i64 u)).set2 (.int .i64 (q':Nat))).c2;have R0:=Lib.hid r0;have R1:=Lib.hid r1;have R2:=Lib.hid r2;clear r0 r1 r2
   go_wp2
   have r0:=R0.out;have r1:=R1.out;have r2:=R2.out;exact bodyPost_ret (v:=.tuple #[.agg #[.int .i64 l,.int .i64 u,.int .i64 (q':Nat)],.string (bt out)]) (by simp[results,Tryz.results121,go_sem,r0,r1,r2]) rfl ⟨by rw[HB.out,HQ3.out],((yr.setCell (p:=⟨w.heap.size+1,0,none⟩) (by simp) _).setCell (p:=⟨w.heap.size+1,1,none⟩) (by simp) _).setCell (p:=⟨w.heap.size+1,2,none⟩) (by simp) _⟩
  ·obtain⟨g,rfl⟩:=fuel_pos HRG.out HF.out;have hd1:=HD.out;rw[dbl_some hk] at hd1;injection hd1 with e1 e2;injection e2 with e2 e3;obtain⟨l',hl'⟩:∃ l',l'=2*(l-16384*(k:Int)):=⟨_,rfl⟩
   obtain⟨u',hu'⟩:∃ u',u'=2*(u-16384*(k:Int))+1:=⟨_,rfl⟩
   rw[←hl',←hu'] at e1 e2 e3 hR';obtain⟨rest',hrest⟩:∃ r,r=(dbl g l' u').2.2:=⟨_,rfl⟩
   have HD2:=Lib.hid (show dbl g l' u'=(LO,HI,rest') by rw[←e1,←e2,hrest]);rw[←hrest] at e3;subst e3;have HF2:=Lib.hid (show 65536<(u'-l'+1)*(2:Int) ^ g by have:=fuel_next (k:=k) HF.out;rwa [←hl',←hu'] at this);have HL2:=Lib.hid hR';have HK:=Lib.hid hk;have HLEN:=Lib.hid hlen;have hqb:q'≤300000:=by omega
   have MC0:=Lib.hid c0;have MC1:=Lib.hid c1;have hmm:u'-l'=2*(u-l)+1:=by rw[hl',hu'];omega
   obtain⟨n1,n2,n3⟩:=hR';have HDB:=Lib.hid (fun(o2:Int) (ho:o2=16384*(k:Int)) (W:World)=>double_int HRG.out HK.out l' u' o2 hl' hu' ho W);clear hk e1 e2 hrest hl' hu' hlen
   go_wp2_with fail
   rcases(by omega:k=1∨k=0∨k=2) with rfl|rfl|rfl
   ·refine(HDB.out 16384 (by decide) _).mono ?_;rintro e w9 ⟨rfl,rfl⟩
    go_upto_region 10 with(fail)
    have C2:Three (wr.setCell ⟨w.heap.size,2,none⟩ (.int .i64 ((q':Int)+1))) w.heap.size 141 (.int .i64 l) (.int .i64 u) (.int .i64 ((q'+1:Nat):Int)):=by have:=C.set2 (.int .i64 ((q':Int)+1));rwa [show(q':Int)+1=((q'+1:Nat):Int) by omega] at this ⊢
    have X2:=X.far (p:=⟨w.heap.size,2,none⟩) (by show w.heap.size+1≠w.heap.size;omega) (.int .i64 ((q':Int)+1));have Y2:=yr.setCell (p:=⟨w.heap.size,2,none⟩) (Nat.le_refl _) (.int .i64 ((q':Int)+1));generalize (wr.setCell ⟨w.heap.size,2,none⟩ (.int .i64 ((q':Int)+1)))=wc at C2 X2 Y2 ⊢;clear c0 c1 c2 g0 g1 g2 C X yr;have c0:=C2.c0;have c1:=C2.c1;have g0:=C2.f0;have g1:=C2.f1
    go_wp2_with fail
    have C3:=(C2.set0 (.int .i64 l')).set1 (.int .i64 u');have X3:=(X2.far (p:=⟨w.heap.size,0,none⟩) (by show w.heap.size+1≠w.heap.size;omega) (.int .i64 l')).far (p:=⟨w.heap.size,1,none⟩) (by show w.heap.size+1≠w.heap.size;omega) (.int .i64 u');have Y3:=(Y2.setCell (p:=⟨w.heap.size,0,none⟩) (Nat.le_refl _) (.int .i64 l')).setCell (p:=⟨w.heap.size,1,none⟩) (Nat.le_refl _) (.int .i64 u');have m0:=C3.c0;have m1:=C3.c1
    go_roundw
    case rel=>exact⟨l',u',q'+1,g,rest',out,HL2.out,HD2.out,HF2.out,by have:=HS1.out;rwa [kdu7] at this,by have:=HQ1.out;rwa [kdu7] at this,by have:=HLEN.out;simp only[List.length_cons] at this;omega,rfl,C3,X3,Y3⟩
    case measure=>simp[m0,m1,MC0.out,MC1.out,intOf]<;>omega
   ·refine(HDB.out 0 (by decide) _).mono ?_;rintro e w9 ⟨rfl,rfl⟩;have hns:¬(9223372036854775807<(bt out).size+(bt (crt 0 q')).size):=by rw[kee7,kee7];have:=HLEN.out;simp only[List.length_cons,crt,List.length_replicate] at this ⊢;omega
    go_wp2_with fail
    refine(kdv7 (b:=0) (q:=q') _ _ rfl rfl (by decide) (by have:=HLEN.out;omega) _).mono ?_;rintro e w5 ⟨rfl,y5⟩;have C:=C.on y5;have X:=X.on y5;have yr:=yr.trans (y5.mono yr.size);have c0:=C.c0;have c1:=C.c1;have c2:=C.c2;have g0:=C.f0;have g1:=C.f1;have g2:=C.f2
    go_upto_region 10 with(fail)
    have C2:Three (w5.setCell ⟨w.heap.size,2,none⟩ (.int .i64 0)) w.heap.size 141 (.int .i64 l) (.int .i64 u) (.int .i64 ((0:Nat):Int)):=C.set2 (.int .i64 0);have X2:=X.far (p:=⟨w.heap.size,2,none⟩) (by show w.heap.size+1≠w.heap.size;omega) (.int .i64 0);have Y2:=yr.setCell (p:=⟨w.heap.size,2,none⟩) (Nat.le_refl _) (.int .i64 0);generalize (w5.setCell ⟨w.heap.size,2,none⟩ (.int .i64 0))=wc at C2 X2 Y2 ⊢;clear c0 c1 c2 g0 g1 g2 C X yr;have c0:=C2.c0;have c1:=C2.c1;have g0:=C2.f0;have g1:=C2.f1
    go_wp2_with fail
    have C3:=(C2.set0 (.int .i64 l')).set1 (.int .i64 u');have X3:=(X2.far (p:=⟨w.heap.size,0,none⟩) (by show w.heap.size+1≠w.heap.size;omega) (.int .i64 l')).far (p:=⟨w.heap.size,1,none⟩) (by show w.heap.size+1≠w.heap.size;omega) (.int .i64 u');have Y3:=(Y2.setCell (p:=⟨w.heap.size,0,none⟩) (Nat.le_refl _) (.int .i64 l')).setCell (p:=⟨w.heap.size,1,none⟩) (Nat.le_refl _) (.int .i64 u');have m0:=C3.c0;have m1:=C3.c1
    go_roundw
    case rel=>exact⟨l',u',0,g,rest',(out++crt 0 q'),HL2.out,HD2.out,HF2.out,by have:=HS1.out;rw[kar7 (by decide)] at this;rw[List.append_assoc];exact this,by have:=HQ1.out;rwa [kar7 (by decide)] at this,by have:=HLEN.out;simp only[List.length_cons,List.length_append,crt,List.length_replicate] at this ⊢;omega,by rw[kfg7],C3,X3,Y3⟩
    case measure=>simp[m0,m1,MC0.out,MC1.out,intOf]<;>omega
   ·refine(HDB.out 32768 (by decide) _).mono ?_;rintro e w9 ⟨rfl,rfl⟩;have hns:¬(9223372036854775807<(bt out).size+(bt (crt 1 q')).size):=by rw[kee7,kee7];have:=HLEN.out;simp only[List.length_cons,crt,List.length_replicate] at this ⊢;omega
    go_wp2_with fail
    refine(kdv7 (b:=1) (q:=q') _ _ rfl rfl (by decide) (by have:=HLEN.out;omega) _).mono ?_;rintro e w5 ⟨rfl,y5⟩;have C:=C.on y5;have X:=X.on y5;have yr:=yr.trans (y5.mono yr.size);have c0:=C.c0;have c1:=C.c1;have c2:=C.c2;have g0:=C.f0;have g1:=C.f1;have g2:=C.f2
    go_upto_region 10 with(fail)
    have C2:Three (w5.setCell ⟨w.heap.size,2,none⟩ (.int .i64 0)) w.heap.size 141 (.int .i64 l) (.int .i64 u) (.int .i64 ((0:Nat):Int)):=C.set2 (.int .i64 0);have X2:=X.far (p:=⟨w.heap.size,2,none⟩) (by show w.heap.size+1≠w.heap.size;omega) (.int .i64 0);have Y2:=yr.setCell (p:=⟨w.heap.size,2,none⟩) (Nat.le_refl _) (.int .i64 0);generalize (w5.setCell ⟨w.heap.size,2,none⟩ (.int .i64 0))=wc at C2 X2 Y2 ⊢;clear c0 c1 c2 g0 g1 g2 C X yr;have c0:=C2.c0;have c1:=C2.c1;have g0:=C2.f0;have g1:=C2.f1
    go_wp2_with fail
    have C3:=(C2.set0 (.int .i64 l')).set1 (.int .i64 u');have X3:=(X2.far (p:=⟨w.heap.size,0,none⟩) (by show w.heap.size+1≠w.heap.size;omega) (.int .i64 l')).far (p:=⟨w.heap.size,1,none⟩) (by show w.heap.size+1≠w.heap.size;omega) (.int .i64 u');have Y3:=(Y2.setCell (p:=⟨w.heap.size,0,none⟩) (Nat.le_refl _) (.int .i64 l')).setCell (p:=⟨w.heap.size,1,none⟩) (Nat.le_refl _) (.int .i64 u');have m0:=C3.c0;have m1:=C3.c1
    go_roundw
    case rel=>exact⟨l',u',0,g,rest',(out++crt 1 q'),HL2.out,HD2.out,HF2.out,by have:=HS1.out;rw[kar7 (by decide)] at this;rw[List.append_assoc];exact this,by have:=HQ1.out;rwa [kar7 (by decide)] at this,by have:=HLEN.out;simp only[List.length_cons,List.length_append,crt,List.length_replicate] at this ⊢;omega,by rw[kfg7],C3,X3,Y3⟩
    case measure=>simp[m0,m1,MC0.out,MC1.out,intOf]<;>omega
theorem finish_any{lo hi:Int}{q:Nat}(hq:q≤500000)(b:Nat)(hb:b=if lo<16384 then 0 else 1)(w:World) :
  Calls Tryz.prog 122 #[.agg #[.int .i64 lo,.int .i64 hi,.int .i64 (q:Nat)]] w fun e w'=>e=.returned (.string (bt (crt b (q+1))))∧Below w.heap.size w w':=by
 have C0:=Three.new w 141 (.int .i64 lo) (.int .i64 hi) (.int .i64 (q:Nat));have y0:Below w.heap.size w (w.alloc (.cells #[.int .i64 lo,.int .i64 hi,.int .i64 (q:Nat)] 141)):=(Below.refl _ _).alloc (Nat.le_refl _) _;have c0:=C0.c0;have c1:=C0.c1;have c2:=C0.c2;by_cases h:lo<16384
 ·rw[if_pos h] at hb;subst hb;have k1:decide (lo<16384)=true:=by simpa using h
  go_enter Tryz.func122,Tryz.ntmps122
  go_wp2_with fail
  refine(kdv7 (b:=0) (q:=q+1) _ _ rfl (by omega) (by decide) (by omega) _).mono ?_;rintro e w1 ⟨rfl,y1⟩;have Y:=y0.trans (y1.mono y0.size)
  go_wp2
  go_ret
  exact⟨rfl,Y⟩
 ·rw[if_neg h] at hb;subst hb;have k1:decide (lo<16384)=false:=by simpa using h
  go_enter Tryz.func122,Tryz.ntmps122
  go_wp2_with fail
  refine(kdv7 (b:=1) (q:=q+1) _ _ rfl (by omega) (by decide) (by omega) _).mono ?_;rintro e w1 ⟨rfl,y1⟩;have Y:=y0.trans (y1.mono y0.size)
  go_wp2
  go_ret
  exact⟨rfl,Y⟩
theorem start_any(w:World):Calls Tryz.prog 98 #[] w fun e w'=>e=.returned (.agg #[.int .i64 0,.int .i64 65535,.int .i64 0])∧Below w.heap.size w w':=by
 have X1:=Three.new w 141 (.int .i64 0) (.int .i64 65535) (.int .i64 0);have r0:=X1.c0;have r1:=X1.c1;have r2:=X1.c2;have R0:=Lib.hid r0;have R1:=Lib.hid r1;have R2:=Lib.hid r2;clear r0 r1 r2
 go_enter Tryz.func98,Tryz.ntmps98
 go_wp2
 have r0:=R0.out;have r1:=R1.out;have r2:=R2.out;exact bodyPost_ret (v:=.agg #[.int .i64 0,.int .i64 65535,.int .i64 0]) (by simp[results,Tryz.results98,go_sem,r0,r1,r2]) rfl ⟨rfl,(Below.refl _ _).alloc (Nat.le_refl _) _⟩
end PB
end
namespace PB
structure Cho where
 b:Int
 p:Int
def Cho.ok(c:Cho):Prop:=(c.b=0∨c.b=1)∧1≤c.p∧c.p≤4095
instance (c:Cho):Decidable c.ok:=by unfold Cho.ok;exact inferInstance
def Cho.n(c:Cho):Nat:=c.b.toNat
def erun:List Cho→Int→Int→Int×Int×List Nat
 | [],lo,hi=>(lo,hi,[])
 | c::r,lo,hi=>((erun r (stp lo hi c.n c.p).1 (stp lo hi c.n c.p).2.1).1,(erun r (stp lo hi c.n c.p).1 (stp lo hi c.n c.p).2.1).2.1,(stp lo hi c.n c.p).2.2++(erun r (stp lo hi c.n c.p).1 (stp lo hi c.n c.p).2.1).2.2)
theorem erun_append(a b:List Cho):∀ lo hi,erun (a++b) lo hi=((erun b (erun a lo hi).1 (erun a lo hi).2.1).1,(erun b (erun a lo hi).1 (erun a lo hi).2.1).2.1,(erun a lo hi).2.2++(erun b (erun a lo hi).1 (erun a lo hi).2.1).2.2):=by
 induction a with
 | nil=>intro lo hi;rfl
 | cons c r ih =>
  intro lo hi;rw[List.cons_append,erun,ih];simp only[erun,List.append_assoc]
theorem erun_snoc(a:List Cho)(c:Cho)(lo hi:Int):erun (a++[c]) lo hi=((stp (erun a lo hi).1 (erun a lo hi).2.1 c.n c.p).1,(stp (erun a lo hi).1 (erun a lo hi).2.1 c.n c.p).2.1,(erun a lo hi).2.2++(stp (erun a lo hi).1 (erun a lo hi).2.1 c.n c.p).2.2):=by
 rw[erun_append];simp[erun]
def AllCho(cs:List Cho):Prop:=∀ c∈cs,c.ok
theorem kfh7:∀ (cs:List Cho),AllCho cs→∀ lo hi,Wid lo hi→Wid (erun cs lo hi).1 (erun cs lo hi).2.1∧(erun cs lo hi).2.2.length≤14*cs.length∧∀ k∈(erun cs lo hi).2.2,k≤2:=by
 intro cs
 induction cs with
 | nil=>intro _ lo hi h;exact⟨h,by simp[erun],by simp[erun]⟩
 | cons c r ih =>
  intro hall lo hi h;obtain⟨h1,h2,h3⟩:=hall c List.mem_cons_self;obtain⟨s1,s2,s3,s4⟩:=kct7 c.n h h2 h3;obtain⟨r1,r2,r3⟩:=ih (fun x hx=>hall x (List.mem_cons_of_mem _ hx)) _ _ s1;refine⟨r1,?_,?_⟩
  ·simp only[erun,List.length_append,List.length_cons];omega
  ·intro k hk;simp only[erun] at hk;rcases List.mem_append.1 hk with hk|hk
   ·exact s3 k hk
   ·exact r3 k hk
theorem wid0:Wid 0 65535:=by unfold Wid;omega
def acode(cs:List Cho):List Nat :=
 (sentf (erun cs 0 65535).2.2 0).1++crt (if (erun cs 0 65535).1<16384 then 0 else 1) ((sentf (erun cs 0 65535).2.2 0).2+1)
theorem acode_length(cs:List Cho):(acode cs).length=(erun cs 0 65535).2.2.length+2:=by
 have:=kbk7 (erun cs 0 65535).2.2 0;unfold acode;rw[List.length_append,crt,List.length_cons,List.length_replicate];omega
theorem acode_01{cs:List Cho}(h:AllCho cs):Is01 (acode cs):=by
 obtain⟨_,_,f3⟩:=kfh7 cs h 0 65535 wid0;refine Is01.of_mem fun x hx=>?_;unfold acode at hx;rcases List.mem_append.1 hx with hx|hx
 ·have:=sentf_le _ f3 0 x hx;omega
 ·have:=crt_le (b:=if (erun cs 0 65535).1<16384 then 0 else 1) (by split<;>omega) x hx;omega
theorem acode_le{cs:List Cho}(h:AllCho cs)(hl:cs.length≤8192):(acode cs).length≤114690:=by
 obtain⟨_,f2,_⟩:=kfh7 cs h 0 65535 wid0;rw[acode_length];omega
def dv(l:List Nat):List Nat→Int→Nat→Int
 | [],V,_=>V
 | k::r,V,t=>dv l r (2*(V-16384*(k:Nat))+(l.getD t 0:Nat)) (t+1)
structure DS where
 lo:Int
 hi:Int
 V:Int
 at_:Nat
def pickb(d:DS)(p:Int):Nat:=if d.V≤splitOf d.lo d.hi p then 1 else 0
def dks(d:DS)(p:Int):List Nat:=(stp d.lo d.hi (pickb d p) p).2.2
def dstep(l:List Nat)(d:DS)(p:Int):DS :=
 ⟨(stp d.lo d.hi (pickb d p) p).1,(stp d.lo d.hi (pickb d p) p).2.1,dv l (dks d p) d.V d.at_,d.at_+(dks d p).length⟩
def drun(l:List Nat)(ps:List Int)(d:DS):DS:=ps.foldl (dstep l) d
def dinit(l:List Nat):DS:=⟨0,65535,(num ((List.range 16).map fun i=>l.getD i 0):Nat),16⟩
end PB
section
open Go.RowKit
namespace PB
def One(w:World)(s:Nat)(t:TypeId)(v0:Value):Prop:=Blk w s t #[v0]
section
variable {w w':World}{s:Nat}{t:TypeId}{v0:Value}
theorem One.new(w:World)(t:TypeId)(v0:Value):One (w.alloc (.cells #[v0] t)) w.heap.size t v0:=Blk.new w t _
theorem One.new1(w:World)(o0:Obj)(t:TypeId)(v0:Value):One ((w.alloc o0).alloc (.cells #[v0] t)) (w.heap.size+1) t v0:=by
 simpa using One.new (w.alloc o0) t v0
theorem One.new2(w:World)(o0 o1:Obj)(t:TypeId)(v0:Value):One (((w.alloc o0).alloc o1).alloc (.cells #[v0] t)) (w.heap.size+2) t v0:=by
 simpa using One.new ((w.alloc o0).alloc o1) t v0
theorem One.new3(w:World)(o0 o1 o2:Obj)(t:TypeId)(v0:Value):One ((((w.alloc o0).alloc o1).alloc o2).alloc (.cells #[v0] t)) (w.heap.size+3) t v0:=by
 simpa using One.new (((w.alloc o0).alloc o1).alloc o2) t v0
theorem One.alloc(h:One w s t v0)(o:Obj):One (w.alloc o) s t v0:=Blk.alloc h o
theorem One.on(h:One w s t v0)(hb:Below w.heap.size w w'):One w' s t v0:=Blk.on h hb
theorem One.far(h:One w s t v0){p:Addr}(hp:s≠p.block)(u:Value):One (w.setCell p u) s t v0:=Blk.far h hp u
theorem One.lt(h:One w s t v0):s<w.heap.size:=Blk.lt h
theorem One.set0(h:One w s t v0)(u:Value):One (w.setCell ⟨s,0,none⟩ u) s t u:=by
 have:=Blk.set_ h 0 u;simp at this;exact this
theorem One.c0(h:One w s t v0):w.cell? ⟨s,0,none⟩=some v0:=by simpa using Blk.cell h 0
theorem One.f0(h:One w s t v0):w.frozen? ⟨s,0,none⟩=false:=Blk.frozen h 0
end
def Four(w:World)(s:Nat)(t:TypeId)(v0 v1 v2 v3:Value):Prop:=Blk w s t #[v0,v1,v2,v3]
section
variable {w w':World}{s:Nat}{t:TypeId}{v0 v1 v2 v3:Value}
theorem Four.new(w:World)(t:TypeId)(v0 v1 v2 v3:Value):Four (w.alloc (.cells #[v0,v1,v2,v3] t)) w.heap.size t v0 v1 v2 v3:=Blk.new w t _
theorem Four.alloc(h:Four w s t v0 v1 v2 v3)(o:Obj):Four (w.alloc o) s t v0 v1 v2 v3:=Blk.alloc h o
theorem Four.drew(h:Four w s t v0 v1 v2 v3):Four w.drew s t v0 v1 v2 v3:=h
theorem Four.grown{row:Option Nat}(h:Four w s t v0 v1 v2 v3)(hb:w.grownBy w' row)(hg:some s≠row):Four w' s t v0 v1 v2 v3:=Blk.grown h hb hg
theorem Four.far(h:Four w s t v0 v1 v2 v3){p:Addr}(hp:s≠p.block)(u:Value):Four (w.setCell p u) s t v0 v1 v2 v3:=Blk.far h hp u
theorem Four.c0(h:Four w s t v0 v1 v2 v3):w.cell? ⟨s,0,none⟩=some v0:=by simpa using Blk.cell h 0
theorem Four.c1(h:Four w s t v0 v1 v2 v3):w.cell? ⟨s,1,none⟩=some v1:=by simpa using Blk.cell h 1
theorem Four.c2(h:Four w s t v0 v1 v2 v3):w.cell? ⟨s,2,none⟩=some v2:=by simpa using Blk.cell h 2
theorem Four.c3(h:Four w s t v0 v1 v2 v3):w.cell? ⟨s,3,none⟩=some v3:=by simpa using Blk.cell h 3
end
theorem Two.new3(w:World)(o0 o1 o2:Obj)(t:TypeId)(v0 v1:Value):Two ((((w.alloc o0).alloc o1).alloc o2).alloc (.cells #[v0,v1] t)) (w.heap.size+3) t v0 v1:=by
 simpa using Two.new (((w.alloc o0).alloc o1).alloc o2) t v0 v1
end PB
end
end Go.Proofs.YtnpcandaehejbaaGreat
