/-
  Lists of byte strings: what SamplesFault tells of them (printed by gen_szss.py out of the 
-/
import Derived.ProofKit
import Derived.OpenShut
import Derived.ShutString
import Derived.ChangeOld
import Derived.Lib.SmallJoins
import Derived.Deep.Slices
import Derived.Deep.Fields
import Derived.ChangeSame
import Derived.HandedShaped
import Derived.Test.YtnpcandaehejbaaGreatSqV5
import Derived.Test.YtnpcandaehejbaaGreatSqV7
import Derived.Test.YtnpcandaehejbaaGreatSqV8
import Derived.Test.YtnpcandaehejbaaGreatSqV9
import Derived.Test.YtnpcandaehejbaaGreatSqV10
import Derived.Test.YtnpcandaehejbaaGreatSqV11
import Derived.Test.YtnpcandaehejbaaGreatSqV12
set_option linter.unusedVariables false
set_option linter.unusedSimpArgs false
set_option linter.unusedSectionVars false
set_option maxHeartbeats 6400000
set_option maxRecDepth 100000
namespace Go.Proofs.YtnpcandaehejbaaGreat
section
open Go.RowKit
attribute [local go_sem ↓] Go.wp_at_zero Go.wp_at_succ
namespace PB
def ByteL(d:List Nat):Prop:=∀ b∈d,b<256
theorem ByteL.getD{d:List Nat}(h:ByteL d)(k:Nat):d.getD k 0<256:=by
 rw[List.getD_eq_getElem?_getD];rcases Nat.lt_or_ge k d.length with hk|hk
 ·rw[List.getElem?_eq_getElem hk];exact h _ (List.getElem_mem hk)
 ·rw[List.getElem?_eq_none hk];simp
theorem ByteL.of_getD{d:List Nat}(h:∀ k,d.getD k 0<256):ByteL d:=fun b hb=>by
 obtain⟨i,hi,rfl⟩:=List.getElem_of_mem hb;have:=h i
 rwa [List.getD_eq_getElem?_getD,List.getElem?_eq_getElem hi] at this
structure SamOk(xs:List SItem):Prop where
 few:xs.length≤64
 short:∀ x∈xs,x.d.length≤1024
def SFault(xs:List SItem)(index code idx:Int):Prop :=
 (64<xs.length∧code=2∧idx=index)∨(xs.length≤64∧(∃ q:Nat,∃ h:q<xs.length,(∀ j (hj:j<xs.length),j<q→xs[j].d.length≤1024)∧1024<xs[q].d.length∧idx=(q:Nat))∧code=3)∨(SamOk xs∧code=0∧idx=0)
theorem samlong_ex(xs:List SItem):(∀ x∈xs,x.d.length≤1024)∨∃ q:Nat,∃ h:q<xs.length,(∀ j (hj:j<xs.length),j<q→xs[j].d.length≤1024)∧1024<xs[q].d.length:=by
 have key:∀ k,k≤xs.length→(∀ j (hj:j<xs.length),j<k→xs[j].d.length≤1024)∨∃ q:Nat,∃ h:q<xs.length,(∀ j (hj:j<xs.length),j<q→xs[j].d.length≤1024)∧1024<xs[q].d.length:=by
  intro k
  induction k with
  | zero=>intro _;left;intro j _ hj;omega
  | succ k ih =>
   intro hk;rcases ih (by omega) with h1|h1
   ·by_cases hc:xs[k].d.length≤1024
    ·left;intro j hj hjk;rcases(by omega:j<k∨j=k) with h2|rfl
     ·exact h1 j hj h2
     ·exact hc
    ·exact .inr ⟨k,by omega,h1,by omega⟩
   ·exact .inr h1
 rcases key xs.length (Nat.le_refl _) with h|h
 ·left;intro x hx;obtain⟨j,hj,rfl⟩:=List.getElem_of_mem hx;exact h j hj hj
 ·exact .inr h
theorem samfault_many{A:Option Addr}{n c:Nat}{xs:List SItem}{w:World}(h:RdSS w A n c xs)(index:Int)(hl:64<xs.length) :
  Calls Tryz.prog 18 #[.slice A n c,.int .i64 index] w fun e w'=>e=.returned (.agg #[.int .i64 2,.int .i64 index])∧Below w.heap.size w w':=by
 have hn:=h.1;have hcap:=h.2.1;have hcm:=h.2.2.1;unfold maxLen at hcm;obtain rfl:=hn;have M0:=Two.new w 24 (.int .i64 0) (.int .i64 0);have Y0:=(Below.refl w.heap.size w).alloc (Nat.le_refl _) (.cells #[.int .i64 0,.int .i64 0] 24);have kl:decide ((64:Int)<(xs.length:Int))=true:=by simp;omega
 have HM:=Lib.hid M0;have HY:=Lib.hid Y0;clear M0 Y0
 go_enter Tryz.func18,Tryz.ntmps18
 go_wp2_with fail
 refine(kgs7 _ _ _).mono ?_;rintro e w1 ⟨rfl,y1⟩;have M1:=HM.out.on y1;have Y1:=HY.out.trans (y1.mono HY.out.size);have m0:=M1.c0;have m1:=M1.c1;have m2:=M1.f0;have m3:=M1.f1
 go_wp2
 have rr:=(M1.set0 (.int .i64 2)).set1 (.int .i64 index);have r0:=rr.c0;have r1:=rr.c1;refine bodyPost_ret (v:=.agg #[.int .i64 2,.int .i64 index]) (by simp[results,Tryz.results18,go_sem,r0,r1]) rfl ⟨rfl,?_⟩;exact(Y1.setCell (p:=⟨w.heap.size,0,none⟩) (by simp) _).setCell (p:=⟨w.heap.size,1,none⟩) (by simp) _
theorem samfault_long{A:Option Addr}{n c:Nat}{xs:List SItem}{w:World}(h:RdSS w A n c xs)(index:Int)(hl:xs.length≤64)(q:Nat)(hq:q<xs.length)(hall:∀ j (hj:j<xs.length),j<q→xs[j].d.length≤1024)(hbad:1024<xs[q].d.length) :
  Calls Tryz.prog 18 #[.slice A n c,.int .i64 index] w fun e w'=>e=.returned (.agg #[.int .i64 3,.int .i64 (q:Nat)])∧Below w.heap.size w w':=by
 have hn:=h.1;have hcap:=h.2.1;have hcm:=h.2.2.1;unfold maxLen at hcm;obtain rfl:=hn;have M0:=Two.new w 24 (.int .i64 0) (.int .i64 0);have Y0:=(Below.refl w.heap.size w).alloc (Nat.le_refl _) (.cells #[.int .i64 0,.int .i64 0] 24);have HA:=Lib.hid hall;have HB:=Lib.hid hbad;clear hall hbad;have HM:=Lib.hid M0;have HY:=Lib.hid Y0;clear M0 Y0
 go_enter Tryz.func18,Tryz.ntmps18
 go_wp2_with fail
 go_loop [5] (fun i=>∃ k:Nat,k≤q∧i=.int .i64 (k:Nat)) (fun i=>q-(intOf i).toNat)
 case atStart=>exact⟨0,Nat.zero_le _,rfl⟩
 case round =>
  obtain⟨k,hk,rfl⟩:=hrel;by_cases hlt:k<q
  ·obtain⟨b,off,rfl,hb,q1,R⟩:=(h.alloc (.cells #[.int .i64 0,.int .i64 0] 24)).at k (by omega);obtain⟨x,hx⟩:∃ x,x=xs[k]:=⟨_,rfl⟩
   rw[←hx] at q1 R;have hxl:x.d.length=x.n:=by have:=R.len;rwa [ka7] at this
   have hxs:x.n≤1024:=by rw[←hxl,hx];exact HA.out k (by omega) hlt
   obtain⟨xA,xn,xc,xd⟩:=x;dsimp only at q1 hxs;clear hx hxl R
   go_wp2_with fail
   go_round
   case rel=>exact⟨k+1,by omega,by go_num⟩
   case measure=>simp[intOf]<;>omega
  ·obtain rfl:k=q:=by omega
   obtain⟨b,off,rfl,hb,q1,R⟩:=(h.alloc (.cells #[.int .i64 0,.int .i64 0] 24)).at k hq;obtain⟨x,hx⟩:∃ x,x=xs[k]:=⟨_,rfl⟩
   rw[←hx] at q1 R;have hxl:x.d.length=x.n:=by have:=R.len;rwa [ka7] at this
   have hxs:1024<x.n:=by rw[←hxl,hx];exact HB.out
   obtain⟨xA,xn,xc,xd⟩:=x;dsimp only at q1 hxs;clear hx hxl R
   go_wp2_with fail
   refine(kgs7 _ _ _).mono ?_;rintro e w1 ⟨rfl,y1⟩;have M1:=HM.out.on y1;have Y1:=HY.out.trans (y1.mono HY.out.size);have m0:=M1.c0;have m1:=M1.c1;have m2:=M1.f0;have m3:=M1.f1
   go_wp2
   have rr:=(M1.set0 (.int .i64 3)).set1 (.int .i64 (k:Nat));have r0:=rr.c0;have r1:=rr.c1;refine bodyPost_ret (v:=.agg #[.int .i64 3,.int .i64 (k:Nat)]) (by simp[results,Tryz.results18,go_sem,r0,r1]) rfl ⟨rfl,?_⟩;exact(Y1.setCell (p:=⟨w.heap.size,0,none⟩) (by simp) _).setCell (p:=⟨w.heap.size,1,none⟩) (by simp) _
theorem samfault_ok{A:Option Addr}{n c:Nat}{xs:List SItem}{w:World}(h:RdSS w A n c xs)(index:Int)(hok:SamOk xs) :
  Calls Tryz.prog 18 #[.slice A n c,.int .i64 index] w fun e w'=>e=.returned (.agg #[.int .i64 0,.int .i64 0])∧Below w.heap.size w w':=by
 have hn:=h.1;have hcap:=h.2.1;have hcm:=h.2.2.1;unfold maxLen at hcm;obtain rfl:=hn;have M0:=Two.new w 24 (.int .i64 0) (.int .i64 0);have Y0:=(Below.refl w.heap.size w).alloc (Nat.le_refl _) (.cells #[.int .i64 0,.int .i64 0] 24);have hl:=hok.few;have HA:=Lib.hid hok;clear hok;have HM:=Lib.hid M0;have HY:=Lib.hid Y0;clear M0 Y0
 go_enter Tryz.func18,Tryz.ntmps18
 go_wp2_with fail
 go_loop [5] (fun i=>∃ k:Nat,k≤xs.length∧i=.int .i64 (k:Nat)) (fun i=>xs.length-(intOf i).toNat)
 case atStart=>exact⟨0,Nat.zero_le _,rfl⟩
 case round =>
  obtain⟨k,hk,rfl⟩:=hrel;by_cases hlt:k<xs.length
  ·obtain⟨b,off,rfl,hb,q1,R⟩:=(h.alloc (.cells #[.int .i64 0,.int .i64 0] 24)).at k hlt;obtain⟨x,hx⟩:∃ x,x=xs[k]:=⟨_,rfl⟩
   rw[←hx] at q1 R;have hxl:x.d.length=x.n:=by have:=R.len;rwa [ka7] at this
   have hxs:x.n≤1024:=by rw[←hxl,hx];exact HA.out.short _ (List.getElem_mem hlt)
   obtain⟨xA,xn,xc,xd⟩:=x;dsimp only at q1 hxs;clear hx hxl R
   go_wp2_with fail
   go_round
   case rel=>exact⟨k+1,by omega,by go_num⟩
   case measure=>simp[intOf]<;>omega
  ·obtain rfl:k=xs.length:=by omega
   have m0:=HM.out.c0;have m1:=HM.out.c1;have m2:=HM.out.f0;have m3:=HM.out.f1
   go_wp2
   refine bodyPost_ret (v:=.agg #[.int .i64 0,.int .i64 0]) (by simp[results,Tryz.results18,go_sem,m0,m1]) rfl ⟨rfl,?_⟩;exact HY.out
theorem samfault_any{A:Option Addr}{n c:Nat}{xs:List SItem}{w:World}(h:RdSS w A n c xs)(index code idx:Int)(hF:SFault xs index code idx) :
  Calls Tryz.prog 18 #[.slice A n c,.int .i64 index] w fun e w'=>e=.returned (.agg #[.int .i64 code,.int .i64 idx])∧Below w.heap.size w w':=by
 rcases hF with⟨h1,rfl,rfl⟩|⟨h1,⟨q,h2,h3,h4,rfl⟩,rfl⟩|⟨h1,rfl,rfl⟩
 ·exact samfault_many h _ h1
 ·exact samfault_long h _ h1 q h2 h3 h4
 ·exact samfault_ok h _ h1
end PB
end
section
open Go.RowKit
attribute [local go_sem ↓] Go.wp_at_zero Go.wp_at_succ
namespace PB
open Cw (sq1 sq2 K17)
def Tz(A:Option Addr)(n c:Nat)(A2:Option Addr)(n2 c2:Nat):Array Value:=#[.slice A n c,.slice A2 n2 c2,undef,undef,undef,undef,undef,undef,undef,undef,undef,undef,undef,undef,undef,undef,undef,undef,undef,undef,undef,undef,undef,undef,undef,undef,undef,undef,undef,undef,undef,undef,undef,undef,undef,undef,undef,undef,undef,undef,undef,undef,undef,undef,undef,undef,undef,undef,undef]
def Ta(A:Option Addr)(n c:Nat)(A2:Option Addr)(n2 c2:Nat)(g0 g1:Nat):Array Value:=#[.slice A n c,.slice A2 n2 c2,undef,.pointer (some ⟨g0,0,none⟩),.slice none 0 0,.pointer (some ⟨g1,0,none⟩),undef,undef,undef,undef,undef,undef,undef,undef,undef,undef,undef,undef,undef,undef,undef,undef,undef,undef,undef,undef,undef,undef,undef,undef,undef,undef,undef,undef,undef,undef,undef,undef,undef,undef,undef,undef,undef,undef,undef,undef,undef,undef,undef]
def Tb(A:Option Addr)(n c:Nat)(A2:Option Addr)(n2 c2:Nat)(g0 g1:Nat)(q:Bool):Array Value:=#[.slice A n c,.slice A2 n2 c2,undef,.pointer (some ⟨g0,0,none⟩),.slice none 0 0,.pointer (some ⟨g1,0,none⟩),undef,undef,undef,undef,undef,undef,.slice A n c,.int .i64 n,.bool q,undef,undef,undef,undef,undef,undef,undef,undef,undef,undef,undef,undef,undef,undef,undef,undef,undef,undef,undef,undef,undef,undef,undef,undef,undef,undef,undef,undef,undef,undef,undef,undef,undef,undef]
def Tc(A:Option Addr)(n c:Nat)(A2:Option Addr)(n2 c2:Nat)(g0 g1:Nat)(x4 x6 x7 x18 x19 x20 x21 x22 x23 x24 x25 x26 x27 x28:Value):Array Value:=#[.slice A n c,.slice A2 n2 c2,undef,.pointer (some ⟨g0,0,none⟩),x4,.pointer (some ⟨g1,0,none⟩),x6,x7,undef,undef,undef,undef,.slice A n c,.int .i64 n,.bool false,undef,.slice A n c,.int .i64 n,x18,x19,x20,x21,x22,x23,x24,x25,x26,x27,x28,undef,undef,undef,undef,undef,undef,undef,undef,undef,undef,undef,undef,undef,undef,undef,undef,undef,undef,undef,undef]
theorem p17_0{A:Option Addr}{n c:Nat}{A2:Option Addr}{n2 c2:Nat}(w:World):(sq1 (K17 0)).wp Tryz.prog (fun e a w'=>e=.normal∧a.defers=[]∧(∃ g0 g1,a.tmps=Ta A n c A2 n2 c2 g0 g1∧w.heap.size≤g1∧Blk w' g0 22 #[.slice A2 n2 c2]∧Two w' g1 24 (.int .i64 0) (.int .i64 0)∧Cw.Grew w w')) ⟨Tz A n c A2 n2 c2,[]⟩ w:=by
 have y0:=((Below.refl w.heap.size w).alloc (Nat.le_refl _) (.cells #[.slice A2 n2 c2] 22)).alloc (by simp) (.cells #[.int .i64 0,.int .i64 0] 24);have F0:=Two.new1 w (.cells #[.slice A2 n2 c2] 22) 24 (.int .i64 0) (.int .i64 0);have D0:=(Blk.new w 22 #[.slice A2 n2 c2]).alloc (.cells #[.int .i64 0,.int .i64 0] 24);have Y:=Lib.hid y0;have HF:=Lib.hid F0;have HD:=Lib.hid D0;clear y0 F0 D0;dsimp only[K17,sq1,sq2,Tryz.f17,Option.getD_some,Tz]
 go_wp2
 exact⟨w.heap.size,w.heap.size+1,rfl,by omega,HD.out,HF.out,Cw.Grew.of Y.out⟩
theorem p17_1n{A:Option Addr}{n c:Nat}{A2:Option Addr}{n2 c2:Nat}{g0 g1:Nat}(hn:n≤64)(w:World):(sq1 (K17 1)).wp Tryz.prog (fun e a w'=>e=.normal∧a.defers=[]∧(a.tmps=Tb A n c A2 n2 c2 g0 g1 false∧Cw.Grew w w')) ⟨Ta A n c A2 n2 c2 g0 g1,[]⟩ w:=by
 have hnz:¬(64:Int)<(n:Int):=by omega
 have y0:=Lib.hid (Below.refl w.heap.size w);dsimp only[K17,sq1,sq2,Tryz.f17,Option.getD_some,Ta]
 go_wp2
 exact⟨rfl,Cw.Grew.of y0.out⟩
theorem p17_1r{A:Option Addr}{n c:Nat}{A2:Option Addr}{n2 c2:Nat}{g0 g1:Nat}{N:Nat}{w:World}(hNw:N≤w.heap.size)(hg:N≤g1)(hF:Two w g1 24 (.int .i64 0) (.int .i64 0))(hn:64<n)(hm:n≤maxLen):(sq1 (K17 1)).wp Tryz.prog (fun e a w'=>e=.ret∧a.defers=[]∧∃ v,(results Tryz.f17 a.tmps).run Tryz.prog w'=.ok v w'∧(v=.tuple #[.slice none 0 0,.agg #[.int .i64 2,.int .i64 (-1)]]∧Below N w w')) ⟨Ta A n c A2 n2 c2 g0 g1,[]⟩ w:=by
 unfold maxLen at hm;have hnz:(64:Int)<(n:Int):=by omega
 have HF:=Lib.hid hF;have HG:=Lib.hid hg;clear hF hg;dsimp only[K17,sq1,sq2,Tryz.f17,Option.getD_some,Ta]
 go_wp2_with fail
 refine(kdw7 _ _ _).mono ?_;rintro e w1 ⟨rfl,y1⟩;have F1:=HF.out.on y1;have Y1:=Lib.hid (y1.mono hNw);have Z:=Lib.hid HG.out;obtain⟨f0,f1,f2,f3,f4⟩:=F1.facts;have F2:=(F1.set0 (.int .i64 2)).set1 (.int .i64 (-1));have r0:=F2.c0;have r1:=F2.c1;clear y1
 go_wp2
 exact⟨_,by simp[results,Tryz.results17,go_sem,r0,r1],rfl,(Y1.out.setCell (p:=⟨g1,0,none⟩) Z.out _).setCell (p:=⟨g1,1,none⟩) Z.out _⟩
theorem p17_2r{A:Option Addr}{n c:Nat}{A2:Option Addr}{n2 c2:Nat}{g0 g1:Nat}{N:Nat}{w:World}(hNw:N≤w.heap.size)(hg:N≤g1)(hF:Two w g1 24 (.int .i64 0) (.int .i64 0)){xs:List SItem}(h:RdSS w A n c xs)(hl:xs.length≤64)(q:Nat)(hq:q<xs.length)(hall:∀ j (hj:j<xs.length),j<q→xs[j].d.length≤1024)(hbad:1024<xs[q].d.length):(sq1 (K17 2)).wp Tryz.prog (fun e a w'=>e=.ret∧a.defers=[]∧∃ v,(results Tryz.f17 a.tmps).run Tryz.prog w'=.ok v w'∧(v=.tuple #[.slice none 0 0,.agg #[.int .i64 3,.int .i64 (q:Nat)]]∧Below N w w')) ⟨Tb A n c A2 n2 c2 g0 g1 false,[]⟩ w:=by
 have hn:=h.1;have hcap:=h.2.1;have hcm:=h.2.2.1;unfold maxLen at hcm;obtain rfl:=hn;have HR:=Lib.hid h;have HF:=Lib.hid hF;have HG:=Lib.hid hg;clear hF hg;have HA:=Lib.hid hall;have HB:=Lib.hid hbad;clear hall hbad h;dsimp only[K17,sq1,sq2,Tryz.f17,Option.getD_some,Tb]
 go_wp2_with fail
 go_loop [6,7,18] (fun _ _ i=>∃ k:Nat,k≤q∧i=.int .i64 (k:Nat)) (fun _ _ i=>q-(intOf i).toNat)
 case atStart=>exact⟨0,Nat.zero_le _,rfl⟩
 case round =>
  obtain⟨k,hk,rfl⟩:=hrel;by_cases hlt:k<q
  ·obtain⟨b,off,rfl,hb,q1,R⟩:=HR.out.at k (by omega);obtain⟨x,hx⟩:∃ x,x=xs[k]:=⟨_,rfl⟩
   rw[←hx] at q1 R;have hxl:x.d.length=x.n:=by have:=R.len;rwa [ka7] at this
   have hxs:x.n≤1024:=by rw[←hxl,hx];exact HA.out k (by omega) hlt
   obtain⟨xA,xn,xc,xd⟩:=x;dsimp only at q1 hxs;have hxz:¬(1024:Int)<(xn:Int):=by omega
   have hkz:(k:Int)<(xs.length:Int):=by omega
   clear hx hxl R
   go_wp2_with fail
   go_round
   case rel=>exact⟨k+1,by omega,by go_num⟩
   case measure=>simp[intOf]<;>omega
  ·obtain rfl:k=q:=by omega
   obtain⟨b,off,rfl,hb,q1,R⟩:=HR.out.at k hq;obtain⟨x,hx⟩:∃ x,x=xs[k]:=⟨_,rfl⟩
   rw[←hx] at q1 R;have hxl:x.d.length=x.n:=by have:=R.len;rwa [ka7] at this
   have hxs:1024<x.n:=by rw[←hxl,hx];exact HB.out
   obtain⟨xA,xn,xc,xd⟩:=x;dsimp only at q1 hxs;have hxz:(1024:Int)<(xn:Int):=by omega
   have hkz:(k:Int)<(xs.length:Int):=by omega
   clear hx hxl R
   go_wp2_with fail
   refine(kdw7 _ _ _).mono ?_;rintro e w1 ⟨rfl,y1⟩;have F1:=HF.out.on y1;have Y1:=Lib.hid (y1.mono hNw);have Z:=Lib.hid HG.out;obtain⟨f0,f1,f2,f3,f4⟩:=F1.facts;have F2:=(F1.set0 (.int .i64 3)).set1 (.int .i64 (k:Nat));have r0:=F2.c0;have r1:=F2.c1;clear y1
   go_wp2
   exact⟨_,by simp[results,Tryz.results17,go_sem,r0,r1],rfl,(Y1.out.setCell (p:=⟨g1,0,none⟩) Z.out _).setCell (p:=⟨g1,1,none⟩) Z.out _⟩
theorem p17_2n{A:Option Addr}{n c:Nat}{A2:Option Addr}{n2 c2:Nat}{g0 g1:Nat}{w:World}{xs:List SItem}(h:RdSS w A n c xs)(hok:SamOk xs):(sq1 (K17 2)).wp Tryz.prog (fun e a w'=>e=.normal∧a.defers=[]∧(∃ x4 x6 x7 x18 x19 x20 x21 x22 x23 x24 x25 x26 x27 x28,a.tmps=Tc A n c A2 n2 c2 g0 g1 x4 x6 x7 x18 x19 x20 x21 x22 x23 x24 x25 x26 x27 x28∧Cw.Grew w w')) ⟨Tb A n c A2 n2 c2 g0 g1 false,[]⟩ w:=by
 have hn:=h.1;have hcap:=h.2.1;have hcm:=h.2.2.1;unfold maxLen at hcm;obtain rfl:=hn;have HR:=Lib.hid h;have y0:=Lib.hid (Below.refl w.heap.size w);have HA:=Lib.hid hok;have hl:=hok.few;clear hok h;dsimp only[K17,sq1,sq2,Tryz.f17,Option.getD_some,Tb]
 go_wp2_with fail
 go_loop [6,7,18] (fun _ _ i=>∃ k:Nat,k≤xs.length∧i=.int .i64 (k:Nat)) (fun _ _ i=>xs.length-(intOf i).toNat)
 case atStart=>exact⟨0,Nat.zero_le _,rfl⟩
 case round =>
  obtain⟨k,hk,rfl⟩:=hrel;by_cases hlt:k<xs.length
  ·obtain⟨b,off,rfl,hb,q1,R⟩:=HR.out.at k hlt;obtain⟨x,hx⟩:∃ x,x=xs[k]:=⟨_,rfl⟩
   rw[←hx] at q1 R;have hxl:x.d.length=x.n:=by have:=R.len;rwa [ka7] at this
   have hxs:x.n≤1024:=by rw[←hxl,hx];exact HA.out.short _ (List.getElem_mem hlt)
   obtain⟨xA,xn,xc,xd⟩:=x;dsimp only at q1 hxs;have hxz:¬(1024:Int)<(xn:Int):=by omega
   have hkz:(k:Int)<(xs.length:Int):=by omega
   clear hx hxl R
   go_wp2_with fail
   go_round
   case rel=>exact⟨k+1,by omega,by go_num⟩
   case measure=>simp[intOf]<;>omega
  ·obtain rfl:k=xs.length:=by omega
   have hkz:¬(xs.length:Int)<(xs.length:Int):=by omega
   go_wp2
   exact⟨⟨_,_,_,_,_,_,_,_,_,_,_,_,_,_,rfl⟩,Cw.Grew.of y0.out⟩
theorem p17_3r{A:Option Addr}{n c:Nat}{A2:Option Addr}{n2 c2:Nat}{g0 g1:Nat}{x4 x6 x7 x18 x19 x20 x21 x22 x23 x24 x25 x26 x27 x28:Value}{N:Nat}{w:World}(hNw:N≤w.heap.size)(hg:N≤g1)(hF:Two w g1 24 (.int .i64 0) (.int .i64 0))(hD:Blk w g0 22 #[.slice A2 n2 c2])(hn2:512<n2)(hm:n2≤maxLen):(sq1 (K17 3)).wp Tryz.prog (fun e a w'=>e=.ret∧a.defers=[]∧∃ v,(results Tryz.f17 a.tmps).run Tryz.prog w'=.ok v w'∧(v=.tuple #[.slice none 0 0,.agg #[.int .i64 3,.int .i64 (-2)]]∧Below N w w')) ⟨Tc A n c A2 n2 c2 g0 g1 x4 x6 x7 x18 x19 x20 x21 x22 x23 x24 x25 x26 x27 x28,[]⟩ w:=by
 unfold maxLen at hm;have hnz:(512:Int)<(n2:Int):=by omega
 have hd0:w.cell? ⟨g0,0,none⟩=some (.slice A2 n2 c2):=hD.cell 0;have HF:=Lib.hid hF;have HG:=Lib.hid hg;clear hF hg;dsimp only[K17,sq1,sq2,Tryz.f17,Option.getD_some,Tc]
 go_wp2_with fail
 refine(kdw7 _ _ _).mono ?_;rintro e w1 ⟨rfl,y1⟩;have F1:=HF.out.on y1;have Y1:=Lib.hid (y1.mono hNw);have Z:=Lib.hid HG.out;obtain⟨f0,f1,f2,f3,f4⟩:=F1.facts;have F2:=(F1.set0 (.int .i64 3)).set1 (.int .i64 (-2));have r0:=F2.c0;have r1:=F2.c1;clear y1
 go_wp2
 exact⟨_,by simp[results,Tryz.results17,go_sem,r0,r1],rfl,(Y1.out.setCell (p:=⟨g1,0,none⟩) Z.out _).setCell (p:=⟨g1,1,none⟩) Z.out _⟩
end PB
end
section
open Go.RowKit
attribute [local go_sem ↓] Go.wp_at_zero Go.wp_at_succ
namespace PB
open Cw (sq1 sq2)
def T7z(A:Option Addr)(n c:Nat)(A2:Option Addr)(n2 c2:Nat):Array Value:=#[.slice A n c,.slice A2 n2 c2,undef,undef,undef,undef,undef,undef,undef,undef,undef,undef,undef,undef,undef,undef,undef,undef,undef,undef,undef,undef,undef,undef,undef,undef,undef,undef,undef,undef,undef,undef,undef,undef,undef,undef,undef,undef,undef,undef,undef,undef,undef,undef,undef,undef,undef,undef,undef,undef,undef,undef,undef,undef,undef,undef,undef,undef,undef,undef,undef,undef,undef,undef,undef,undef,undef,undef,undef,undef,undef,undef,undef,undef,undef,undef,undef,undef,undef,undef,undef,undef,undef]
def T7m(A:Option Addr)(n c:Nat)(A2:Option Addr)(n2 c2:Nat)(A3:Option Addr)(n3 c3:Nat)(fc fi:Int):Array Value:=#[.slice A n c,.slice A2 n2 c2,undef,undef,.bool false,undef,undef,undef,undef,undef,undef,undef,.slice A n c,.slice A2 n2 c2,.tuple #[.slice A3 n3 c3,.agg #[.int .i64 fc,.int .i64 fi]],undef,undef,undef,undef,undef,undef,undef,undef,undef,undef,undef,undef,undef,undef,undef,undef,undef,undef,undef,undef,undef,undef,undef,undef,undef,undef,undef,undef,undef,undef,undef,undef,undef,undef,undef,undef,undef,undef,undef,undef,undef,undef,undef,undef,undef,undef,undef,undef,undef,undef,undef,undef,undef,undef,undef,undef,undef,undef,undef,undef,undef,undef,undef,undef,undef,undef,undef,undef]
def T7b(A:Option Addr)(n c:Nat)(A2:Option Addr)(n2 c2:Nat)(A3:Option Addr)(n3 c3:Nat)(fc fi:Int)(g:Nat):Array Value:=#[.slice A n c,.slice A2 n2 c2,undef,undef,.bool false,.slice A3 n3 c3,.pointer (some ⟨g,0,none⟩),undef,undef,undef,undef,.tuple #[.slice A3 n3 c3,.agg #[.int .i64 fc,.int .i64 fi]],.slice A n c,.slice A2 n2 c2,.tuple #[.slice A3 n3 c3,.agg #[.int .i64 fc,.int .i64 fi]],.slice A3 n3 c3,.agg #[.int .i64 fc,.int .i64 fi],undef,undef,undef,undef,undef,undef,undef,undef,undef,undef,undef,undef,undef,undef,undef,undef,undef,undef,undef,undef,undef,undef,undef,undef,undef,undef,undef,undef,undef,undef,undef,undef,undef,undef,undef,undef,undef,undef,undef,undef,undef,undef,undef,undef,undef,undef,undef,undef,undef,undef,undef,undef,undef,undef,undef,undef,undef,undef,undef,undef,undef,undef,undef,undef,undef,undef]
def T7c(A:Option Addr)(n c:Nat)(A2:Option Addr)(n2 c2:Nat)(A3:Option Addr)(n3 c3:Nat)(fc fi:Int)(g:Nat)(k2 i2:Int)(g2:Nat):Array Value:=#[.slice A n c,.slice A2 n2 c2,undef,undef,.bool false,.slice A3 n3 c3,.pointer (some ⟨g,0,none⟩),.pointer (some ⟨g2,0,none⟩),undef,undef,undef,.tuple #[.slice A3 n3 c3,.agg #[.int .i64 fc,.int .i64 fi]],.slice A n c,.slice A2 n2 c2,.tuple #[.slice A3 n3 c3,.agg #[.int .i64 fc,.int .i64 fi]],.slice A3 n3 c3,.agg #[.int .i64 fc,.int .i64 fi],.slice A n c,.agg #[.int .i64 k2,.int .i64 i2],undef,undef,undef,undef,undef,undef,undef,undef,undef,undef,undef,undef,undef,undef,undef,undef,undef,undef,undef,undef,undef,undef,undef,undef,undef,undef,undef,undef,undef,undef,undef,undef,undef,undef,undef,undef,undef,undef,undef,undef,undef,undef,undef,undef,undef,undef,undef,undef,undef,undef,undef,undef,undef,undef,undef,undef,undef,undef,undef,undef,undef,undef,undef,undef]
def T7d(A:Option Addr)(n c:Nat)(A2:Option Addr)(n2 c2:Nat)(A3:Option Addr)(n3 c3:Nat)(fc fi:Int)(g:Nat)(k2 i2:Int)(g2:Nat)(x19 x20 x21 x22 x23 x24 x25 x26 x27:Value):Array Value:=#[.slice A n c,.slice A2 n2 c2,undef,undef,.bool false,.slice A3 n3 c3,.pointer (some ⟨g,0,none⟩),.pointer (some ⟨g2,0,none⟩),undef,undef,undef,.tuple #[.slice A3 n3 c3,.agg #[.int .i64 fc,.int .i64 fi]],.slice A n c,.slice A2 n2 c2,.tuple #[.slice A3 n3 c3,.agg #[.int .i64 fc,.int .i64 fi]],.slice A3 n3 c3,.agg #[.int .i64 fc,.int .i64 fi],.slice A n c,.agg #[.int .i64 k2,.int .i64 i2],x19,x20,x21,x22,x23,x24,x25,x26,x27,undef,undef,undef,undef,undef,undef,undef,undef,undef,undef,undef,undef,undef,undef,undef,undef,undef,undef,undef,undef,undef,undef,undef,undef,undef,undef,undef,undef,undef,undef,undef,undef,undef,undef,undef,undef,undef,undef,undef,undef,undef,undef,undef,undef,undef,undef,undef,undef,undef,undef,undef,undef,undef,undef,undef]
def T7e(A:Option Addr)(n c:Nat)(A2:Option Addr)(n2 c2:Nat)(A3:Option Addr)(n3 c3:Nat)(fc fi:Int)(g:Nat)(k2 i2:Int)(g2:Nat)(x19 x20 x21 x22 x23 x24 x25 x26 x27:Value)(q:Bool):Array Value:=#[.slice A n c,.slice A2 n2 c2,undef,undef,.bool false,.slice A3 n3 c3,.pointer (some ⟨g,0,none⟩),.pointer (some ⟨g2,0,none⟩),undef,undef,undef,.tuple #[.slice A3 n3 c3,.agg #[.int .i64 fc,.int .i64 fi]],.slice A n c,.slice A2 n2 c2,.tuple #[.slice A3 n3 c3,.agg #[.int .i64 fc,.int .i64 fi]],.slice A3 n3 c3,.agg #[.int .i64 fc,.int .i64 fi],.slice A n c,.agg #[.int .i64 k2,.int .i64 i2],x19,x20,x21,x22,x23,x24,x25,x26,x27,.bool true,.bool false,.bool false,.agg #[.int .i64 fc,.int .i64 fi],.agg #[.int .i64 fc,.int .i64 fi],.bool false,.bool false,.bool false,.pointer (some ⟨g2,0,none⟩),.int .i64 fc,.bool q,.bool q,undef,undef,undef,undef,undef,undef,undef,undef,undef,undef,undef,undef,undef,undef,undef,undef,undef,undef,undef,undef,undef,undef,undef,undef,undef,undef,undef,undef,undef,undef,undef,undef,undef,undef,undef,undef,undef,undef,undef,undef,undef,undef,undef]
noncomputable def C7:Nat→Code
 | 0=>Tryz.f7.body.getD .skip
 | n+1=>sq2 (C7 n)
noncomputable def ops7_0:Array Oper:=match sq1 (C7 0) with|.region _ ops _=>ops|_=>#[]
noncomputable def kcw7:Array Oper:=match sq1 (C7 1) with|.region _ ops _=>ops|_=>#[]
noncomputable def ops7_5:Array Oper:=match sq1 (sq1 (C7 4)) with|.region _ ops _=>ops|_=>#[]
noncomputable def R7_6:Code:=match sq2 (sq1 (C7 4)) with|.cond _ x _=>sq1 x|_=>.skip
noncomputable def ops7_6:Array Oper:=match R7_6 with|.region _ ops _=>ops|_=>#[]
theorem seq7_0:C7 0=.seq (.region 0 ops7_0 false) (C7 1):=by kernel_rfl
theorem seq7_1:C7 1=.seq (.region 1 kcw7 false) (C7 2):=by kernel_rfl
theorem seq7_2:C7 2=.seq (sq1 (C7 2)) (C7 3):=by kernel_rfl
theorem seq7_3:C7 3=.seq (sq1 (C7 3)) (C7 4):=by kernel_rfl
theorem seq7_4:C7 4=.seq (.seq (.region 5 ops7_5 false) (.cond (.tmp 39) (.seq (.region 6 ops7_6 false) .ret) .skip)) (C7 5):=by kernel_rfl
theorem range7_0:List.range ops7_0.size=[0]:=by kernel_rfl
theorem range7_1:List.range kcw7.size=[0,1,2,3,4,5,6,7,8]:=by kernel_rfl
theorem range7_5:List.range ops7_5.size=[0,1,2,3,4,5,6,7,8,9,10,11]:=by kernel_rfl
theorem range7_6:List.range ops7_6.size=[0,1,2,3,4,5,6,7,8,9,10,11]:=by kernel_rfl
theorem r7_1{A:Option Addr}{n c:Nat}{A2:Option Addr}{n2 c2:Nat}{A3:Option Addr}{n3 c3:Nat}{fc fi:Int}(w:World):wpOps Tryz.prog kcw7 (fun e a w'=>e=.normal∧a.defers=[]∧(∃ g,a.tmps=T7b A n c A2 n2 c2 A3 n3 c3 fc fi g∧w.heap.size≤g∧Two w' g 24 (.int .i64 fc) (.int .i64 fi)∧Cw.Grew w w')) [3,4,5,6,7,8] ⟨T7m A n c A2 n2 c2 A3 n3 c3 fc fi,[]⟩ w:=by
 have e1:([3,4,5,6,7,8]:List Nat)=List.range' 3 (kcw7.toList.drop 3).length:=by kernel_rfl
 rw[e1,wpOps_eq_wpList (kcw7.toList.drop 3) 3 (fun j=>by rw[List.getElem?_drop,Array.getElem?_toList])];have y0:=Lib.hid ((Below.refl w.heap.size w).alloc (Nat.le_refl _) (.cells #[.int .i64 fc,.int .i64 fi] 24));have F0:=Lib.hid (Two.new w 24 (.int .i64 fc) (.int .i64 fi));dsimp only[kcw7,C7,sq1,sq2,Tryz.f7,Option.getD_some,T7m,List.drop,List.setIfInBounds_toArray,List.set_cons_zero,List.set_cons_succ]
 go_wp2
 exact⟨w.heap.size,rfl,Nat.le_refl _,F0.out,Cw.Grew.of y0.out⟩
theorem r7_2{A:Option Addr}{n c:Nat}{A2:Option Addr}{n2 c2:Nat}{A3:Option Addr}{n3 c3:Nat}{fc fi:Int}{g:Nat}{k2 i2:Int}{xs:List SItem}{w:World}(h:RdSS w A n c xs)(hF:SFault xs (-1) k2 i2)(hG:Two w g 24 (.int .i64 fc) (.int .i64 fi)):(sq1 (C7 2)).wp Tryz.prog (fun e a w'=>e=.normal∧a.defers=[]∧(∃ g2,a.tmps=T7c A n c A2 n2 c2 A3 n3 c3 fc fi g k2 i2 g2∧w.heap.size≤g2∧Two w' g 24 (.int .i64 fc) (.int .i64 fi)∧Two w' g2 24 (.int .i64 k2) (.int .i64 i2)∧Cw.Grew w w')) ⟨T7b A n c A2 n2 c2 A3 n3 c3 fc fi g,[]⟩ w:=by
 have HG:=Lib.hid hG;clear hG;dsimp only[C7,sq1,sq2,Tryz.f7,Option.getD_some,T7b]
 go_wp2_with fail
 refine(samfault_any h (-1) k2 i2 hF).mono ?_;rintro e w1 ⟨rfl,hb⟩;have Y1:=Lib.hid (hb.alloc hb.size (.cells #[.int .i64 k2,.int .i64 i2] 24));have F1:=Lib.hid (Two.new w1 24 (.int .i64 k2) (.int .i64 i2));have G1:=Lib.hid ((HG.out.on hb).alloc (.cells #[.int .i64 k2,.int .i64 i2] 24));have S1:=Lib.hid hb.size;clear hb hF
 go_wp2
 exact⟨w1.heap.size,rfl,S1.out,G1.out,F1.out,Cw.Grew.of Y1.out⟩
theorem Two.other{w:World}{g g2:Nat}{t:TypeId}{x y:Value}(h:Two w g t x y)(hne:g≠g2)(i:Nat)(v:Value):Two (w.setCell ⟨g2,i,none⟩ v) g t x y :=
 ((Go.Conc.aside_setCell w ⟨g2,i,none⟩ v).block g hne).trans h
theorem r7_3a{A:Option Addr}{n c:Nat}{A2:Option Addr}{n2 c2:Nat}{A3:Option Addr}{n3 c3:Nat}{fc fi:Int}{g:Nat}{k2 i2:Int}{g2:Nat}{N:Nat}{w:World}(hN:N≤w.heap.size)(hg2:N≤g2)(hne:g≠g2)(hG:Two w g 24 (.int .i64 fc) (.int .i64 fi))(hG2:Two w g2 24 (.int .i64 k2) (.int .i64 i2))(hk:(k2=2∨k2=3)∧fc=k2∧fi=i2):(sq1 (C7 3)).wp Tryz.prog (fun e a w'=>e=.normal∧a.defers=[]∧(∃ x19 x20 x21 x22 x23 x24 x25 x26 x27,a.tmps=T7d A n c A2 n2 c2 A3 n3 c3 fc fi g k2 i2 g2 x19 x20 x21 x22 x23 x24 x25 x26 x27∧Two w' g 24 (.int .i64 fc) (.int .i64 fi)∧Two w' g2 24 (.int .i64 fc) (.int .i64 fi)∧Below N w w')) ⟨T7c A n c A2 n2 c2 A3 n3 c3 fc fi g k2 i2 g2,[]⟩ w:=by
 obtain⟨hk,rfl,rfl⟩:=hk;have h0:=hG2.c0;have y0:=Lib.hid (Below.refl N w);have HG:=Lib.hid hG;have HG2:=Lib.hid hG2;clear hG hG2;rcases hk with rfl|rfl
 all_goals
  dsimp only[C7,sq1,sq2,Tryz.f7,Option.getD_some,T7c]
  go_wp2
  exact⟨⟨_,_,_,_,_,_,_,_,_,rfl⟩,HG.out,HG2.out,y0.out⟩
theorem r7_3b{A:Option Addr}{n c:Nat}{A2:Option Addr}{n2 c2:Nat}{A3:Option Addr}{n3 c3:Nat}{fc fi:Int}{g:Nat}{k2 i2:Int}{g2:Nat}{N:Nat}{w:World}(hN:N≤w.heap.size)(hg2:N≤g2)(hne:g≠g2)(hG:Two w g 24 (.int .i64 fc) (.int .i64 fi))(hG2:Two w g2 24 (.int .i64 k2) (.int .i64 i2))(hk:k2=0∧n2≤512∧fc=k2∧fi=i2):(sq1 (C7 3)).wp Tryz.prog (fun e a w'=>e=.normal∧a.defers=[]∧(∃ x19 x20 x21 x22 x23 x24 x25 x26 x27,a.tmps=T7d A n c A2 n2 c2 A3 n3 c3 fc fi g k2 i2 g2 x19 x20 x21 x22 x23 x24 x25 x26 x27∧Two w' g 24 (.int .i64 fc) (.int .i64 fi)∧Two w' g2 24 (.int .i64 fc) (.int .i64 fi)∧Below N w w')) ⟨T7c A n c A2 n2 c2 A3 n3 c3 fc fi g k2 i2 g2,[]⟩ w:=by
 obtain⟨rfl,hk,rfl,rfl⟩:=hk;have h0:=hG2.c0;have y0:=Lib.hid (Below.refl N w);have HG:=Lib.hid hG;have HG2:=Lib.hid hG2;have hz:¬(512:Int)<(n2:Int):=by omega
 clear hG hG2;dsimp only[C7,sq1,sq2,Tryz.f7,Option.getD_some,T7c]
 go_wp2
 exact⟨⟨_,_,_,_,_,_,_,_,_,rfl⟩,HG.out,HG2.out,y0.out⟩
theorem r7_3c{A:Option Addr}{n c:Nat}{A2:Option Addr}{n2 c2:Nat}{A3:Option Addr}{n3 c3:Nat}{fc fi:Int}{g:Nat}{k2 i2:Int}{g2:Nat}{N:Nat}{w:World}(hN:N≤w.heap.size)(hg2:N≤g2)(hne:g≠g2)(hG:Two w g 24 (.int .i64 fc) (.int .i64 fi))(hG2:Two w g2 24 (.int .i64 k2) (.int .i64 i2))(hk:k2=0∧512<n2∧fc=3∧fi=-2):(sq1 (C7 3)).wp Tryz.prog (fun e a w'=>e=.normal∧a.defers=[]∧(∃ x19 x20 x21 x22 x23 x24 x25 x26 x27,a.tmps=T7d A n c A2 n2 c2 A3 n3 c3 fc fi g k2 i2 g2 x19 x20 x21 x22 x23 x24 x25 x26 x27∧Two w' g 24 (.int .i64 fc) (.int .i64 fi)∧Two w' g2 24 (.int .i64 fc) (.int .i64 fi)∧Below N w w')) ⟨T7c A n c A2 n2 c2 A3 n3 c3 fc fi g k2 i2 g2,[]⟩ w:=by
 obtain⟨rfl,hk,rfl,rfl⟩:=hk;have h0:=hG2.c0;have HG:=Lib.hid hG;have HG2:=Lib.hid hG2;have HN:=Lib.hid hN;have Hg2:=Lib.hid hg2;have Hne:=Lib.hid hne;have hz:(512:Int)<(n2:Int):=by omega
 clear hG hG2 hN hg2 hne;dsimp only[C7,sq1,sq2,Tryz.f7,Option.getD_some,T7c]
 go_wp2_with fail
 refine(kgs7 _ _ _).mono ?_;rintro e w1 ⟨rfl,y1⟩;have F1:=HG2.out.on y1;have G1:=Lib.hid (HG.out.on y1);have Y1:=Lib.hid (y1.mono HN.out);obtain⟨f0,f1,f2,f3,f4⟩:=F1.facts;have F2:=Lib.hid ((F1.set0 (.int .i64 3)).set1 (.int .i64 (-2)));clear y1
 go_wp2
 exact⟨⟨_,_,_,_,_,_,_,_,_,rfl⟩,(G1.out.other Hne.out _ _).other Hne.out _ _,F2.out,(Y1.out.setCell (p:=⟨g2,0,none⟩) Hg2.out _).setCell (p:=⟨g2,1,none⟩) Hg2.out _⟩
theorem r7_5{A:Option Addr}{n c:Nat}{A2:Option Addr}{n2 c2:Nat}{A3:Option Addr}{n3 c3:Nat}{fc fi:Int}{g:Nat}{k2 i2:Int}{g2:Nat}{x19 x20 x21 x22 x23 x24 x25 x26 x27:Value}{q:Bool}{w:World}(hG:Two w g 24 (.int .i64 fc) (.int .i64 fi))(hG2:Two w g2 24 (.int .i64 fc) (.int .i64 fi))(hk:(fc=0∧q=false)∨(fc=2∧q=true)∨(fc=3∧q=true)):wpOps Tryz.prog ops7_5 (fun e a w'=>e=.normal∧a.defers=[]∧(a.tmps=T7e A n c A2 n2 c2 A3 n3 c3 fc fi g k2 i2 g2 x19 x20 x21 x22 x23 x24 x25 x26 x27 q∧Cw.Grew w w')) [1,2,3,4,5,6,7,8,9,10,11] ⟨(T7d A n c A2 n2 c2 A3 n3 c3 fc fi g k2 i2 g2 x19 x20 x21 x22 x23 x24 x25 x26 x27).setIfInBounds 28 (.bool true),[]⟩ w:=by
 have e1:([1,2,3,4,5,6,7,8,9,10,11]:List Nat)=List.range' 1 (ops7_5.toList.drop 1).length:=by kernel_rfl
 rw[e1,wpOps_eq_wpList (ops7_5.toList.drop 1) 1 (fun j=>by rw[List.getElem?_drop,Array.getElem?_toList])];have f0:=hG.c0;have f1:=hG.c1;have h0:=hG2.c0;have h1:=hG2.c1;have y0:=Lib.hid (Below.refl w.heap.size w);clear hG hG2;rcases hk with⟨rfl,rfl⟩|⟨rfl,rfl⟩|⟨rfl,rfl⟩
 all_goals
  dsimp only[ops7_5,C7,sq1,sq2,Tryz.f7,Option.getD_some,T7d,List.drop,List.setIfInBounds_toArray,List.set_cons_zero,List.set_cons_succ]
  go_wp2
  exact⟨rfl,Cw.Grew.of y0.out⟩
theorem r7_6{A:Option Addr}{n c:Nat}{A2:Option Addr}{n2 c2:Nat}{A3:Option Addr}{n3 c3:Nat}{fc fi:Int}{g:Nat}{k2 i2:Int}{g2:Nat}{x19 x20 x21 x22 x23 x24 x25 x26 x27:Value}{w:World}(hG:Two w g 24 (.int .i64 fc) (.int .i64 fi))(hG2:Two w g2 24 (.int .i64 fc) (.int .i64 fi))(hn3:n3=0):wpOps Tryz.prog ops7_6 (fun e a w'=>e=.normal∧a.defers=[]∧(a.tmps.getD 4 undef=.bool true∧Cw.Grew w w')) [1,2,3,4,5,6,7,8,9,10,11] ⟨(T7e A n c A2 n2 c2 A3 n3 c3 fc fi g k2 i2 g2 x19 x20 x21 x22 x23 x24 x25 x26 x27 true).setIfInBounds 40 (.bool true),[]⟩ w:=by
 have e1:([1,2,3,4,5,6,7,8,9,10,11]:List Nat)=List.range' 1 (ops7_6.toList.drop 1).length:=by kernel_rfl
 rw[e1,wpOps_eq_wpList (ops7_6.toList.drop 1) 1 (fun j=>by rw[List.getElem?_drop,Array.getElem?_toList])];subst hn3;have f0:=hG.c0;have f1:=hG.c1;have h0:=hG2.c0;have h1:=hG2.c1;have y0:=Lib.hid (Below.refl w.heap.size w);clear hG hG2;dsimp only[ops7_6,R7_6,C7,sq1,sq2,Tryz.f7,Option.getD_some,T7e,List.drop,List.setIfInBounds_toArray,List.set_cons_zero,List.set_cons_succ]
 go_wp2
 exact Cw.Grew.of y0.out
theorem cons3_256{a b c:Nat}{p:List Nat}(ha:a<256)(hb:b<256)(hc:c<256)(hp:∀ k,p.getD k 0<256):∀ k,([a,b,c]++p).getD k 0<256:=by
 intro k;rcases k with _|_|_|k
 ·exact ha
 ·exact hb
 ·exact hc
 ·have:=hp k
  simpa using this
theorem pk2_256{blk:List Nat}{ts:List Tok}(hl:blk.length≤1024)(hd:∀ k,blk.getD k 0<256):∀ k,(pk2 blk ts).getD k 0<256:=by
 have h0:∀ k,(0::blk).getD k 0<256:=by
  intro k;rcases k with _|k
  ·show 0<256;decide
  ·have:=hd k
   simpa using this
 have h1:∀ k,(fr1 blk).getD k 0<256:=cons3_256 (by decide) (Nat.mod_lt _ (by decide)) (by omega) (pack_lt (acode_01 (mch_all (kcn7 blk))));have h2:∀ k,(fr2 blk ts).getD k 0<256:=cons3_256 (by decide) (Nat.mod_lt _ (by decide)) (by omega) (pack_lt (codeOf_01 _));unfold pk2 pk1
 (repeat' split)<;>first
  | exact h2
  | exact h1
  | exact h0
theorem Two.grew{w w':World}{g:Nat}{t:TypeId}{x y:Value}(h:Two w g t x y)(k:Cw.Grew w w'):Two w' g t x y:=(k.2 g (Blk.lt h)).trans h
theorem PTok.one{data dict:List Nat}{ts us:List Tok}(h:PTok data dict ts)(h':PTok data dict us):ts=us:=by
 obtain⟨L,nn,dd,hT,rfl⟩:=h;obtain⟨L',nn',dd',hT',rfl⟩:=h';exact Tab.tokens hT hT'
noncomputable def C3:Nat→Code
 | 0=>Tryz.f3.body.getD .skip
 | n+1=>sq2 (C3 n)
def T7t(A:Option Addr)(n c:Nat)(A2:Option Addr)(n2 c2:Nat)(A3:Option Addr)(c3:Nat)(y2 y3 y4 y6 y7 y8 y9 y10 y11 y12 y13 y14 y15 y16 y17 y18 y19 y20 y21 y22 y23 y24 y25 y26 y27 y28 y29 y30 y31 y32 y33 y34 y35 y36 y37 y38 y39 y40 y41 y42 y43 y44 y45 y46 y47 y48 y49 y50 y51 y52 y53 y54 y55 y56 y57 y58 y59 y60 y61 y62 y63 y64 y65 y66 y67 y68 y69 y70 y71 y72 y73 y74 y75 y76 y77 y78 y79 y80 y81 y82:Value):Array Value:=#[.slice A n c,.slice A2 n2 c2,y2,y3,y4,.slice A3 n c3,y6,y7,y8,y9,y10,y11,y12,y13,y14,y15,y16,y17,y18,y19,y20,y21,y22,y23,y24,y25,y26,y27,y28,y29,y30,y31,y32,y33,y34,y35,y36,y37,y38,y39,y40,y41,y42,y43,y44,y45,y46,y47,y48,y49,y50,y51,y52,y53,y54,y55,y56,y57,y58,y59,y60,y61,y62,y63,y64,y65,y66,y67,y68,y69,y70,y71,y72,y73,y74,y75,y76,y77,y78,y79,y80,y81,y82]
theorem t7_lit{T:Array Value}{A:Option Addr}{n c:Nat}{A2:Option Addr}{n2 c2:Nat}{A3:Option Addr}{c3:Nat}(hs:T.size=83)(h0:T[0]?=some (.slice A n c))(h1:T[1]?=some (.slice A2 n2 c2))(h5:T[5]?=some (.slice A3 n c3)) :
  ∃ y2 y3 y4 y6 y7 y8 y9 y10 y11 y12 y13 y14 y15 y16 y17 y18 y19 y20 y21 y22 y23 y24 y25 y26 y27 y28 y29 y30 y31 y32 y33 y34 y35 y36 y37 y38 y39 y40 y41 y42 y43 y44 y45 y46 y47 y48 y49 y50 y51 y52 y53 y54 y55 y56 y57 y58 y59 y60 y61 y62 y63 y64 y65 y66 y67 y68 y69 y70 y71 y72 y73 y74 y75 y76 y77 y78 y79 y80 y81 y82,T=T7t A n c A2 n2 c2 A3 c3 y2 y3 y4 y6 y7 y8 y9 y10 y11 y12 y13 y14 y15 y16 y17 y18 y19 y20 y21 y22 y23 y24 y25 y26 y27 y28 y29 y30 y31 y32 y33 y34 y35 y36 y37 y38 y39 y40 y41 y42 y43 y44 y45 y46 y47 y48 y49 y50 y51 y52 y53 y54 y55 y56 y57 y58 y59 y60 y61 y62 y63 y64 y65 y66 y67 y68 y69 y70 y71 y72 y73 y74 y75 y76 y77 y78 y79 y80 y81 y82:=by
 have e:T.toList=(List.range 83).map fun i=>T.toList.getD i undef:=by
  refine List.ext_getElem (by simp[hs]) fun i h1 h2=>?_;simp only[List.getElem_map,List.getElem_range];rw[List.getD_eq_getElem?_getD,List.getElem?_eq_getElem h1];rfl
 have g0:T.toList.getD 0 undef=.slice A n c:=by rw[List.getD_eq_getElem?_getD,Array.getElem?_toList,h0];rfl
 have g1:T.toList.getD 1 undef=.slice A2 n2 c2:=by rw[List.getD_eq_getElem?_getD,Array.getElem?_toList,h1];rfl
 have g5:T.toList.getD 5 undef=.slice A3 n c3:=by rw[List.getD_eq_getElem?_getD,Array.getElem?_toList,h5];rfl
 refine⟨T.toList.getD 2 undef,T.toList.getD 3 undef,T.toList.getD 4 undef,T.toList.getD 6 undef,T.toList.getD 7 undef,T.toList.getD 8 undef,T.toList.getD 9 undef,T.toList.getD 10 undef,T.toList.getD 11 undef,T.toList.getD 12 undef,T.toList.getD 13 undef,T.toList.getD 14 undef,T.toList.getD 15 undef,T.toList.getD 16 undef,T.toList.getD 17 undef,T.toList.getD 18 undef,T.toList.getD 19 undef,T.toList.getD 20 undef,T.toList.getD 21 undef,T.toList.getD 22 undef,T.toList.getD 23 undef,T.toList.getD 24 undef,T.toList.getD 25 undef,T.toList.getD 26 undef,T.toList.getD 27 undef,T.toList.getD 28 undef,T.toList.getD 29 undef,T.toList.getD 30 undef,T.toList.getD 31 undef,T.toList.getD 32 undef,T.toList.getD 33 undef,T.toList.getD 34 undef,T.toList.getD 35 undef,T.toList.getD 36 undef,T.toList.getD 37 undef,T.toList.getD 38 undef,T.toList.getD 39 undef,T.toList.getD 40 undef,T.toList.getD 41 undef,T.toList.getD 42 undef,T.toList.getD 43 undef,T.toList.getD 44 undef,T.toList.getD 45 undef,T.toList.getD 46 undef,T.toList.getD 47 undef,T.toList.getD 48 undef,T.toList.getD 49 undef,T.toList.getD 50 undef,T.toList.getD 51 undef,T.toList.getD 52 undef,T.toList.getD 53 undef,T.toList.getD 54 undef,T.toList.getD 55 undef,T.toList.getD 56 undef,T.toList.getD 57 undef,T.toList.getD 58 undef,T.toList.getD 59 undef,T.toList.getD 60 undef,T.toList.getD 61 undef,T.toList.getD 62 undef,T.toList.getD 63 undef,T.toList.getD 64 undef,T.toList.getD 65 undef,T.toList.getD 66 undef,T.toList.getD 67 undef,T.toList.getD 68 undef,T.toList.getD 69 undef,T.toList.getD 70 undef,T.toList.getD 71 undef,T.toList.getD 72 undef,T.toList.getD 73 undef,T.toList.getD 74 undef,T.toList.getD 75 undef,T.toList.getD 76 undef,T.toList.getD 77 undef,T.toList.getD 78 undef,T.toList.getD 79 undef,T.toList.getD 80 undef,T.toList.getD 81 undef,T.toList.getD 82 undef,?_⟩
 apply Array.toList_inj.1;rw[e];unfold T7t;rw[←g0,←g1,←g5];rfl
theorem r7_t{A:Option Addr}{n c:Nat}{A2:Option Addr}{n2 c2:Nat}{A3:Option Addr}{c3:Nat}{y2 y3 y4 y6 y7 y8 y9 y10 y11 y12 y13 y14 y15 y16 y17 y18 y19 y20 y21 y22 y23 y24 y25 y26 y27 y28 y29 y30 y31 y32 y33 y34 y35 y36 y37 y38 y39 y40 y41 y42 y43 y44 y45 y46 y47 y48 y49 y50 y51 y52 y53 y54 y55 y56 y57 y58 y59 y60 y61 y62 y63 y64 y65 y66 y67 y68 y69 y70 y71 y72 y73 y74 y75 y76 y77 y78 y79 y80 y81 y82:Value}{xs ys:List SItem}{dict:List Nat}{w:World}(h:RdSS w A n c xs)(h2:Rd w A2 n2 c2 (bcells dict))(hl:RdSS w A3 n c3 ys)(hok:SamOk xs)(hn2:n2≤512)(hd:∀ x∈xs,ByteL x.d)(hd2:∀ k,dict.getD k 0<256)
  (hy:∀ (k:Nat) (x y:SItem),xs[k]?=some x→ys[k]?=some y→∃ ts,PTok x.d dict ts∧y.d=pk2 x.d ts) :
  (C7 5).wp Tryz.prog (bodyPost Tryz.prog Tryz.f7 fun e w'=>∃ v,e=.returned v∧v=.bool true∧Cw.Grew w w') ⟨T7t A n c A2 n2 c2 A3 c3 y2 y3 y4 y6 y7 y8 y9 y10 y11 y12 y13 y14 y15 y16 y17 y18 y19 y20 y21 y22 y23 y24 y25 y26 y27 y28 y29 y30 y31 y32 y33 y34 y35 y36 y37 y38 y39 y40 y41 y42 y43 y44 y45 y46 y47 y48 y49 y50 y51 y52 y53 y54 y55 y56 y57 y58 y59 y60 y61 y62 y63 y64 y65 y66 y67 y68 y69 y70 y71 y72 y73 y74 y75 y76 y77 y78 y79 y80 y81 y82,[]⟩ w:=by
 have hn:=h.1;have hcap:=h.2.1;have hcm:=h.2.2.1;have hcap3:=hl.2.1;have hcm3:=hl.2.2.1;have hyl:=hl.1;unfold maxLen at hcm hcm3;obtain rfl:=hn;have hfew:=hok.few;have HX:=Lib.hid h;have HL:=Lib.hid hl;have H2:=Lib.hid h2;have HK:=Lib.hid hok;have HD:=Lib.hid hd;have HD2:=Lib.hid hd2;have HY:=Lib.hid hy;have HN2:=Lib.hid hn2;have HYL:=Lib.hid hyl;clear h hl h2 hok hd hd2 hy hn2 hyl;dsimp only[C7,sq1,sq2,Tryz.f7,Option.getD_some,T7t]
 go_wp2_with fail
 go_loopw [8] (fun i wr=>∃ k:Nat,k≤xs.length∧i=.int .i64 (k:Nat)∧Below w.heap.size w wr) (fun i _=>xs.length-(intOf i).toNat)
 case atStart=>exact⟨0,Nat.zero_le _,rfl,Below.refl _ _⟩
 case round =>
  obtain⟨k,hk,rfl,yr⟩:=hrel;have YR:=Lib.hid yr;clear yr;by_cases hlt:k<xs.length
  ·obtain⟨b,off,rfl,hb,q1,R⟩:=(HX.out.on YR.out).at k hlt;obtain⟨x,hx⟩:∃ x,x=xs[k]:=⟨_,rfl⟩
   rw[←hx] at q1 R;have hxl:x.d.length=x.n:=by have:=R.len;rwa [ka7] at this
   have hxs:x.n≤1024:=by rw[←hxl,hx];exact HK.out.short _ (List.getElem_mem hlt)
   have hxd:ByteL x.d:=by rw[hx];exact HD.out _ (List.getElem_mem hlt)
   have hxk:xs[k]?=some x:=by rw[hx];exact List.getElem?_eq_getElem hlt
   obtain⟨xA,xn,xc,xd⟩:=x;dsimp only at q1 hxs R;have HXD:=Lib.hid hxd;have HXK:=Lib.hid hxk;have HR:=Lib.hid R;have hkz:(k:Int)<(xs.length:Int):=by omega
   have hkz0:(0:Int)≤(k:Int):=by omega
   clear hx hxl hxd hxk R
   go_wp2_with fail
   refine(api_pack_ok HR.out (H2.out.on YR.out) hxs HN2.out HXD.out.getD HD2.out).mono ?_;rintro e w1 ⟨A5,n5,c5,ts,rfl,hT,ho,hb1⟩;have hb2:=hb1.alloc hb1.size (.cells #[.int .i64 0,.int .i64 0] 24);have F1:=Two.new w1 24 (.int .i64 0) (.int .i64 0);have f0:=F1.c0;have R5:=Lib.hid ((Rd.own ho).alloc (.cells #[.int .i64 0,.int .i64 0] 24));have L1:=(((HL.out.on YR.out).on hb1).alloc (.cells #[.int .i64 0,.int .i64 0] 24)).at k (by rw[HYL.out];exact hlt);obtain⟨b3,off3,rfl,hb3,q3,R3⟩:=L1;obtain⟨y,hy⟩:∃ y,y=ys[k]'(by rw[HYL.out];exact hlt):=⟨_,rfl⟩
   rw[←hy] at q3 R3;have hyk:ys[k]?=some y:=by rw[hy];exact List.getElem?_eq_getElem _
   obtain⟨us,hU,hyd⟩:=HY.out k _ _ HXK.out hyk;obtain rfl:=PTok.one hU hT;obtain⟨yA,yn,yc,yd⟩:=y;dsimp only at q3 R3 hyd;subst hyd;have Y2:=Lib.hid (YR.out.trans (hb2.mono YR.out.size));have R3h:=Lib.hid R3;have hpl:xd.length≤1024:=by have:=HR.out.len;rw[ka7] at this;omega
   have P256:=Lib.hid (pk2_256 (blk:=xd) (ts:=us) hpl HXD.out.getD);clear hb1 hb2 F1 hT ho hy hyk hU R3 hpl
   go_wp2_with fail
   refine(kcb7 _ _ _ _ _ _ _ _ _ R3h.out R5.out P256.out P256.out).mono ?_;rintro e w2 ⟨rfl,rfl⟩;have hdt:decide (pk2 xd us=pk2 xd us)=true:=by simp
   go_wp2_with fail
   go_roundw
   case rel=>exact⟨k+1,by omega,by go_num,Y2.out⟩
   case measure=>simp[intOf]<;>omega
  ·obtain rfl:k=xs.length:=by omega
   have hkz:¬(xs.length:Int)<(xs.length:Int):=by omega
   go_wp2
   exact bodyPost_ret (v:=.bool true) (by simp[results,Tryz.results7,go_sem]) rfl ⟨_,rfl,rfl,Cw.Grew.of YR.out⟩
end PB
end
section
namespace Cw
open Go Go.Conc Go.ConcN Rn Go.RowKit
open PB (SItem RdSS SamOk SFault Tz Ta Tb Tc)
noncomputable def itemD(D:Nat)(S:Nat→Prop)(x:SItem):SItem:={ x with A:=match junkD D S (.slice x.A x.n x.c) with|.slice A' _ _=>A'|_=>none }
theorem kfx7{sh:Bool}{D:Nat}{S:Nat→Prop}{w:World}{A:Option Addr}{n c:Nat}{xs:List SItem}(h:RdSS w A n c xs)(hA:∀ a,A=some a→S a.block)(hx:∀ x∈xs,Held S x.A x.n x.c) :
  RdSS (ghW sh D S w) A n c (xs.map (itemD D S))∧∀ x∈xs.map (itemD D S),Held S x.A x.n x.c:=by
 obtain⟨h1,h2,h3,h4⟩:=h;have key:∀ x∈xs,junkD D S (.slice x.A x.n x.c)=.slice (itemD D S x).A x.n x.c∧Held S (itemD D S x).A x.n x.c∧∀ (w:World) (bs:List Nat),PB.Rd w x.A x.n x.c (PB.bcells bs)→PB.Rd (ghW sh D S w) (itemD D S x).A x.n x.c (PB.bcells bs):=by
  intro x hm;obtain⟨A',e,hh,hr⟩:=kdm7 (hx x hm) D;have:(itemD D S x).A=A':=by unfold itemD;rw[e]
  rw[this];exact⟨e,hh,fun w bs=>hr sh w bs⟩
 refine⟨⟨by simpa using h1,h2,h3,fun hn=>?_⟩,fun x hm=>?_⟩
 ·obtain⟨b,off,e,hb,hc⟩:=h4 hn;subst e;have hS:S b:=hA _ rfl;refine⟨b,off,rfl,by rw[kax7];exact hb,fun i x hi=>?_⟩;rw[List.getElem?_map] at hi;obtain⟨y,hy,rfl⟩:=Option.map_eq_some_iff.1 hi;obtain⟨k1,k2,k3⟩:=key y (List.mem_of_getElem? hy);obtain⟨c1,c2⟩:=hc i y hy;refine⟨?_,k3 w _ c2⟩;have hv:(veilD D S w).cell? ⟨b,off+i,none⟩=some (junkD D S (.slice y.A y.n y.c)):=veilD_cellS hS c1;rw[k1] at hv;cases sh
  ·exact hv
  ·exact(seal_cell S _ _).trans hv
 ·obtain⟨y,hy,rfl⟩:=List.mem_map.1 hm;exact(key y hy).2.1
theorem kfm7{D:Nat}{S:Nat→Prop}{xs:List SItem}(h:SamOk xs):SamOk (xs.map (itemD D S)) :=
 ⟨by simpa using h.few,fun x hx=>by obtain⟨y,hy,rfl⟩:=List.mem_map.1 hx;exact h.short y hy⟩
def Refused(xs:List SItem)(n2:Nat)(fc fi:Int):Prop :=
 (64<xs.length∧fc=2∧fi=-1)∨(xs.length≤64∧∃ q:Nat,∃ h:q<xs.length,(∀ j (hj:j<xs.length),j<q→xs[j].d.length≤1024)∧1024<xs[q].d.length∧fc=3∧fi=(q:Nat))∨(SamOk xs∧512<n2∧fc=3∧fi=-2)
theorem refused_map{D:Nat}{S:Nat→Prop}{xs:List SItem}{n2:Nat}{fc fi:Int}(h:Refused xs n2 fc fi):Refused (xs.map (itemD D S)) n2 fc fi:=by
 rcases h with⟨h1,h2⟩|⟨h1,q,hq,h2,h3,h4⟩|⟨h1,h2⟩
 ·exact .inl ⟨by simpa using h1,h2⟩
 ·refine .inr (.inl ⟨by simpa using h1,q,by simpa using hq,fun j hj hjq=>?_,?_,h4⟩)
  ·rw[List.getElem_map];exact h2 j (by simpa using hj) hjq
  ·rw[List.getElem_map];exact h3
 ·exact .inr (.inr ⟨kfm7 h1,h2⟩)
theorem kdy7{w w':World}{A:Option Addr}{n c:Nat}{xs:List SItem}(h:RdSS w A n c xs)(k:Grew w w'):RdSS w' A n c xs:=by
 obtain⟨h1,h2,h3,h4⟩:=h;refine⟨h1,h2,h3,fun hn=>?_⟩;obtain⟨b,off,e,hb,hc⟩:=h4 hn;refine⟨b,off,e,Nat.lt_of_lt_of_le hb k.1,fun i x hi=>?_⟩;obtain⟨c1,c2⟩:=hc i x hi;exact⟨(World.cell?_of_block (k.2 b hb)).trans c1,PB.Rd.grew c2 k⟩
theorem blk_grew{w w':World}{g:Nat}{t:TypeId}{xs:Array Value}(h:PB.Blk w g t xs)(k:Grew w w'):PB.Blk w' g t xs:=(k.2 g (PB.Blk.lt h)).trans h
theorem kseq0:K17 0=.seq (sq1 (K17 0)) (K17 1):=by kernel_rfl
theorem kseq1:K17 1=.seq (sq1 (K17 1)) (K17 2):=by kernel_rfl
theorem kseq2:K17 2=.seq (sq1 (K17 2)) (K17 3):=by kernel_rfl
theorem kseq3:K17 3=.seq (sq1 (K17 3)) (K17 4):=by kernel_rfl
theorem kok0:okCode Tryz.prog S7 M7 (sq1 (K17 0))=true:=by kernel_rfl
theorem kok1:okCode Tryz.prog S7 M7 (sq1 (K17 1))=true:=by kernel_rfl
theorem kok2:okCode Tryz.prog S7 M7 (sq1 (K17 2))=true:=by kernel_rfl
theorem kok3:okCode Tryz.prog S7 M7 (sq1 (K17 3))=true:=by kernel_rfl
section
variable {S:Nat→Prop}{hS:∀ b,S b→Tryz.prog.globals.size≤b}{W:World}{B:Nat→Prop}{ρ:Ren Tryz.prog}{wp w:World}{PostF:Value→World→Prop}{q0:Nat}{c:Frame}{cs:List Frame}{T':Array Value}
theorem refuse_fin{A:Option Addr}{n k:Nat}{A2:Option Addr}{n2 k2:Nat}{xs:List SItem}{fc fi:Int}(hg:Gh7 S hS W B ρ wp w)(h:RdSS wp A n k xs)(hm2:n2≤maxLen)(hr:Refused xs n2 fc fi)(hT:ARR ρ (Tz A n k A2 n2 k2) T')
  (hEnd:∀ (ρ2:Ren Tryz.prog) (v':Value) (wp2 w2:World),Gh7 S hS W B ρ2 wp2 w2→Le ρ ρ2→VR ρ2 (.tuple #[.slice none 0 0,.agg #[.int .i64 fc,.int .i64 fi]]) v'→Grew wp wp2→Fin Tryz.prog PostF B q0 (G (c.finish v') cs) w2) :
  Fin Tryz.prog PostF B q0 (G ((base 17).at ⟨T',[]⟩ [.code (K17 0)]) (c::cs)) w:=by
 have hb:Plainb (base 17):=⟨rfl⟩
 have hn:=h.1;have hcap:=h.2.1;have hcm:=h.2.2.1;have gb:∀ {wp':World}{u:Nat→Question→Nat}{w':World},Grew wp wp'→Below wp.heap.size (tp wp' u) w'→Grew wp w':=by
  intro wp' u w' g hb;exact⟨Nat.le_trans g.1 hb.size,fun i hi=>(hb.block i hi).trans (g.2 i hi)⟩
 rw[kseq0];refine gh7_seq hg hb kok0 (Q:=fun T w'=>∃ g0 g1,T=Ta A n k A2 n2 k2 g0 g1∧wp.heap.size≤g1∧PB.Blk w' g0 22 #[.slice A2 n2 k2]∧PB.Two w' g1 24 (.int .i64 0) (.int .i64 0)∧Grew wp w') hT (fun u=>PB.p17_0 (tp wp u)) ?_;rintro ρ1 T1 T1' wp1 w1 u1 g1 le1 ⟨a0,a1,rfl,hg1,hD,hF,k1⟩ ha1;replace hD:PB.Blk wp1 a0 22 #[.slice A2 n2 k2]:=hD;replace hF:PB.Two wp1 a1 24 (.int .i64 0) (.int .i64 0):=hF;replace k1:Grew wp wp1:=k1;rw[kseq1];rcases hr with⟨hr,rfl,rfl⟩|hr
 ·refine kdn7 g1 rfl (fun w₁=>stepG_seq) fun w2 g2=>?_;refine gh7_ret g2 hb (fn:=Tryz.f17) (by kernel_rfl) kok1 (Q:=fun v w'=>v=.tuple #[.slice none 0 0,.agg #[.int .i64 2,.int .i64 (-1)]]∧Grew wp w') ha1 (fun u=>Code.wp_mono (fun e a w ⟨h1,h2,v,h3,h4,h5⟩=>⟨h1,h2,v,h3,h4,gb k1 h5⟩) (PB.p17_1r (w:=tp wp1 u) (N:=wp.heap.size) k1.1 hg1 hF (by omega) (Nat.le_trans hcap hcm))) ?_;intro ρ3 v v' wp3 w3 u3 g3 hQ le hv;obtain⟨rfl,hbe⟩:=hQ;replace hbe:Grew wp _:=hbe;exact hEnd ρ3 v' wp3 w3 g3 (le1.trans le) hv hbe
 ·have hn64:n≤64:=by
   rcases hr with⟨hr,_⟩|⟨hr,_⟩
   ·omega
   ·have:=hr.few;omega
  refine gh7_seq g1 hb kok1 (Q:=fun T w'=>T=Tb A n k A2 n2 k2 a0 a1 false∧Grew wp1 w') ha1 (fun u=>PB.p17_1n hn64 (tp wp1 u)) ?_;rintro ρ2 T2 T2' wp2 w2 u2 g2 le2 ⟨rfl,k2'⟩ ha2;replace k2':Grew wp1 wp2:=k2';have k12:Grew wp wp2:=k1.trans k2';have hR2:RdSS wp2 A n k xs:=kdy7 h k12;have hD2:=blk_grew hD k2';have hF2:=PB.Two.grew hF k2';rw[kseq2];rcases hr with⟨hl,q,hq,hall,hbad,rfl,rfl⟩|⟨hok,hn2,rfl,rfl⟩
  ·refine kdn7 g2 rfl (fun w₁=>stepG_seq) fun w3 g3=>?_;refine gh7_ret g3 hb (fn:=Tryz.f17) (by kernel_rfl) kok2 (Q:=fun v w'=>v=.tuple #[.slice none 0 0,.agg #[.int .i64 3,.int .i64 (q:Nat)]]∧Grew wp w') ha2 (fun u=>Code.wp_mono (fun e a w ⟨h1,h2,v,h3,h4,h5⟩=>⟨h1,h2,v,h3,h4,gb k12 h5⟩) (PB.p17_2r (w:=tp wp2 u) (N:=wp.heap.size) k12.1 hg1 hF2 hR2 hl q hq hall hbad)) ?_;intro ρ3 v v' wp3 w3 u3 g3 hQ le hv;obtain⟨rfl,hbe⟩:=hQ;replace hbe:Grew wp _:=hbe;exact hEnd ρ3 v' wp3 w3 g3 ((le1.trans le2).trans le) hv hbe
  ·refine gh7_seq g2 hb kok2 (Q:=fun T w'=>(∃ x4 x6 x7 x18 x19 x20 x21 x22 x23 x24 x25 x26 x27 x28,T=Tc A n k A2 n2 k2 a0 a1 x4 x6 x7 x18 x19 x20 x21 x22 x23 x24 x25 x26 x27 x28∧Grew wp2 w')) ha2 (fun u=>PB.p17_2n (w:=tp wp2 u) hR2 hok) ?_;rintro ρ3 T3 T3' wp3 w3 u3 g3 le3 ⟨x4,x6,x7,x18,x19,x20,x21,x22,x23,x24,x25,x26,x27,x28,rfl,k3⟩ ha3;replace k3:Grew wp2 wp3:=k3;have k13:Grew wp wp3:=k12.trans k3;rw[kseq3];refine kdn7 g3 rfl (fun w₁=>stepG_seq) fun w4 g4=>?_;refine gh7_ret g4 hb (fn:=Tryz.f17) (by kernel_rfl) kok3 (Q:=fun v w'=>v=.tuple #[.slice none 0 0,.agg #[.int .i64 3,.int .i64 (-2)]]∧Grew wp w') ha3 (fun u=>Code.wp_mono (fun e a w ⟨h1,h2,v,h3,h4,h5⟩=>⟨h1,h2,v,h3,h4,gb k13 h5⟩) (PB.p17_3r (w:=tp wp3 u) (N:=wp.heap.size) k13.1 hg1 (PB.Two.grew hF2 k3) (blk_grew hD2 k3) hn2 hm2)) ?_;intro ρ4 v v' wp4 w4 u4 g4 hQ le hv;obtain⟨rfl,hbe⟩:=hQ;replace hbe:Grew wp _:=hbe;exact hEnd ρ4 v' wp4 w4 g4 (((le1.trans le2).trans le3).trans le) hv hbe
end
end Cw
end
section
namespace Cw
open Go Go.Conc Go.ConcN Rn Go.RowKit
open PB (SItem RdSS SamOk SFault C7 kcw7 ops7_5 ops7_6 T7m T7b T7c T7d T7e)
noncomputable def o7_5:Oper:=(ops7_5[0]?).getD default
theorem o7_5_at:ops7_5[0]?=some o7_5:=by kernel_rfl
theorem o7_5_op:o7_5.dst=some 28∧o7_5.guard=none∧o7_5.op=.call { callee:=.value (.func 10),args:=#[],argTypes:=#[] }:=⟨by kernel_rfl,by kernel_rfl,by kernel_rfl⟩
noncomputable def o7_6:Oper:=(ops7_6[0]?).getD default
theorem o7_6_at:ops7_6[0]?=some o7_6:=by kernel_rfl
theorem o7_6_op:o7_6.dst=some 40∧o7_6.guard=none∧o7_6.op=.call { callee:=.value (.func 10),args:=#[],argTypes:=#[] }:=⟨by kernel_rfl,by kernel_rfl,by kernel_rfl⟩
theorem Same.trans{a b c:World}(h:Same a b)(k:Same b c):Same a c :=
 ⟨Nat.le_trans h.size k.size,fun i hi=>(k.old i (Nat.lt_of_lt_of_le hi h.size)).trans (h.old i hi),k.os.trans h.os,k.tape.trans h.tape,k.output.trans h.output⟩
theorem grew_below{V w w':World}{N:Nat}(h:Grew V w)(hN:V.heap.size≤N){u:Nat→Question→Nat}(k:Below N (tp w u) w'):Grew V w':=⟨Nat.le_trans h.1 k.size,fun i hi=>(k.block i (Nat.lt_of_lt_of_le hi hN)).trans (h.2 i hi)⟩
section
variable {S:Nat→Prop}{hS:∀ b,S b→Tryz.prog.globals.size≤b}{W0 W:World}{B:Nat→Prop}{ρ:Ren Tryz.prog}{wp w:World}{q0:Nat}{b:Frame}{T T':Array Value}
theorem gh7_same(hrow:∀ b,S b→∃ c t f,W.heap[b]?=some (.cells c t f))(hg:Gh7 S hS W B ρ wp w)(hold:Grew (ghW false 0 S W) wp):Same W w :=
 ⟨hg.aft.sizer,ghW_exact kco7 hrow hg.aft hg.rs fun b hb=>hold.2 b (by rw[kax7];exact hb),hg.aft.os,hg.aft.tape,hg.aft.output⟩
theorem gh7_end(hrow:∀ b,S b→∃ c t f,W.heap[b]?=some (.cells c t f))(hsame:Same W0 W)(hg:Gh7 S hS W B ρ wp w)(hb:Plainb b){fn:Func}(hf:Tryz.prog.funcs[b.fn]?=some fn)(hi:Tryz.prog.inits.idxOf? b.fn=none){r:Nat}(hr:fn.results=#[.tmp r]){todo:List Item}
  (hT:ARR ρ T T') (hres:T.getD r undef=.bool true) (hold:Grew (ghW false 0 S W) wp) :
  Fin Tryz.prog (fun v w'=>v=.bool true∧Same W0 w') B q0 (G { b.at ⟨T',[]⟩ todo with mode:=.returning } []) w:=by
 refine fin_done hb hf hi hr fun w₁ r1=>?_;have hg1:=hg.atRel r1;have hv:=vr_getD hT r;rw[hres] at hv;have e:T'.getD r undef=.bool true:=by
  generalize T'.getD r undef=x at hv;cases hv;rfl
 exact⟨e,hsame.trans (gh7_same hrow hg1 hold)⟩
theorem val_slice(hg:Gh7 S hS W B ρ wp w){A:Option Addr}{n c:Nat}(hA:∀ a,A=some a→S a.block){v:Value}(hv:VR ρ (.slice A n c) v):v=.slice A n c:=by
 have e:=kfw7 (D:=0) (l:=n) (c:=c) hA;refine junkD_eq (v:=.slice A n c) hg.aft.le (fun b' h=>?_) (by rw[e];rintro(⟨_,h⟩|⟨_,h⟩)<;>cases h) (by rw[e];exact hv);have:=(ρ.low h).1;have:=kco7;omega
theorem val_at(hg:Gh7 S hS W B ρ wp w)(hT:ARR ρ T T'){i:Nat}{A:Option Addr}{n c:Nat}(hA:∀ a,A=some a→S a.block)(e:T[i]?=some (.slice A n c)):T'[i]?=some (.slice A n c):=by
 rcases hT.get? i with⟨e1,_⟩|⟨v,v',e1,e2,hv⟩
 ·rw[e] at e1;cases e1
 ·rw[e] at e1;cases e1;rw[e2,val_slice hg hA hv]
def Kind(xs:List SItem)(n2 n3:Nat)(fc fi:Int):Prop:=(Refused xs n2 fc fi∧n3=0)∨(SamOk xs∧n2≤512∧fc=0∧fi=0)
theorem kind_ex{xs:List SItem}{n2 n3:Nat}{fc fi:Int}(h:Kind xs n2 n3 fc fi):∃ (k2 i2:Int) (q:Bool),SFault xs (-1) k2 i2 ∧
  (((k2=2∨k2=3)∧fc=k2∧fi=i2)∨(k2=0∧n2≤512∧fc=k2∧fi=i2)∨(k2=0∧512<n2∧fc=3∧fi=-2))∧((fc=0∧q=false)∨(fc=2∧q=true)∨(fc=3∧q=true))∧(q=true→n3=0)∧(q=false→SamOk xs∧n2≤512):=by
 rcases h with⟨⟨h1,rfl,rfl⟩|⟨h1,q,hq,h2,h3,rfl,rfl⟩|⟨h1,h2,rfl,rfl⟩,h0⟩|⟨h1,h2,rfl,rfl⟩
 ·exact⟨2,-1,true,.inl ⟨h1,rfl,rfl⟩,.inl ⟨.inl rfl,rfl,rfl⟩,.inr (.inl ⟨rfl,rfl⟩),fun _=>h0,fun e=>(by cases e)⟩
 ·exact⟨3,(q:Nat),true,.inr (.inl ⟨h1,⟨q,hq,h2,h3,rfl⟩,rfl⟩),.inl ⟨.inr rfl,rfl,rfl⟩,.inr (.inr ⟨rfl,rfl⟩),fun _=>h0,fun e=>(by cases e)⟩
 ·exact⟨0,0,true,.inr (.inr ⟨h1,rfl,rfl⟩),.inr (.inr ⟨rfl,h2,rfl,rfl⟩),.inr (.inr ⟨rfl,rfl⟩),fun _=>h0,fun e=>(by cases e)⟩
 ·exact⟨0,0,false,.inr (.inr ⟨h1,rfl,rfl⟩),.inr (.inl ⟨rfl,h2,rfl,rfl⟩),.inl ⟨rfl,rfl⟩,fun e=>(by cases e),fun _=>⟨h1,h2⟩⟩
theorem b7:Plainb (base 7):=⟨rfl⟩
theorem mid_fin{A:Option Addr}{n c:Nat}{A2:Option Addr}{n2 c2:Nat}{A3:Option Addr}{n3 c3:Nat}{fc fi:Int}{xs:List SItem}(hrow:∀ b,S b→∃ c t f,W.heap[b]?=some (.cells c t f))(hsame:Same W0 W)(hg:Gh7 S hS W B ρ wp w)(h0:Grew (ghW false 0 S W) wp)
  (hA:∀ a,A=some a→S a.block) (hA2:∀ a,A2=some a→S a.block) (hA3:∀ a,A3=some a→S a.block) (h:RdSS wp A n c xs) (hK:Kind xs n2 n3 fc fi) (hq:q0+2<2147483648) (hT:ARR ρ (T7m A n c A2 n2 c2 A3 n3 c3 fc fi) T')
  (hEnd:∀ (B':Nat→Prop) (T8:Array Value) (w8:World),(∀ b,B' b→B b∨W.heap.size≤b)→(∀ b,B' b→b<w8.heap.size)→Same W w8→T8.size=83→T8[0]?=some (.slice A n c)→T8[1]?=some (.slice A2 n2 c2)→T8[5]?=some (.slice A3 n3 c3)→SamOk xs→n2≤512 →
   Fin Tryz.prog (fun v w'=>v=.bool true∧Same W0 w') B' (q0+1) (G ((base 7).at ⟨T8,[]⟩ [.code (C7 5)]) []) w8) :
  Fin Tryz.prog (fun v w'=>v=.bool true∧Same W0 w') B q0 (G ((base 7).at ⟨T',[]⟩ [.inRegion kcw7 [3,4,5,6,7,8],.code (C7 2)]) []) w:=by
 obtain⟨k2,i2,q,hF,h3,h5,hq0,hok⟩:=kind_ex hK;have hws:=hg.bl;refine gh7_ops hg b7 (by kernel_rfl) (Q:=fun T w'=>∃ g,T=T7b A n c A2 n2 c2 A3 n3 c3 fc fi g∧wp.heap.size≤g∧PB.Two w' g 24 (.int .i64 fc) (.int .i64 fi)∧Grew wp w') hT (fun u=>PB.r7_1 (tp wp u)) ?_;rintro ρ1 T1 T1' wp1 w1 u1 g1 le1 ⟨g,rfl,hgl,hG,k1⟩ ha1;replace hG:PB.Two wp1 g 24 (.int .i64 fc) (.int .i64 fi):=hG;replace k1:Grew wp wp1:=k1;rw[PB.seq7_2];refine gh7_seq g1 b7 (by kernel_rfl) (Q:=fun T w'=>∃ g2,T=T7c A n c A2 n2 c2 A3 n3 c3 fc fi g k2 i2 g2∧wp1.heap.size≤g2∧PB.Two w' g 24 (.int .i64 fc) (.int .i64 fi)∧PB.Two w' g2 24 (.int .i64 k2) (.int .i64 i2)∧Grew wp1 w') ha1 (fun u=>PB.r7_2 (w:=tp wp1 u) (kdy7 h k1) hF hG) ?_;rintro ρ2 T2 T2' wp2 w2 u2 g2' le2 ⟨g2,rfl,hgl2,hG1,hG2,k2'⟩ ha2;replace hG1:PB.Two wp2 g 24 (.int .i64 fc) (.int .i64 fi):=hG1;replace hG2:PB.Two wp2 g2 24 (.int .i64 k2) (.int .i64 i2):=hG2;replace k2':Grew wp1 wp2:=k2';have hne:g≠g2:=by
  have:g<wp1.heap.size:=PB.Blk.lt hG;omega
 have hV:(ghW false 0 S W).heap.size≤wp1.heap.size:=(h0.trans k1).1;rw[PB.seq7_3];refine gh7_seq g2' b7 (by kernel_rfl) (Q:=fun T w'=>(∃ x19 x20 x21 x22 x23 x24 x25 x26 x27,T=T7d A n c A2 n2 c2 A3 n3 c3 fc fi g k2 i2 g2 x19 x20 x21 x22 x23 x24 x25 x26 x27∧PB.Two w' g 24 (.int .i64 fc) (.int .i64 fi)∧PB.Two w' g2 24 (.int .i64 fc) (.int .i64 fi)∧Grew (ghW false 0 S W) w')) ha2 (fun u=>?_) ?_
 ·have conv:∀ {w':World},Below wp1.heap.size (tp wp2 u) w'→Grew (ghW false 0 S W) w':=fun hb=>grew_below ((h0.trans k1).trans k2') hV hb
  rcases h3 with h3|h3|h3
  ·exact Code.wp_mono (fun e a w ⟨p1,p2,x19,x20,x21,x22,x23,x24,x25,x26,x27,p3,p4,p5,p6⟩=>⟨p1,p2,x19,x20,x21,x22,x23,x24,x25,x26,x27,p3,p4,p5,conv p6⟩) (PB.r7_3a (w:=tp wp2 u) (N:=wp1.heap.size) k2'.1 hgl2 hne hG1 hG2 h3)
  ·exact Code.wp_mono (fun e a w ⟨p1,p2,x19,x20,x21,x22,x23,x24,x25,x26,x27,p3,p4,p5,p6⟩=>⟨p1,p2,x19,x20,x21,x22,x23,x24,x25,x26,x27,p3,p4,p5,conv p6⟩) (PB.r7_3b (w:=tp wp2 u) (N:=wp1.heap.size) k2'.1 hgl2 hne hG1 hG2 h3)
  ·exact Code.wp_mono (fun e a w ⟨p1,p2,x19,x20,x21,x22,x23,x24,x25,x26,x27,p3,p4,p5,p6⟩=>⟨p1,p2,x19,x20,x21,x22,x23,x24,x25,x26,x27,p3,p4,p5,conv p6⟩) (PB.r7_3c (w:=tp wp2 u) (N:=wp1.heap.size) k2'.1 hgl2 hne hG1 hG2 h3)
 rintro ρ3 T3 T3' wp3 w3 u3 g3 le3 ⟨x19,x20,x21,x22,x23,x24,x25,x26,x27,rfl,hF1,hF2,k3⟩ ha3;replace hF1:PB.Two wp3 g 24 (.int .i64 fc) (.int .i64 fi):=hF1;replace hF2:PB.Two wp3 g2 24 (.int .i64 fc) (.int .i64 fi):=hF2;replace k3:Grew (ghW false 0 S W) wp3:=k3;rw[PB.seq7_4];refine kdn7 g3 rfl (fun w₁=>stepG_seq) fun w4 g4=>?_;refine kdn7 g4 rfl (fun w₁=>stepG_seq) fun w5 g5=>?_;refine kdn7 g5 rfl (fun w₁=>stepG_region) fun w6 g6=>?_;rw[PB.range7_5];refine gh7_packs g6 (by decide) o7_5_at (kbl7 o7_5_op.2.1) o7_5_op.1 o7_5_op.2.2 (by omega) ha3 fun w7 N hN7 g7 ha7=>?_;refine gh7_ops g7 b7 (by kernel_rfl) (Q:=fun T w'=>T=T7e A n c A2 n2 c2 A3 n3 c3 fc fi g k2 i2 g2 x19 x20 x21 x22 x23 x24 x25 x26 x27 q∧Grew wp3 w') ha7 (fun u=>PB.r7_5 (w:=tp wp3 u) hF1 hF2 h5) ?_;rintro ρ8 T8 T8' wp8 w8 u8 g8 le8 ⟨rfl,k8⟩ ha8;replace k8:Grew wp3 wp8:=k8;have k38:=k3.trans k8;refine kdn7 g8 rfl (fun w₁=>stepG_cond (t:=q) (eval_bool (k:=39) ha8 rfl)) fun w9 g9=>?_;cases q with
 | true =>
  have hn3:=hq0 rfl;subst hn3;refine kdn7 g9 rfl (fun w₁=>stepG_seq) fun w10 g10=>?_;refine kdn7 g10 rfl (fun w₁=>stepG_region) fun w11 g11=>?_;rw[PB.range7_6];refine gh7_packs g11 (by decide) o7_6_at (kbl7 o7_6_op.2.1) o7_6_op.1 o7_6_op.2.2 (by omega) ha8 fun w12 N2 hN12 g12 ha12=>?_;refine gh7_ops g12 b7 (by kernel_rfl) (Q:=fun T w'=>T.getD 4 undef=.bool true∧Grew wp8 w') ha12 (fun u=>PB.r7_6 (w:=tp wp8 u) (PB.Two.grew hF1 k8) (PB.Two.grew hF2 k8) rfl) ?_;rintro ρ13 T13 T13' wp13 w13 u13 g13 le13 ⟨hr,k13⟩ ha13;replace k13:Grew wp8 wp13:=k13;refine kdn7 g13 rfl (fun w₁=>stepG_ret') fun w14 g14=>?_;exact gh7_end hrow hsame g14 b7 Tryz.func7 (by kernel_rfl) (r:=4) rfl ha13 hr (k38.trans k13)
 | false =>
  obtain⟨hs,hn2⟩:=hok rfl;refine kdn7 g9 rfl (fun w₁=>stepG_skip) fun w10 g10=>?_;refine hEnd (fun b=>B b∨b=N) T8' w10 (fun b hb=>hb.elim .inl fun e=>.inr (by rw[e];exact hN7)) g10.bl (gh7_same hrow g10 k38) ha8.size.symm (val_at g10 ha8 hA rfl) (val_at g10 ha8 hA2 rfl) (val_at g10 ha8 hA3 rfl) hs hn2
end
end Cw
end
section
open Go.ChangeShapes Go.WideShapes Go.ChangeAt Go.RowKit
namespace PB
section
variable {H:Type}{enc:TypeId×Value→H}{w:World}{base:Nat}{spare:Nat→Bool}{held:Bool}
theorem rd_of_ints{P:Program}{t e:TypeId}{k:IntKind}{fuel:Nat}{v:Value}{x:DataW H×List MemPlace}(ht:P.underlying t=some (.slice e))(he:P.underlying e=some (.int k))(hc:P.cellsOf e=1)
  (hval:∃ A n c,v=.slice A n c) (h:DataW.trod enc P w base spare held fuel t [v]=some x) :
  ∃ A n c,∃ zs:List Int,v=.slice A n c∧Rd w A n c (zs.map (Value.int k))∧∀ z∈zs,(Lit.int k z).wf=true:=by
 rcases open_ints ht he hc h with⟨hcs,_⟩|⟨a,len,cap,zs,hcs,_,hl,hm,hz,_,hcell,hwz⟩
 ·cases hcs;exact⟨none,0,0,[],rfl,Reads.nil _ _ none 0 (Nat.zero_le _),by simp⟩
 ·cases hcs;have hlz:len≤zs.length:=by rw[hz];split<;>omega
  refine⟨some a,len,cap,zs.take len,rfl,⟨by simp;omega,hl,hm,fun h0=>?_⟩,fun z hz'=>hwz z (List.mem_of_mem_take hz')⟩;obtain⟨b,off,spot⟩:=a;have h00:=hcell 0 (by omega);have hspot:spot=none:=by simpa [Addr.add] using World.cell?_spot h00
  subst hspot;have hadd:∀ j,(⟨b,off,none⟩:Addr).add j=⟨b,off+j,none⟩:=by
   intro j;unfold Addr.add;by_cases hj:j=0<;>simp[hj]
  refine⟨b,off,rfl,?_,fun j u hu=>?_⟩
  ·have:=World.block_lt_of_cell? _ _ h00
   simpa [hadd] using this
  ·rw[List.getElem?_map] at hu;have hj:j<len:=by
    rcases Nat.lt_or_ge j len with h|h
    ·exact h
    ·rw[List.getElem?_eq_none (by simp;omega)] at hu;simp at hu
   have hcj:=hcell j (by omega);rw[hadd] at hcj;rw[hcj];rw[List.getElem?_take,if_pos hj] at hu;rw[List.getElem?_eq_getElem (by omega)] at hu;simp at hu;rw[←hu,List.getD_eq_getElem?_getD,List.getElem?_eq_getElem (by omega)];rfl
theorem bytes_of_wf(zs:List Int)(h:∀ z∈zs,(Lit.int .u8 z).wf=true):∃ d:List Nat,zs.map (Value.int .u8)=bcells d∧∀ k,d.getD k 0<256:=by
 have hz:∀ z∈zs,0≤z∧z<256:=by
  intro z hz;have:=h z hz;simp[Lit.wf,IntKind.min,IntKind.max,IntKind.signed,IntKind.bits] at this;omega
 refine⟨zs.map Int.toNat,?_,?_⟩
 ·unfold bcells;rw[List.map_map];refine List.map_congr_left fun z hz'=>?_;have:=hz z hz';simp;omega
 ·intro k;rw[List.getD_eq_getElem?_getD,List.getElem?_map];rcases Nat.lt_or_ge k zs.length with hk|hk
  ·rw[List.getElem?_eq_getElem hk];have:=hz _ (List.getElem_mem hk);simp;omega
  ·rw[List.getElem?_eq_none hk];simp
end
end PB
theorem Tryz.own:ownKnob Tryz.prog.godebug=none:=by kernel_rfl
theorem Tryz.laidOut:laidOutB Tryz.prog=true:=by kernel_rfl
end
section
open Go.ChangeShapes Go.WideShapes Go.ChangeAt Go.RowKit Go.Deep
namespace PB
section
variable {H:Type}{enc:TypeId×Value→H}{P:Program}{w:World}{base:Nat}{spare:Nat→Bool}{held:Bool}
end
theorem list_of_ex{α:Type}{p:Nat→α→Prop}:∀ n,(∀ i,i<n→∃ x,p i x)→∃ xs:List α,xs.length=n∧∀ i x,xs[i]?=some x→p i x:=by
 intro n
 induction n with
 | zero=>intro _;exact⟨[],rfl,fun i x h=>by simp at h⟩
 | succ n ih =>
  intro h;obtain⟨xs,h1,h2⟩:=ih fun i hi=>h i (by omega);obtain⟨y,hy⟩:=h n (by omega);refine⟨xs++[y],by simp[h1],fun i x hx=>?_⟩;rcases Nat.lt_or_ge i n with hi|hi
  ·rw[List.getElem?_append_left (by omega)] at hx;exact h2 i x hx
  ·rw[List.getElem?_append_right (by omega)] at hx;have:i-xs.length=0:=by
    rcases Nat.eq_zero_or_pos (i-xs.length) with h|h
    ·exact h
    ·rw[List.getElem?_eq_none (by simp;omega)] at hx;cases hx
   rw[this] at hx;obtain rfl:i=n:=by omega
   simp at hx;rw[←hx];exact hy
section
variable {H:Type}{enc:TypeId×Value→H}{w:World}{base:Nat}{spare:Nat→Bool}{held:Bool}
end
end PB
end
section
namespace Cw
open Go Go.Conc Go.ConcN Rn Go.RowKit
open PB (SItem RdSS SamOk C7 ops7_0 kcw7 T7z T7m T7t Tz ByteL)
def T7n(A:Option Addr)(n c:Nat)(A2:Option Addr)(n2 c2:Nat):Array Value:=#[.slice A n c,.slice A2 n2 c2,undef,undef,.bool false,undef,undef,undef,undef,undef,undef,undef,.slice A n c,.slice A2 n2 c2,undef,undef,undef,undef,undef,undef,undef,undef,undef,undef,undef,undef,undef,undef,undef,undef,undef,undef,undef,undef,undef,undef,undef,undef,undef,undef,undef,undef,undef,undef,undef,undef,undef,undef,undef,undef,undef,undef,undef,undef,undef,undef,undef,undef,undef,undef,undef,undef,undef,undef,undef,undef,undef,undef,undef,undef,undef,undef,undef,undef,undef,undef,undef,undef,undef,undef,undef,undef,undef]
noncomputable def o7_1:Oper:=(kcw7[2]?).getD default
theorem o7_1_at:kcw7[2]?=some o7_1:=by kernel_rfl
theorem o7_1_op:o7_1.dst=some 14∧o7_1.guard=none∧o7_1.op=.call { callee:=.value (.func 17),args:=#[.tmp 12,.tmp 13],argTypes:=#[35,22] }:=⟨by kernel_rfl,by kernel_rfl,by kernel_rfl⟩
theorem arr_refl{P:Program}{ρ:Ren P}{T:Array Value}(h:∀ v∈T.toList,VR ρ v v):ARR ρ T T:=⟨rfl,fun i v v' h1 h2=>by
 rw[h1] at h2;cases h2;exact h v (Array.mem_toList_iff.2 (Array.mem_of_getElem? h1))⟩
theorem vr_undef{P:Program}{ρ:Ren P}:VR ρ undef undef:=.tuple rfl fun i v v' h=>by simp at h
theorem kcx7{S:Nat→Prop}{hS:∀ b,S b→Tryz.prog.globals.size≤b}{A:Option Addr}{n c:Nat}(h:∀ a,A=some a→S a.block):VR (renD Tryz.prog S7 S hS false 0) (.slice A n c) (.slice A n c):=by
 cases A with
 | none=>exact .snone n c
 | some a=>exact .slice n c ⟨⟨h a rfl,rfl⟩,rfl,rfl⟩
theorem finish7(A:Option Addr)(n c:Nat)(A2:Option Addr)(n2 c2:Nat)(v:Value):((base 7).at ⟨T7n A n c A2 n2 c2,[]⟩ [.inRegion kcw7 [2,3,4,5,6,7,8],.code (C7 2)]).finish v=(base 7).at ⟨(T7n A n c A2 n2 c2).setIfInBounds 14 v,[]⟩ [.inRegion kcw7 [3,4,5,6,7,8],.code (C7 2)]:=by
 have ef:=Frame.finish_at (base 7) ⟨T7n A n c A2 n2 c2,[]⟩ kcw7 2 [3,4,5,6,7,8] [.code (C7 2)] v;rw[o7_1_at] at ef;simp only[Option.bind_some,o7_1_op.1,Act.put] at ef;exact ef
section
variable {A:Option Addr}{n c:Nat}{A2:Option Addr}{n2 c2:Nat}{xs:List SItem}{dict:List Nat}{W W1:World}
def Rows(A A2:Option Addr)(xs:List SItem)(b:Nat):Prop:=ArgS A A2 b∨∃ x∈xs,¬(x.n=0∧x.c=0)∧∃ a,x.A=some a∧a.block=b
theorem rows_held{x:SItem}(hx:x∈xs):Held (Rows A A2 xs) x.A x.n x.c:=by
 intro a e;by_cases h:x.n=0∧x.c=0
 ·exact .inr h
 ·exact .inl (.inr ⟨x,hx,h,a,e,rfl⟩)
theorem refused_all(hlo:Tryz.prog.globals.size≤W.heap.size)(hS:∀ b,Rows A A2 xs b→Tryz.prog.globals.size≤b)(hrow:∀ b,Rows A A2 xs b→∃ c t f,W.heap[b]?=some (.cells c t f))(hat:AtRel W W1)
  (h:RdSS W A n c xs) (hm2:n2≤maxLen) {fc fi:Int} (hr:Refused xs n2 fc fi) :
  Fin Tryz.prog (fun v w'=>v=.bool true∧Same W w') (fun _=>False) 0 (G ((base 17).at ⟨Tz A n c A2 n2 c2,[]⟩ [.code (K17 0)]) [(base 7).at ⟨T7n A n c A2 n2 c2,[]⟩ [.inRegion kcw7 [2,3,4,5,6,7,8],.code (C7 2)]]) W1:=by
 have g0:Gh7 (Rows A A2 xs) hS W (fun _=>False) (renD Tryz.prog S7 (Rows A A2 xs) hS false 0) (ghW false 0 (Rows A A2 xs) W) W1:=(Gh7.begin hrow hlo).atRel hat;have hA:∀ a,A=some a→Rows A A2 xs a.block:=fun a e=>.inl (.inl ⟨a,e,rfl⟩);have hA2:∀ a,A2=some a→Rows A A2 xs a.block:=fun a e=>.inl (.inr ⟨a,e,rfl⟩);have hR:=(kfx7 (sh:=false) (D:=0) h hA fun x hx=>rows_held (A:=A) (A2:=A2) hx).1;have hr':=refused_map (D:=0) (S:=Rows A A2 xs) hr;have hTz:ARR (renD Tryz.prog S7 (Rows A A2 xs) hS false 0) (Tz A n c A2 n2 c2) (Tz A n c A2 n2 c2):=arr_refl fun v hv=>by
  simp only[Tz,List.mem_cons,List.not_mem_nil,or_false,or_self] at hv;rcases hv with rfl|rfl|rfl
  ·exact kcx7 hA
  ·exact kcx7 hA2
  ·exact vr_undef
 have hTn:ARR (renD Tryz.prog S7 (Rows A A2 xs) hS false 0) (T7n A n c A2 n2 c2) (T7n A n c A2 n2 c2):=arr_refl fun v hv=>by
  simp only[T7n,List.mem_cons,List.not_mem_nil,or_false,or_self] at hv;rcases hv with rfl|rfl|rfl|rfl|rfl|rfl|rfl|rfl|rfl|rfl|rfl|rfl|rfl|rfl|rfl<;>first
   | exact kcx7 hA
   | exact kcx7 hA2
   | exact vr_undef
   | exact .bool _
 refine refuse_fin g0 hR hm2 hr' hTz fun ρ2 v' wp2 w2 g2 le hv k=>?_;rw[finish7];refine mid_fin (S:=Rows A A2 xs) (hS:=hS) (W:=W) (A3:=none) (n3:=0) (c3:=0) (fc:=fc) (fi:=fi) (xs:=xs.map (itemD 0 (Rows A A2 xs))) hrow ⟨Nat.le_refl _,fun _ _=>rfl,rfl,rfl,rfl⟩ g2 k hA hA2 (fun a e=>by cases e) (kdy7 hR k) (.inl ⟨hr',rfl⟩) (by decide)
  (show ARR ρ2 ((T7n A n c A2 n2 c2).setIfInBounds 14 (.tuple #[.slice none 0 0,.agg #[.int .i64 fc,.int .i64 fi]])) _ from(hTn.mono le).set 14 hv) ?_
 intro B' T8 w8 _ _ _ _ _ _ _ hok hn2;exfalso;rcases hr' with⟨h1,_⟩|⟨_,q,hq,_,h3,_⟩|⟨_,h1,_⟩
 ·have:=hok.few;omega
 ·have:=hok.short _ (List.getElem_mem hq);omega
 ·omega
theorem kil7{w:World}{a:Addr}{v:Value}(h:w.cell? a=some v):∃ c t f,w.heap[a.block]?=some (.cells c t f):=by
 unfold World.cell? at h;cases hb:w.heap[a.block]? with
 | none=>rw[hb] at h;cases h
 | some o =>
  rw[hb] at h;cases o with
  | cells c t f=>exact⟨c,t,f,rfl⟩
  | _=>cases h
def itm(xs:List SItem)(j:Nat):SItem:=(xs[j]?).getD ⟨none,0,0,[]⟩
theorem itm_at{j:Nat}(hj:j<xs.length):xs[j]?=some (itm xs j)∧itm xs j∈xs:=by
 have e:xs[j]?=some xs[j]:=List.getElem?_eq_getElem hj;have e2:itm xs j=xs[j]:=by unfold itm;rw[e];rfl
 rw[e2];exact⟨e,List.getElem_mem hj⟩
theorem tail_lone7{T:Array Value}{V0:World}{A3:Option Addr}{c3:Nat}{ys:List SItem}(hs:T.size=83)(h0:T[0]?=some (.slice A n c))(h1:T[1]?=some (.slice A2 n2 c2))(h5:T[5]?=some (.slice A3 n c3))
  (h:RdSS V0 A n c xs) (h2:PB.Rd V0 A2 n2 c2 (PB.bcells dict)) (hl:RdSS V0 A3 n c3 ys) (hok:SamOk xs) (hn2:n2≤512) (hd:∀ x∈xs,ByteL x.d) (hd2:∀ k,dict.getD k 0<256)
  (hy:∀ (k:Nat) (x y:SItem),xs[k]?=some x→ys[k]?=some y→∃ ts,PB.PTok x.d dict ts∧y.d=PB.pk2 x.d ts) (u:Nat→Question→Nat) :
  (C7 5).wp Tryz.prog (bodyPost Tryz.prog Tryz.f7 fun e w'=>∃ v,e=.returned v∧v=.bool true∧Grew (tp V0 u) w') ⟨T,[]⟩ (tp V0 u):=by
 obtain⟨y2,y3,y4,y6,y7,y8,y9,y10,y11,y12,y13,y14,y15,y16,y17,y18,y19,y20,y21,y22,y23,y24,y25,y26,y27,y28,y29,y30,y31,y32,y33,y34,y35,y36,y37,y38,y39,y40,y41,y42,y43,y44,y45,y46,y47,y48,y49,y50,y51,y52,y53,y54,y55,y56,y57,y58,y59,y60,y61,y62,y63,y64,y65,y66,y67,y68,y69,y70,y71,y72,y73,y74,y75,y76,y77,y78,y79,y80,y81,y82,rfl⟩:=PB.t7_lit hs h0 h1 h5;exact PB.r7_t (w:=tp V0 u) h h2 hl hok hn2 hd hd2 hy
theorem map_items{D:Nat}{S:Nat→Prop}{ys:List SItem}(hy:∀ (k:Nat) (x y:SItem),xs[k]?=some x→ys[k]?=some y→∃ ts,PB.PTok x.d dict ts∧y.d=PB.pk2 x.d ts) :
  ∀ (k:Nat) (x y:SItem),(xs.map (itemD D S))[k]?=some x→(ys.map (itemD D S))[k]?=some y→∃ ts,PB.PTok x.d dict ts∧y.d=PB.pk2 x.d ts:=by
 intro k x y h1 h2;rw[List.getElem?_map] at h1 h2;obtain⟨x0,e1,rfl⟩:=Option.map_eq_some_iff.1 h1;obtain⟨y0,e2,rfl⟩:=Option.map_eq_some_iff.1 h2;exact hy k x0 y0 e1 e2
theorem map_bytes{D:Nat}{S:Nat→Prop}(hd:∀ x∈xs,ByteL x.d):∀ x∈xs.map (itemD D S),ByteL x.d:=by
 intro x hx;obtain⟨y,hy,rfl⟩:=List.mem_map.1 hx;exact hd y hy
theorem map_at{D:Nat}{S:Nat→Prop}{T:Array Value}{i:Nat}{A:Option Addr}{n c:Nat}(hA:∀ a,A=some a→S a.block)(e:T[i]?=some (.slice A n c)):(T.map (junkD D S))[i]?=some (.slice A n c):=by
 rw[Array.getElem?_map,e];exact congrArg some (kfw7 hA)
theorem good_all(hlo:Tryz.prog.globals.size≤W.heap.size)(hS:∀ b,Rows A A2 xs b→Tryz.prog.globals.size≤b)(hrow:∀ b,Rows A A2 xs b→∃ c t f,W.heap[b]?=some (.cells c t f))(hat:AtRel W W1)
  (h:RdSS W A n c xs) (h2:PB.Rd W A2 n2 c2 (PB.bcells dict)) (hok:SamOk xs) (hn2:n2≤512) (hd:∀ x∈xs,ByteL x.d) (hd2:∀ k,dict.getD k 0<256) :
  Fin Tryz.prog (fun v w'=>v=.bool true∧Same W w') (fun _=>False) 0 (G (Frame.enter Tryz.prog 17 #[.slice A n c,.slice A2 n2 c2] .normal) [(base 7).at ⟨T7n A n c A2 n2 c2,[]⟩ [.inRegion kcw7 [2,3,4,5,6,7,8],.code (C7 2)]]) W1:=by
 obtain⟨d,rfl⟩:=hat;have hn:=h.1;have hcap:=h.2.1;have hcm:=h.2.2.1;have hrd:=h.2.2.2;have hlen:∀ j,j<n→(itm xs j).n≤1024∧PB.Rd W (itm xs j).A (itm xs j).n (itm xs j).c (PB.bcells (itm xs j).d):=by
  intro j hj;obtain⟨e1,hm⟩:=itm_at (xs:=xs) (j:=j) (by omega);obtain⟨b,off,_,_,hc⟩:=hrd (by omega);obtain⟨_,q⟩:=hc j _ e1;have:=q.len;rw[PB.ka7] at this;exact⟨by rw[←this];exact hok.short _ hm,q⟩
 have lt:∀ b,Rows A A2 xs b→b<W.heap.size:=fun b hb=>by
  obtain⟨c,t,f,e⟩:=hrow b hb;exact kap7 e
 have hC:CallP A n c (fun j=>.slice (itm xs j).A (itm xs j).n (itm xs j).c) A2 n2 c2 (fun _=>False) (Rows A A2 xs) (Rows A A2 xs) (Res5 (fun j=>(itm xs j).d) dict) (W.at d):=by
  refine⟨by have:=hok.few;omega,fun h0=>?_,fun j ad hj e=>?_,fun _ _ _ h=>h,fun j hj=>⟨_,_,_,rfl,(hlen j hj).1⟩,hn2,fun b hb=>hb.elim,fun b hb=>lt b hb,fun b hb=>⟨hb,fun h=>h⟩,res5_keep,fun C Wg Bd Bo j Bb Bi _ _ hj=>?_⟩
  ·obtain⟨b,off,e,_⟩:=hrd h0;exact⟨_,e⟩
  ·obtain⟨b,off,e2,_,hc⟩:=hrd (by omega);rw[e] at e2;cases e2;have:=(hc j _ (itm_at (xs:=xs) (j:=j) (by omega)).1).1;have ea:(⟨b,off,none⟩:Addr).add j=⟨b,off+j,none⟩:=by
    unfold Addr.add;by_cases h0:j=0<;>simp[h0]
   rw[ea];exact this
  ·exact packG_argD (W0:=W.at d) (blks:=fun j=>(itm xs j).d) (c:=j) hS hrow hlo (hlen j hj).2 h2 (hlen j hj).1 hn2 (hd _ (itm_at (xs:=xs) (j:=j) (by omega)).2).getD hd2 (rows_held (itm_at (xs:=xs) (j:=j) (by omega)).2) (fun a e=>.inl (.inl (.inr ⟨a,e,rfl⟩)))
 refine packall_fin (q0:=0) hC (by have:=hok.few;omega) fun w' V hL=>?_;rw[finish7];have hsz:(W.at d).heap.size=W.heap.size:=rfl;rw[hsz];obtain⟨N,hN⟩:∃ N,N=W.heap.size:=⟨_,rfl⟩
 have hLs:N+5≤w'.heap.size:=by rw[hN];exact hL.size
 have hsame:Same W w':=⟨by omega,fun b hb=>by
  by_cases hs:Rows A A2 xs b
  ·exact hL.low b hs
  ·exact hL.old b hb hs,hL.os,hL.tape,hL.output⟩
 have hg:Grew W w':=⟨hsame.size,hsame.old⟩
 obtain⟨ys,hyl,hys⟩:=PB.list_of_ex (α:=SItem) (p:=fun i y=>w'.cell? ⟨N+2,i,none⟩=some (.slice y.A y.n y.c)∧PB.Rd w' y.A y.n y.c (PB.bcells y.d)∧(∃ ts,PB.PTok (itm xs i).d dict ts∧y.d=PB.pk2 (itm xs i).d ts)∧0<y.n∧∀ a,y.A=some a→V i a.block) n (by
  intro i hi;obtain⟨v,hv,Ai,ni,ki,ts,rfl,hT,hR,hV⟩:=hL.has i hi;replace hR:PB.Rd w' Ai ni ki (PB.bcells (PB.pk2 (itm xs i).d ts)):=hR;refine⟨⟨Ai,ni,ki,PB.pk2 (itm xs i).d ts⟩,by rw[hN];exact hv,hR,⟨ts,hT,rfl⟩,?_,hV⟩;have:=(PB.pk2_length (itm xs i).d ts).1;have hl:=hR.len;rw[PB.ka7] at hl;show 0<ni;omega)
 obtain⟨pcs,hpay,hpsz⟩:=hL.pay;have hl:RdSS w' (some ⟨N+2,0,none⟩) n n ys:=⟨hyl,Nat.le_refl _,Nat.le_trans hcap hcm,fun h0=>⟨N+2,0,rfl,by omega,fun i x hx=>⟨by rw[Nat.zero_add];exact(hys i x hx).1,(hys i x hx).2.1⟩⟩⟩
 obtain⟨S2,hS2e⟩:∃ S2:Nat→Prop,S2=fun b=>Rows A A2 xs b∨b=N+2∨∃ y∈ys,∃ a,y.A=some a∧a.block=b:=⟨_,rfl⟩
 have s2in:∀ b,Rows A A2 xs b→S2 b:=fun b hb=>by rw[hS2e];exact .inl hb
 have s2new:∀ b,S2 b→Rows A A2 xs b∨b=N+2∨(N+5≤b∧∃ c t f,w'.heap[b]?=some (.cells c t f)):=by
  intro b hb;rw[hS2e] at hb;rcases hb with hb|hb|⟨y,hy,a,e,rfl⟩
  ·exact .inl hb
  ·exact .inr (.inl hb)
  ·obtain⟨i,hi⟩:=List.getElem?_of_mem hy;obtain⟨_,hR,_,hp,hV⟩:=hys i y hi;have hin:i<n:=by rw[←hyl];exact(List.getElem?_eq_some_iff.1 hi).1
   have hv:=(hL.vs i _ hin (hV a e)).1;refine .inr (.inr ⟨by rw[hN];exact hv,?_⟩);obtain⟨b0,off,e0,hb0,hc⟩:=hR.2.2.2 hp;rw[e] at e0;cases e0;have hlen:0<(PB.bcells y.d).length:=by rw[hR.len];exact hp
   exact kil7 (hc 0 _ (List.getElem?_eq_getElem hlen))
 have hS2:∀ b,S2 b→Tryz.prog.globals.size≤b:=fun b hb=>by
  rcases s2new b hb with hb|hb|⟨hb,_⟩
  ·exact hS b hb
  ·omega
  ·omega
 have hrow2:∀ b,S2 b→∃ c t f,w'.heap[b]?=some (.cells c t f):=fun b hb=>by
  rcases s2new b hb with hb|hb|⟨_,hb⟩
  ·obtain⟨c,t,f,e⟩:=hrow b hb;exact⟨c,t,f,(hsame.old b (lt b hb)).trans e⟩
  ·subst hb;rw[hN];exact⟨_,_,_,hpay⟩
  ·exact hb
 have hA:∀ a,A=some a→S2 a.block:=fun a e=>s2in _ (.inl (.inl ⟨a,e,rfl⟩));have hA2:∀ a,A2=some a→S2 a.block:=fun a e=>s2in _ (.inl (.inr ⟨a,e,rfl⟩));have hA3:∀ a,(some ⟨N+2,0,none⟩:Option Addr)=some a→S2 a.block:=fun a e=>by
  cases e;rw[hS2e];exact .inr (.inl rfl)
 have hxH:∀ x∈xs,Held S2 x.A x.n x.c:=fun x hx a e=>(rows_held (A:=A) (A2:=A2) hx a e).imp (s2in _) id;have hyH:∀ y∈ys,Held S2 y.A y.n y.c:=fun y hy a e=>.inl (by rw[hS2e];exact .inr (.inr ⟨y,hy,a,e,rfl⟩));have hyx:∀ (k:Nat) (x y:SItem),xs[k]?=some x→ys[k]?=some y→∃ ts,PB.PTok x.d dict ts∧y.d=PB.pk2 x.d ts:=by
  intro k x y e1 e2;have:=(hys k y e2).2.2.1;have ei:itm xs k=x:=by unfold itm;rw[e1];rfl
  rwa [ei] at this
 have hlo':Tryz.prog.globals.size≤w'.heap.size:=by omega
 have g:Gh7 S2 hS2 w' (fun b=>False∨b=N+4) (renD Tryz.prog S7 S2 hS2 false 0) (ghW false 0 S2 w') w':=by
  refine⟨rs_ghW hrow2 hlo',Aft.refl _ _ _,fun b b' hb hbb=>?_,fun b hb=>?_⟩
  ·obtain⟨hb,rfl⟩:=hb;rcases hbb with hbb|hbb
   ·exact hbb
   ·rcases s2new _ hb with h1|h1|⟨h1,_⟩
    ·have:=lt _ h1;omega
    ·omega
    ·omega
  ·rcases hb with hb|hb
   ·exact hb.elim
   ·omega
 have hTm:ARR (renD Tryz.prog S7 S2 hS2 false 0) (T7n A n c A2 n2 c2) (T7n A n c A2 n2 c2):=arr_refl fun v hv=>by
  simp only[T7n,List.mem_cons,List.not_mem_nil,or_false,or_self] at hv;rcases hv with rfl|rfl|rfl|rfl|rfl|rfl|rfl|rfl|rfl|rfl|rfl|rfl|rfl|rfl|rfl<;>first
   | exact kcx7 hA
   | exact kcx7 hA2
   | exact vr_undef
   | exact .bool _
 have hR:RdSS w' A n c xs:=kdy7 h hg;have hR2:PB.Rd w' A2 n2 c2 (PB.bcells dict):=PB.Rd.grew h2 hg;have hvt:VR (renD Tryz.prog S7 S2 hS2 false 0) (.tuple #[.slice (some ⟨N+2,0,none⟩) n n,.agg #[.int .i64 0,.int .i64 0]]) (.tuple #[.slice (some ⟨N+2,0,none⟩) n n,.agg #[.int .i64 0,.int .i64 0]]):=by
  refine VR.tuple' (ARR.push (xs:=#[_]) (xs':=#[_]) (ARR.one (kcx7 hA3)) (VR.agg' ?_));exact ARR.push (xs:=#[_]) (xs':=#[_]) (ARR.one (.int _ _)) (.int _ _)
 rw[←hN];refine mid_fin (S:=S2) (hS:=hS2) (W:=w') (A3:=some ⟨N+2,0,none⟩) (n3:=n) (c3:=n) (fc:=0) (fi:=0) (xs:=xs.map (itemD 0 S2)) hrow2 hsame g ⟨Nat.le_refl _,fun _ _=>rfl⟩ hA hA2 hA3 (kfx7 (sh:=false) hR hA hxH).1 (.inr ⟨kfm7 hok,hn2,rfl,rfl⟩) (by have:=hok.few;omega)
  (show ARR _ ((T7n A n c A2 n2 c2).setIfInBounds 14 (.tuple #[.slice (some ⟨N+2,0,none⟩) n n,.agg #[.int .i64 0,.int .i64 0]])) _ from hTm.set 14 hvt) ?_
 intro B' T8 w8 hB' hbl hs8 e83 e0 e1 e5 _ _;have hg8:Grew w' w8:=⟨hs8.size,hs8.old⟩
 have hrow8:∀ b,S2 b→∃ c t f,w8.heap[b]?=some (.cells c t f):=fun b hb=>by
  obtain⟨c,t,f,e⟩:=hrow2 b hb;exact⟨c,t,f,(hs8.old b (kap7 e)).trans e⟩
 have k1:=kfx7 (sh:=false) (D:=0) (kdy7 hR hg8) hA hxH;have k2:=kfx7 (sh:=false) (D:=0) (kdy7 hl hg8) hA3 hyH;have k3:PB.Rd (ghW false 0 S2 w8) A2 n2 c2 (PB.bcells dict):=rd_ghW (PB.Rd.grew hR2 hg8);refine tail7 (S:=S2) hS2 hrow8 (by have:=hs8.size;omega) (hsame.trans hs8) (fun b hb hbb=>?_) hbl b7 (by kernel_rfl) Tryz.func7 (by kernel_rfl) (r:=4) rfl (fun u=>?_) fun D u=>?_
 ·rcases hB' b hbb with h1|h1
  ·exact g.nb b b ⟨hb,rfl⟩ h1
  ·obtain⟨_,_,_,e⟩:=hrow2 b hb;have:=kap7 e;omega
 ·exact tail_lone7 (by simpa using e83) (map_at hA e0) (map_at hA2 e1) (map_at hA3 e5) k1.1 k3 k2.1 (kfm7 hok) hn2 (map_bytes hd) hd2 (map_items hyx) u
 ·have j1:=kfx7 (sh:=false) (D:=D) k1.1 hA k1.2;have j2:=kfx7 (sh:=false) (D:=D) k2.1 hA3 k2.2;exact tail_lone7 (by simpa using e83) (map_at hA (map_at hA e0)) (map_at hA2 (map_at hA2 e1)) (map_at hA3 (map_at hA3 e5)) j1.1 (rd_ghW k3) j2.1 (kfm7 (kfm7 hok)) hn2 (map_bytes (map_bytes hd)) hd2 (map_items (map_items hyx)) u
theorem body7:Tryz.f7.body=some (C7 0):=by kernel_rfl
theorem ntmps7:Tryz.f7.ntmps=83:=by kernel_rfl
noncomputable def o7_0:Oper:=(ops7_0[0]?).getD default
theorem o7_0_at:ops7_0[0]?=some o7_0:=by kernel_rfl
theorem o7_0_op:o7_0.dst=some 4∧o7_0.guard=none∧o7_0.op=.assign (.const (.bool false)):=⟨by kernel_rfl,by kernel_rfl,by kernel_rfl⟩
noncomputable def o7_a:Oper:=(kcw7[0]?).getD default
theorem o7_a_at:kcw7[0]?=some o7_a:=by kernel_rfl
theorem o7_a_op:o7_a.dst=some 12∧o7_a.guard=none∧o7_a.op=.move (.tmp 0):=⟨by kernel_rfl,by kernel_rfl,by kernel_rfl⟩
noncomputable def o7_b:Oper:=(kcw7[1]?).getD default
theorem o7_b_at:kcw7[1]?=some o7_b:=by kernel_rfl
theorem o7_b_op:o7_b.dst=some 13∧o7_b.guard=none∧o7_b.op=.move (.tmp 1):=⟨by kernel_rfl,by kernel_rfl,by kernel_rfl⟩
theorem run_move{P:Program}{o:Oper}{x:Operand}(h:o.op=.move x)(e:Operand→Value)(w:World):(execOp e o).run P w=.ok (.value (e x)) w∧(execOp e o).events P w #[]=#[]:=by
 constructor<;>simp[execOp,h,go_sem]
theorem run_assign{P:Program}{o:Oper}{x:Operand}(h:o.op=.assign x)(e:Operand→Value)(w:World):(execOp e o).run P w=.ok (.value (e x)) w∧(execOp e o).events P w #[]=#[]:=by
 constructor<;>simp[execOp,h,go_sem]
theorem together_fin(hlo:Tryz.prog.globals.size≤W.heap.size)(hS:∀ b,Rows A A2 xs b→Tryz.prog.globals.size≤b)(hrow:∀ b,Rows A A2 xs b→∃ c t f,W.heap[b]?=some (.cells c t f))
  (h:RdSS W A n c xs) (h2:PB.Rd W A2 n2 c2 (PB.bcells dict)) (hd:∀ x∈xs,ByteL x.d) (hd2:∀ k,dict.getD k 0<256) :
  Fin Tryz.prog (fun v w'=>v=.bool true∧Same W w') (fun _=>False) 0 (G (Frame.enter Tryz.prog 7 #[.slice A n c,.slice A2 n2 c2] .normal) []) W:=by
 have hm2:n2≤maxLen:=Nat.le_trans h2.cap h2.capMax;rw[enter_at _ Tryz.func7 body7,ntmps7];have eT:#[.slice A n c,.slice A2 n2 c2]++Array.replicate (83-(#[.slice A n c,.slice A2 n2 c2]:Array Value).size) undef=T7z A n c A2 n2 c2:=by kernel_rfl
 rw[eT,PB.seq7_0];refine kf7 rfl (fun w₁=>stepG_seq) fun w1 r1=>?_;refine kf7 rfl (fun w₁=>stepG_region) fun w2 r2=>?_;rw[PB.range7_0];refine kr7 (o:=o7_0) (v:=.bool false) o7_0_at (kbl7 o7_0_op.2.1) (by decide) (fun w₁ r=>run_assign o7_0_op.2.2 _ w₁) fun w3 r3=>?_;rw[o7_0_op.1];refine kf7 rfl (fun w₁=>stepG_region_end) fun w4 r4=>?_;rw[PB.seq7_1];refine kf7 rfl (fun w₁=>stepG_seq) fun w5 r5=>?_;refine kf7 rfl (fun w₁=>stepG_region) fun w6 r6=>?_;rw[PB.range7_1];refine kr7 (o:=o7_a) (v:=.slice A n c) o7_a_at (kbl7 o7_a_op.2.1) (by decide) (fun w₁ r=>run_move o7_a_op.2.2 _ w₁) fun w7 r7=>?_;rw[o7_a_op.1];refine kr7 (o:=o7_b) (v:=.slice A2 n2 c2) o7_b_at (kbl7 o7_b_op.2.1) (by decide) (fun w₁ r=>run_move o7_b_op.2.2 _ w₁) fun w8 r8=>?_;rw[o7_b_op.1];show Fin Tryz.prog _ _ _ (G ((base 7).at ⟨T7n A n c A2 n2 c2,[]⟩ [.inRegion kcw7 [2,3,4,5,6,7,8],.code (C7 2)]) []) w8;refine fin_enter (o:=o7_1) (f:=17) (fn:=Tryz.f17) (c:=K17 0) (vs:=#[.slice A n c,.slice A2 n2 c2]) o7_1_at (kbl7 o7_1_op.2.1) (by decide) o7_1_op.2.2 Tryz.func17 (by kernel_rfl) body17 (by simp[Act.eval,T7n]) fun w9 r9=>?_
 have hat:AtRel W w9:=atRel_trans _ _ _ r1 (atRel_trans _ _ _ r2 (atRel_trans _ _ _ r3 (atRel_trans _ _ _ r4 (atRel_trans _ _ _ r5 (atRel_trans _ _ _ r6 (atRel_trans _ _ _ r7 (atRel_trans _ _ _ r8 r9)))))));have bad:∀ {fc fi:Int},Refused xs n2 fc fi→Fin Tryz.prog (fun v w'=>v=.bool true∧Same W w') (fun _=>False) 0 (G (Frame.enter Tryz.prog 17 #[.slice A n c,.slice A2 n2 c2] .normal) [(base 7).at ⟨T7n A n c A2 n2 c2,[]⟩ [.inRegion kcw7 [2,3,4,5,6,7,8],.code (C7 2)]]) w9:=by
  intro fc fi hr;rw[enter_at _ Tryz.func17 body17,ntmps17];have eZ:#[.slice A n c,.slice A2 n2 c2]++Array.replicate (49-(#[.slice A n c,.slice A2 n2 c2]:Array Value).size) undef=Tz A n c A2 n2 c2:=by kernel_rfl
  rw[eZ];exact refused_all hlo hS hrow hat h hm2 hr
 by_cases h64:64<xs.length
 ·exact bad (.inl ⟨h64,rfl,rfl⟩)
 rcases PB.samlong_ex xs with hs|⟨q,hq,h3,h4⟩
 ·have hok:SamOk xs:=⟨by omega,hs⟩
  by_cases h512:512<n2
  ·exact bad (.inr (.inr ⟨hok,h512,rfl,rfl⟩))
  ·exact good_all hlo hS hrow hat h h2 hok (by omega) hd hd2
 ·exact bad (.inr (.inl ⟨by omega,q,hq,h3,h4,rfl,rfl⟩))
end
end Cw
end
section
open Go.ChangeShapes Go.WideShapes Go.ChangeAt Go.RowKit Go.Deep
namespace PB
section
variable {H:Type}{enc:TypeId×Value→H}{w:World}{base:Nat}{spare:Nat→Bool}{held:Bool}
theorem open_bytes{r:Reach}{b0:Nat}{v:Value}{d:DataW H}{p:List MemPlace}(hv:Value.okWide Tryz.prog w r b0 22 v)(h:DataW.Trod enc Tryz.prog w base spare held 22 v d p) :
  ∃ (A:Option Addr) (n c:Nat) (bs:List Nat),v=.slice A n c∧Rd w A n c (bcells bs)∧∀ k,bs.getD k 0<256:=by
 obtain⟨fuel,hf⟩:=h;obtain⟨A,n,c,rfl⟩:=okWide_slice Tryz.underlying22 hv;obtain⟨A',n',c',zs,e,hr,hw⟩:=rd_of_ints Tryz.underlying22 Tryz.underlying5 (by kernel_rfl) ⟨_,_,_,rfl⟩ hf;obtain⟨bs,hb,hlt⟩:=bytes_of_wf zs hw;rw[hb] at hr;exact⟨A',n',c',bs,e,hr,hlt⟩
def Tok.wf(t:Tok):Prop:=t.lit<256∧-9223372036854775808≤t.d∧t.d≤9223372036854775807∧-9223372036854775808≤t.n∧t.n≤9223372036854775807
end
end PB
end
section
namespace Cw
open Go Go.Conc Go.ConcN Rn Go.RowKit
theorem lore_nil(n q:Nat):Lore (InB fun _=>False) n q #[]:=by
 have h:=past_nil;refine⟨h.clean,h.over,h.hears,fun op hop=>by simp at hop,fun i op x hi=>by simp at hi,fun i a ha=>?_,fun i a ha=>?_,fun op hop=>by simp at hop⟩
 ·obtain⟨x,hx,_⟩:=touch_of ha;simp at hx
 ·obtain⟨x,hx,_⟩:=touch_of ha;simp at hx
theorem run_of_fin{P:Program}{PostF:Value→World→Prop}{g:Goroutine}{w:World}(h:Fin P PostF (fun _=>False) 0 g w) :
  ∃ N last o w' t',runNT P (N+1) (solo g w) #[]=(.ended o w',t')∧runN P N (solo g w)=.next last∧step P last=.ended o w'∧Conc.Good P PostF last o w' t' :=
 h #[g] none #[] (fun _=>0) rfl rfl (leavers_one P g) (lore_nil _ _)
section
variable {H:Type}{enc:TypeId×Value→H}
theorem leaving_shaped{a:Assume}{C:Checked}{os:Os}{f:FuncId}{fn:Func}{s:ChangeSpec}{conds:List PathCond}{apart fresh handsOn again:Bool}
  (own:ownKnob C.prog.godebug=none) (started:os.Started) (hfn:C.prog.funcs[f]?=some fn)
  (witness:∃ (w:World) (tape:Tape) (i:Input),w.os=os∧(w.forCall tape i).Shaped C.prog∧i.vars=[]∧Input.okWide C.prog (w.forCall tape i) .any w.heap.size f i ∧
   s.pre6 enc C.prog fn conds apart (w.forCall tape i).memory i.args∧a.holds C.prog (lone (Frame.enter C.prog f i.args .normal) [] (w.forCall tape i)))
  (runs:∀ (W:World) (base:Nat) (args:Array Value) (ds gs:List (DataW H)) (before:List MemPlace),
   (∀ (j:Nat) t v,fn.params[j]?=some t→args[j]?=some v→Value.okWide C.prog W .any base t v) →
   DataW.Whole enc C.prog fn.params.toList s.vars apart W args.toList ds gs before →
   W.ShapedOpen C.prog →
   Fin C.prog (fun v W'=>s.post enc C.prog fn apart fresh handsOn again W args v W') (fun _=>False) 0 (G (Frame.enter C.prog f args .normal) []) W) :
  ReturnsInLeavingWide a C os f .any (s.pre6 enc C.prog fn conds apart) (s.post enc C.prog fn apart fresh handsOn again):=by
 refine returnsInLeavingWide_of_good own started witness ?_;intro w tape i _ hsh _ hok hpre hholds;obtain⟨_,_,_,fn',hfn',_,_,_,_,hval⟩:=hok;have e:fn'=fn:=Option.some.inj (hfn'.symm.trans hfn);subst e;obtain⟨⟨ds,gs,before,hw,hc⟩,hz⟩:=hpre;have hw':=DataW.Whole.of_heap (w':=w.forCall tape i) (by rfl) hw;obtain⟨M,last,o,w',t',h1,h2,h3,h4⟩:=run_of_fin (runs (w.forCall tape i) w.heap.size i.args ds gs before hval hw' hsh);exact⟨M,last,o,w',t',h1,h2,h3,h4.mono fun v hp=>ChangeSpec.post_blind hp⟩
end
theorem Same.below{W w:World}(h:Same W w):Below W.heap.size W w:=⟨h.os,h.tape,h.output,h.size,h.old⟩
theorem fin_mono{P:Program}{Post Post':Value→World→Prop}{B:Nat→Prop}{q0:Nat}{g:Goroutine}{w:World}(hp:∀ v w',Post v w'→Post' v w')(h:Fin P Post B q0 g w):Fin P Post' B q0 g w:=by
 intro gs sl t q h1 h2 h3 h4;obtain⟨N,last,o,w',t',k1,k2,k3,k4⟩:=h gs sl t q h1 h2 h3 h4;exact⟨N,last,o,w',t',k1,k2,k3,by
  obtain⟨v,x1,x2,x3⟩:=k4;exact⟨v,x1,hp v _ x2,x3⟩⟩
theorem kcy7:Tryz.prog.globals.size=1:=by kernel_rfl
theorem rowAt_int{fits:TypeId→Bool}(hf:fits 3=false):∀ d cnt off n,rowAt Tryz.prog fits d 3 cnt off n=false
 | 0,_,_,_=>rfl
 | d+1,cnt,off,n=>by
  unfold rowAt;simp only[Tryz.underlying3,hf,Bool.and_false,Bool.or_false,ite_self]
theorem no_bytes_in_int:∀ D cnt off n:Nat,liesAt Tryz.prog D 3 cnt off 5 n=false
 | 0,_,_,_=>rfl
 | D+1,cnt,off,n=>by
  have h0:sameLayout Tryz.prog Tryz.prog.depth 3 5=false:=by kernel_rfl
  unfold liesAt;simp only[Tryz.underlying5];rw[rowAt_int h0];rfl
theorem row_of_arg{W:World}{base:Nat}(hsh:W.ShapedOpen Tryz.prog){v:Value}(hv:Value.okWide Tryz.prog W .any base 22 v) :
  ∀ a l c,v=.slice (some a) l c→Tryz.prog.globals.size≤a.block∧a.spot=none∧∃ cs t f,W.heap[a.block]?=some (.cells cs t f):=by
 rintro a l c rfl;unfold Value.okWide at hv;rw[Tryz.underlying22] at hv;unfold Cell.okWide at hv;rw[Tryz.underlying22] at hv;unfold Cell.ok at hv;rw[Tryz.underlying22] at hv;obtain⟨h1,h2,h3⟩:=hv;obtain⟨_,hs,row,cells,hsp,hl⟩:=h3;have hx:∃ cs f,W.heap[a.block]?=some (.cells cs row f):=by
  unfold World.shape? at hsp
  split at hsp
  ·rename_i c0 e0 f0 he
   cases hsp;exact⟨_,_,he⟩
  ·cases hsp
 obtain⟨cs,f,hx⟩:=hx;refine⟨?_,hs,cs,row,f,hx⟩;rcases Nat.lt_or_ge a.block Tryz.prog.globals.size with hlt|hge
 ·exfalso;have hg:Tryz.prog.globals.size=1:=by kernel_rfl
  have hb:a.block=0:=by omega
  obtain⟨zero,hz⟩:∃ zero,(((begin Tryz.prog (fun _ _=>0) default).world).heap[0]?).bind Obj.row?=some (zero,3):=⟨#[.int .i64 0],by kernel_rfl⟩
  obtain⟨cs',e1,_⟩:=hsh.1 0 zero 3 (by omega) hz;rw[hb,e1] at hx;cases hx;rw[no_bytes_in_int] at hl;cases hl
 ·exact hge
theorem shaped_low{W:World}(hsh:W.ShapedOpen Tryz.prog):Tryz.prog.globals.size≤W.heap.size:=by
 rw[kcy7];have hz:(((begin Tryz.prog (fun _ _=>0) default).world).heap[0]?).bind Obj.row?=some (#[.int .i64 0],3):=by kernel_rfl
 obtain⟨cs',e1,_⟩:=hsh.1 0 #[.int .i64 0] 3 (by rw[kcy7];decide) hz;have:=(Array.getElem?_eq_some_iff.1 e1).1;omega
end Cw
end
section
open Go.ChangeShapes Go.WideShapes Go.ChangeAt Go.RowKit Go.Deep
namespace PB
section
variable {H:Type}{enc:TypeId×Value→H}{w:World}{base:Nat}{held:Bool}
theorem open_bss7{r:Reach}{b0:Nat}{v:Value}{d:DataW H}{p:List MemPlace}(hv:Value.okWide Tryz.prog w r b0 35 v)(h:DataW.Trod enc Tryz.prog w base (fun _=>true) held 35 v d p) :
  ∃ (A:Option Addr) (n c:Nat) (xs:List SItem),v=.slice A n c∧RdSS w A n c xs∧(∀ x∈xs,ByteL x.d)∧(0<n→∃ a y,A=some a∧w.cell? a=some y)∧∀ x∈xs,∀ a,x.A=some a→(x.n=0∧x.c=0)∨∃ z,w.cell? a=some (.int .u8 z):=by
 obtain⟨fuel,hf⟩:=h;obtain⟨A,n,c,rfl⟩:=okWide_slice Tryz.underlying35 hv;rcases open_slice1 Tryz.underlying35 (by kernel_rfl) hf with⟨hcs,_⟩|⟨a,len,cap,m,k,V,D,Pl,hcs,_,hl,hm,hmm,_,hi⟩
 ·cases hcs;exact⟨none,0,0,[],rfl,⟨rfl,Nat.le_refl _,by decide,fun h=>absurd h (by omega)⟩,by simp,fun h=>by omega,by simp⟩
 ·cases hcs;have hlm:n≤m:=by rw[hmm];split<;>omega
  have hit:∀ i,i<n→∃ x:SItem,((w.cell? (a.add i)=some (.slice x.A x.n x.c)∧Rd w x.A x.n x.c (bcells x.d))∧ByteL x.d)∧∀ a',x.A=some a'→(x.n=0∧x.c=0)∨∃ z,w.cell? a'=some (.int .u8 z):=by
   intro i hlt;obtain⟨c0,t0⟩:=hi i (by omega);obtain⟨v0,hv0⟩:∃ v,v=V i:=⟨_,rfl⟩
   rw[←hv0] at c0 t0;obtain⟨A',n',c',zs,e1,hr,hw⟩:=rd_of_ints Tryz.underlying22 Tryz.underlying5 (by kernel_rfl) (by
    rcases DataW.trod_slice Tryz.underlying22 t0 with⟨hcs,_⟩|⟨a,len,cap,elems,rest,n,_,hcs,_⟩
    ·cases hcs;exact⟨_,_,_,rfl⟩
    ·cases hcs;exact⟨_,_,_,rfl⟩) t0
   obtain⟨bs,hb,hlt⟩:=bytes_of_wf zs hw;rw[hb] at hr;rw[e1] at c0 t0;refine⟨⟨A',n',c',bs⟩,⟨⟨c0,hr⟩,ByteL.of_getD hlt⟩,fun a' ea=>?_⟩;simp only at ea;subst ea;rcases open_ints Tryz.underlying22 Tryz.underlying5 (by kernel_rfl) t0 with⟨hcs,_⟩|⟨a2,len2,cap2,zs2,hcs,_,hl2,hm2,hz2,_,hcell,_⟩
   ·cases hcs
   ·cases hcs;simp only[if_true] at hz2;rcases Nat.eq_zero_or_pos c' with h0|h0
    ·exact .inl ⟨by simp only;omega,h0⟩
    ·have:=hcell 0 (by omega);exact .inr ⟨_,by simpa [Addr.add] using this⟩
  obtain⟨xs,h1,h2⟩:=list_of_ex n hit;refine⟨some a,n,c,xs,rfl,⟨h1,hl,hm,fun h0=>?_⟩,fun x hx=>?_,fun h0=>?_,fun x hx=>?_⟩
  ·obtain⟨x0,hx0⟩:∃ x0,xs[0]?=some x0:=⟨xs[0]'(by omega),List.getElem?_eq_getElem (by omega)⟩
   have h00:=(h2 0 x0 hx0).1.1.1;obtain⟨b,off,spot⟩:=a;have hspot:spot=none:=by simpa [Addr.add] using World.cell?_spot h00
   subst hspot;have hadd:∀ j,(⟨b,off,none⟩:Addr).add j=⟨b,off+j,none⟩:=by
    intro j;unfold Addr.add;by_cases hj:j=0<;>simp[hj]
   refine⟨b,off,rfl,?_,fun i x hx=>?_⟩
   ·have:=World.block_lt_of_cell? _ _ h00
    simpa [hadd] using this
   ·obtain⟨⟨⟨g1,g2⟩,_⟩,_⟩:=h2 i x hx;rw[hadd] at g1;exact⟨g1,g2⟩
  ·obtain⟨i,hi,rfl⟩:=List.mem_iff_getElem.1 hx;exact(h2 i _ (List.getElem?_eq_getElem hi)).1.2
  ·obtain⟨x0,hx0⟩:∃ x0,xs[0]?=some x0:=⟨xs[0]'(by omega),List.getElem?_eq_getElem (by omega)⟩
   exact⟨a,_,rfl,by simpa [Addr.add] using (h2 0 x0 hx0).1.1.1⟩
  ·obtain⟨i,hi,rfl⟩:=List.mem_iff_getElem.1 hx;exact(h2 i _ (List.getElem?_eq_getElem hi)).2
end
end PB
namespace Cw
open Go Go.Conc Go.ConcN Rn
theorem u8_high{W:World}(hsh:W.ShapedOpen Tryz.prog){a:Addr}{z:Int}(h:W.cell? a=some (.int .u8 z)):Tryz.prog.globals.size≤a.block∧∃ c t f,W.heap[a.block]?=some (.cells c t f):=by
 refine⟨?_,kil7 h⟩;rcases Nat.lt_or_ge a.block Tryz.prog.globals.size with hlt|hge
 ·exfalso;rw[kcy7] at hlt;have hb:a.block=0:=by omega
  have hz:(((begin Tryz.prog (fun _ _=>0) default).world).heap[0]?).bind Obj.row?=some (#[.int .i64 0],3):=by kernel_rfl
  obtain⟨cs',e1,e2,e3⟩:=hsh.1 0 #[.int .i64 0] 3 (by rw[kcy7];decide) hz;obtain⟨ts,k1,_,k2⟩:=e3 (by kernel_rfl);have kt:Tryz.prog.cellTypes Tryz.prog.depth 3=some [3]:=by kernel_rfl
  rw[kt] at k1;cases k1;unfold World.cell? at h;rw[hb,e1] at h;simp only at h
  split at h
  ·cases h
  ·obtain⟨u,hu,hc⟩:=k2 _ _ h;have hu':u=3:=by
    simp[Nat.mod_one] at hu;exact hu.symm
   subst hu';unfold Cell.ok at hc;rw[Tryz.underlying3] at hc;exact absurd hc.1 (by decide)
 ·exact hge
theorem no_lists_in_int:∀ D cnt off n:Nat,liesAt Tryz.prog D 3 cnt off 22 n=false
 | 0,_,_,_=>rfl
 | D+1,cnt,off,n=>by
  have h0:sameLayout Tryz.prog Tryz.prog.depth 3 22=false:=by kernel_rfl
  unfold liesAt;simp only[Tryz.underlying22];rw[rowAt_int h0];rfl
theorem row_of_list{W:World}{base:Nat}(hsh:W.ShapedOpen Tryz.prog){v:Value}(hv:Value.okWide Tryz.prog W .any base 35 v) :
  ∀ a l c,v=.slice (some a) l c→Tryz.prog.globals.size≤a.block∧∃ cs t f,W.heap[a.block]?=some (.cells cs t f):=by
 rintro a l c rfl;unfold Value.okWide at hv;rw[Tryz.underlying35] at hv;unfold Cell.okWide at hv;rw[Tryz.underlying35] at hv;unfold Cell.ok at hv;rw[Tryz.underlying35] at hv;obtain⟨h1,h2,h3⟩:=hv;obtain⟨_,hs,row,cells,hsp,hl⟩:=h3;have hx:∃ cs f,W.heap[a.block]?=some (.cells cs row f):=by
  unfold World.shape? at hsp
  split at hsp
  ·rename_i c0 e0 f0 he
   cases hsp;exact⟨_,_,he⟩
  ·cases hsp
 obtain⟨cs,f,hx⟩:=hx;refine⟨?_,cs,row,f,hx⟩;rcases Nat.lt_or_ge a.block Tryz.prog.globals.size with hlt|hge
 ·exfalso;have hg:Tryz.prog.globals.size=1:=by kernel_rfl
  have hb:a.block=0:=by omega
  obtain⟨zero,hz⟩:∃ zero,(((begin Tryz.prog (fun _ _=>0) default).world).heap[0]?).bind Obj.row?=some (zero,3):=⟨#[.int .i64 0],by kernel_rfl⟩
  obtain⟨cs',e1,_⟩:=hsh.1 0 zero 3 (by omega) hz;rw[hb,e1] at hx;cases hx;rw[no_lists_in_int] at hl;cases hl
 ·exact hge
end Cw
end
end Go.Proofs.YtnpcandaehejbaaGreat
