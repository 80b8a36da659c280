/-
  arith.validCoder, arith.Put, arith.Finish; the reference's Wide, CoderOk.
-/
import Derived.Lib.OthersKept
import Derived.Maps.OwnSet
import Derived.DeepKeys4
import Derived.Test.YtnpcandaehejbaaGreatSqV7
import Derived.Test.YtnpcandaehejbaaGreatSqV9
set_option linter.unusedVariables false
set_option linter.unusedSimpArgs false
set_option linter.unusedSectionVars false
set_option maxHeartbeats 6400000
set_option maxRecDepth 100000
namespace Go.Proofs.YtnpcandaehejbaaGreat
section
open Go.RowKit
attribute [local go_sem ↓] Go.wp_at_zero Go.wp_at_succ
namespace PB
def COk(lo hi q:Int):Prop:=Wid lo hi∧0≤q∧q≤131056
instance (lo hi q:Int):Decidable (COk lo hi q):=by unfold COk;exact inferInstance
theorem kas7{w:World}{base:Nat}{e:TypeId}{size:Nat}{v:Value}{n:Nat}{xs:List Value}(h:w.ownsRow base e size v n xs){p:Addr}(hp:p.block<base)(u:Value):(w.setCell p u).ownsRow base e size v n xs :=
 kk7 h (by intro e;have:=(h.lt _ e).1;omega) u
theorem bt_byte(l:List Nat)(h01:Is01 l)(i:Nat)(h:i<(bt l).size):(bt l)[i].toNat=48+l.getD i 0:=by
 have hi:i<l.length:=by rwa [kee7] at h
 have e:(bt l)[i]=UInt8.ofNat (48+l[i]):=by
  show(bt l).data[i]=_;have e2:=kic7 l;simp only[e2];simp
 have:=h01 i;rw[e,kbf7 hi];rw[kbf7 hi] at this;simp;omega
theorem validp_yes(p:Int)(h:decide (1≤p∧p≤4095)=true)(w:World):Calls Tryz.prog 120 #[.int .i64 p] w fun e w'=>e=.returned (.bool true)∧w=w':=by
 have:=validp_any p w;rw[h] at this;exact this
theorem make_bt(l:List Nat)(h01:Is01 l)(hl:l.length≤131072)(w:World) :
  Calls Tryz.prog 106 #[.string (bt l)] w fun e w'=>∃ A n c,e=.returned (.tuple #[.agg #[.slice A n c,.int .i64 l.length],.agg #[.int .i64 0,.int .i64 0]])∧w'.ownsRow w.heap.size 5 1 (.slice A n c) n (bcells (pack l))∧Below w.heap.size w w':=by
 have e:tbits (bt l) (bt l).size=l:=by
  unfold tbits;rw[List.take_of_length_le (by rw[Array.length_toList];exact Nat.le_refl _),kic7];apply List.ext_getElem
  ·simp
  ·intro i h1 h2;have:=h01 i;rw[kbf7 h2] at this;simp;omega
 refine(make_upto (bt l) (bt l).size w (by rw[kee7];exact hl) (fun i h _=>?_) (Nat.le_refl _) (fun h=>absurd h (Nat.lt_irrefl _))).mono ?_
 ·have:=h01 i;rw[bt_byte l h01 i h];omega
 ·rintro e2 w' (⟨h,_⟩|⟨_,A,n,c,rfl,ho,hb⟩)
  ·exact absurd h (Nat.lt_irrefl _)
  ·rw[e] at ho ⊢;exact⟨A,n,c,rfl,ho,hb⟩
theorem kcu7(lo hi q:Int)(r:Bool)(hr:r=true↔COk lo hi q)(w:World) :
  Calls Tryz.prog 118 #[.agg #[.int .i64 lo,.int .i64 hi,.int .i64 q]] w fun e w'=>e=.returned (.bool r)∧Below w.heap.size w w':=by
 have X0:=Three.new w 141 (.int .i64 lo) (.int .i64 hi) (.int .i64 q);have y0:Below w.heap.size w (w.alloc (.cells #[.int .i64 lo,.int .i64 hi,.int .i64 q] 141)):=(Below.refl _ _).alloc (Nat.le_refl _) _;have c0:=X0.c0;have c1:=X0.c1;have c2:=X0.c2;by_cases hw:Wid lo hi
 ·have HD:=Lib.hid (show true=decide (Wid lo hi) by simp[hw]);by_cases h1:0≤q
  ·have k1:decide ((0:Int)≤q)=true:=by simpa using h1
   by_cases h2:q≤131056
   ·have k2:decide (q≤131056)=true:=by simpa using h2
    obtain rfl:r=true:=hr.2 ⟨hw,h1,h2⟩;clear hr hw h1 h2
    go_enter Tryz.func118,Tryz.ntmps118
    go_wp2_with fail
    refine(wide_any _ _ true HD.out _).mono ?_;rintro e w9 ⟨rfl,rfl⟩
    go_wp2
    go_ret
    exact⟨rfl,y0⟩
   ·have k2:decide (q≤131056)=false:=by simpa using h2
    obtain rfl:r=false:=by rw[Bool.eq_false_iff];exact fun e=>h2 (hr.1 e).2.2
    clear hr hw h1 h2
    go_enter Tryz.func118,Tryz.ntmps118
    go_wp2_with fail
    refine(wide_any _ _ true HD.out _).mono ?_;rintro e w9 ⟨rfl,rfl⟩
    go_wp2
    go_ret
    exact⟨rfl,y0⟩
  ·have k1:decide ((0:Int)≤q)=false:=by simpa using h1
   obtain rfl:r=false:=by rw[Bool.eq_false_iff];exact fun e=>h1 (hr.1 e).2.1
   clear hr hw h1
   go_enter Tryz.func118,Tryz.ntmps118
   go_wp2_with fail
   refine(wide_any _ _ true HD.out _).mono ?_;rintro e w9 ⟨rfl,rfl⟩
   go_wp2
   go_ret
   exact⟨rfl,y0⟩
 ·have HD:=Lib.hid (show false=decide (Wid lo hi) by simp[hw]);obtain rfl:r=false:=by rw[Bool.eq_false_iff];exact fun e=>hw (hr.1 e).1
  clear hr hw
  go_enter Tryz.func118,Tryz.ntmps118
  go_wp2_with fail
  refine(wide_any _ _ false HD.out _).mono ?_;rintro e w9 ⟨rfl,rfl⟩
  go_wp2
  go_ret
  exact⟨rfl,y0⟩
theorem put_ok0{lo hi p:Int}{b q:Nat}(hok:COk lo hi (q:Nat))(h1:1≤p)(h2:p≤4095)(hb:b=0)(LO HI:Int)(S:List Nat)(Q:Nat)(hLO:LO=(stp lo hi b p).1)(hHI:HI=(stp lo hi b p).2.1)(hS:S=(sentf (stp lo hi b p).2.2 q).1)(hQ:Q=(sentf (stp lo hi b p).2.2 q).2)(hbig:Q≤131056)(w:World) :
  Calls Tryz.prog 104 #[.agg #[.int .i64 lo,.int .i64 hi,.int .i64 (q:Nat)],.int .i64 (b:Nat),.int .i64 p] w fun e w'=>∃ A n c,e=.returned (.tuple #[.agg #[.int .i64 LO,.int .i64 HI,.int .i64 (Q:Nat)],.agg #[.slice A n c,.int .i64 S.length],.agg #[.int .i64 0,.int .i64 0]])∧Rd w' A n c (bcells (pack S))∧Below w.heap.size w w':=by
 have HOK:=Lib.hid (fun(W:World)=>kcu7 lo hi (q:Nat) true ⟨fun _=>hok,fun _=>rfl⟩ W);have HP:=Lib.hid (show decide (1≤p∧p≤4095)=true from decide_eq_true ⟨h1,h2⟩);have hqq:=hok.2.2;have HEN:=Lib.hid (fun(W:World)=>encode_any hok.1 h1 h2 (b:=b) (by omega) (q:=q) (by omega) LO HI S Q hLO hHI hS hQ W);have h01:Is01 S:=Is01.of_mem fun x hx=>by have:=sentf_le _ (kct7 b hok.1 h1 h2).2.2.1 q x (by rw[←hS];exact hx);omega
 have hlen:S.length+Q=(stp lo hi b p).2.2.length+q:=by rw[hS,hQ];exact kbk7 _ _
 have h14:=(kct7 b hok.1 h1 h2).2.1;have hSl:S.length≤131072:=by omega
 have HMK:=Lib.hid (fun(W:World)=>make_bt S h01 hSl W);clear hok h1 h2 hLO hHI hS hQ h01 hlen h14 hqq hSl;subst hb;have k0:(((0:Nat):Int) != 0)=false:=rfl;have P_0:=((((Three.new w 141 (.int .i64 lo) (.int .i64 hi) (.int .i64 (q:Nat)))).alloc (.cells #[.int .i64 0,.int .i64 0,.int .i64 0] 141)).alloc (.cells #[.slice none 0 0,.int .i64 0] 70)).alloc (.cells #[.int .i64 0,.int .i64 0] 24);have X_0:=(((Three.new1 w (.cells #[.int .i64 lo,.int .i64 hi,.int .i64 (q:Nat)] 141) 141 (.int .i64 0) (.int .i64 0) (.int .i64 0))).alloc (.cells #[.slice none 0 0,.int .i64 0] 70)).alloc (.cells #[.int .i64 0,.int .i64 0] 24);have Y_0:=((Two.new2 w (.cells #[.int .i64 lo,.int .i64 hi,.int .i64 (q:Nat)] 141) (.cells #[.int .i64 0,.int .i64 0,.int .i64 0] 141) 70 (.slice none 0 0) (.int .i64 0))).alloc (.cells #[.int .i64 0,.int .i64 0] 24);have F_0:=(Two.new3 w (.cells #[.int .i64 lo,.int .i64 hi,.int .i64 (q:Nat)] 141) (.cells #[.int .i64 0,.int .i64 0,.int .i64 0] 141) (.cells #[.slice none 0 0,.int .i64 0] 70) 24 (.int .i64 0) (.int .i64 0))
 have Z0:=((((Below.refl w.heap.size w).alloc (by simp) (.cells #[.int .i64 lo,.int .i64 hi,.int .i64 (q:Nat)] 141)).alloc (by simp) (.cells #[.int .i64 0,.int .i64 0,.int .i64 0] 141)).alloc (by simp;omega) (.cells #[.slice none 0 0,.int .i64 0] 70)).alloc (by simp;omega) (.cells #[.int .i64 0,.int .i64 0] 24);have P_0_c0:=P_0.c0;have P_0_c1:=P_0.c1;have P_0_c2:=P_0.c2;have X_0_c0:=X_0.c0;have X_0_c1:=X_0.c1;have X_0_c2:=X_0.c2;have X_0_f0:=X_0.f0;have X_0_f1:=X_0.f1;have X_0_f2:=X_0.f2;have Y_0_c0:=Y_0.c0;have Y_0_c1:=Y_0.c1;have Y_0_f0:=Y_0.f0;have Y_0_f1:=Y_0.f1;have F_0_c0:=F_0.c0;have F_0_c1:=F_0.c1;have F_0_f0:=F_0.f0;have F_0_f1:=F_0.f1
 go_enter Tryz.func104,Tryz.ntmps104
 go_wp2_with fail
 refine(HOK.out _).mono ?_;rintro e w1 ⟨rfl,y1⟩;have P_1:=P_0.on y1;have X_1:=X_0.on y1;have Y_1:=Y_0.on y1;have F_1:=F_0.on y1;clear P_0 P_0_c0 P_0_c1 P_0_c2 X_0 X_0_c0 X_0_c1 X_0_c2 X_0_f0 X_0_f1 X_0_f2 Y_0 Y_0_c0 Y_0_c1 Y_0_f0 Y_0_f1 F_0 F_0_c0 F_0_c1 F_0_f0 F_0_f1;have z1:=Z0.trans (y1.mono Z0.size);have Z1:=z1;have P_1_c0:=P_1.c0;have P_1_c1:=P_1.c1;have P_1_c2:=P_1.c2;have X_1_c0:=X_1.c0;have X_1_c1:=X_1.c1;have X_1_c2:=X_1.c2;have X_1_f0:=X_1.f0;have X_1_f1:=X_1.f1;have X_1_f2:=X_1.f2;have Y_1_c0:=Y_1.c0;have Y_1_c1:=Y_1.c1;have Y_1_f0:=Y_1.f0;have Y_1_f1:=Y_1.f1;have F_1_c0:=F_1.c0;have F_1_c1:=F_1.c1;have F_1_f0:=F_1.f0;have F_1_f1:=F_1.f1
 go_wp2_with fail
 refine(validp_yes _ HP.out _).mono ?_;rintro e w9_1 ⟨rfl,rfl⟩;have LT0:=F_1.lt
 go_wp2_with fail
 refine(HEN.out _).mono ?_;rintro e w2 ⟨rfl,y2⟩;have P_2:=(P_1.on y2).alloc (.cells #[.int .i64 LO,.int .i64 HI,.int .i64 (Q:Nat)] 141);have X_2:=(X_1.on y2).alloc (.cells #[.int .i64 LO,.int .i64 HI,.int .i64 (Q:Nat)] 141);have Y_2:=(Y_1.on y2).alloc (.cells #[.int .i64 LO,.int .i64 HI,.int .i64 (Q:Nat)] 141);have F_2:=(F_1.on y2).alloc (.cells #[.int .i64 LO,.int .i64 HI,.int .i64 (Q:Nat)] 141);have N_2:=(Three.new w2 141 (.int .i64 LO) (.int .i64 HI) (.int .i64 (Q:Nat)))
 clear P_1 P_1_c0 P_1_c1 P_1_c2 X_1 X_1_c0 X_1_c1 X_1_c2 X_1_f0 X_1_f1 X_1_f2 Y_1 Y_1_c0 Y_1_c1 Y_1_f0 Y_1_f1 F_1 F_1_c0 F_1_c1 F_1_f0 F_1_f1;have z2:=Z1.trans (y2.mono Z1.size);have Z2:=(z2).alloc (by have:=z2.size;omega) (.cells #[.int .i64 LO,.int .i64 HI,.int .i64 (Q:Nat)] 141);have P_2_c0:=P_2.c0;have P_2_c1:=P_2.c1;have P_2_c2:=P_2.c2;have X_2_c0:=X_2.c0;have X_2_c1:=X_2.c1;have X_2_c2:=X_2.c2;have X_2_f0:=X_2.f0;have X_2_f1:=X_2.f1;have X_2_f2:=X_2.f2;have Y_2_c0:=Y_2.c0;have Y_2_c1:=Y_2.c1;have Y_2_f0:=Y_2.f0;have Y_2_f1:=Y_2.f1;have F_2_c0:=F_2.c0;have F_2_c1:=F_2.c1;have F_2_f0:=F_2.f0;have F_2_f1:=F_2.f1;have N_2_c0:=N_2.c0;have N_2_c1:=N_2.c1;have N_2_c2:=N_2.c2;have LT:=F_2.lt
 go_wp2_with fail
 refine(HMK.out _).mono ?_;rintro e w3 ⟨A1,n1,c1,rfl,R1,y3⟩;have P_3:=((P_2.on y3).alloc (.cells #[.slice A1 n1 c1,.int .i64 S.length] 70)).alloc (.cells #[.int .i64 0,.int .i64 0] 24);have X_3:=((X_2.on y3).alloc (.cells #[.slice A1 n1 c1,.int .i64 S.length] 70)).alloc (.cells #[.int .i64 0,.int .i64 0] 24);have Y_3:=((Y_2.on y3).alloc (.cells #[.slice A1 n1 c1,.int .i64 S.length] 70)).alloc (.cells #[.int .i64 0,.int .i64 0] 24);have F_3:=((F_2.on y3).alloc (.cells #[.slice A1 n1 c1,.int .i64 S.length] 70)).alloc (.cells #[.int .i64 0,.int .i64 0] 24);have N_3:=((N_2.on y3).alloc (.cells #[.slice A1 n1 c1,.int .i64 S.length] 70)).alloc (.cells #[.int .i64 0,.int .i64 0] 24);have R_3:=((R1).alloc (.cells #[.slice A1 n1 c1,.int .i64 S.length] 70)).alloc (.cells #[.int .i64 0,.int .i64 0] 24);have G_3:=((Two.new w3 70 (.slice A1 n1 c1) (.int .i64 S.length))).alloc (.cells #[.int .i64 0,.int .i64 0] 24);have H_3:=(Two.new1 w3 (.cells #[.slice A1 n1 c1,.int .i64 S.length] 70) 24 (.int .i64 0) (.int .i64 0))
 clear P_2 P_2_c0 P_2_c1 P_2_c2 X_2 X_2_c0 X_2_c1 X_2_c2 X_2_f0 X_2_f1 X_2_f2 Y_2 Y_2_c0 Y_2_c1 Y_2_f0 Y_2_f1 F_2 F_2_c0 F_2_c1 F_2_f0 F_2_f1 N_2 N_2_c0 N_2_c1 N_2_c2;have z3:=Z2.trans (y3.mono Z2.size);have Z3:=((z3).alloc (by have:=z3.size;omega) (.cells #[.slice A1 n1 c1,.int .i64 S.length] 70)).alloc (by have:=z3.size;simp;omega) (.cells #[.int .i64 0,.int .i64 0] 24);have P_3_c0:=P_3.c0;have P_3_c1:=P_3.c1;have P_3_c2:=P_3.c2;have X_3_c0:=X_3.c0;have X_3_c1:=X_3.c1;have X_3_c2:=X_3.c2;have X_3_f0:=X_3.f0;have X_3_f1:=X_3.f1;have X_3_f2:=X_3.f2;have Y_3_c0:=Y_3.c0;have Y_3_c1:=Y_3.c1;have Y_3_f0:=Y_3.f0;have Y_3_f1:=Y_3.f1;have F_3_c0:=F_3.c0;have F_3_c1:=F_3.c1;have F_3_f0:=F_3.f0;have F_3_f1:=F_3.f1;have N_3_c0:=N_3.c0;have N_3_c1:=N_3.c1;have N_3_c2:=N_3.c2;have G_3_c0:=G_3.c0;have G_3_c1:=G_3.c1;have H_3_c0:=H_3.c0;have H_3_c1:=H_3.c1;have ap0:w.heap.size+3<w2.heap.size:=by have:=LT0;have:=y2.size;have:=y3.size;(try simp at *);omega
 have ap0_0:w2.heap.size≠w.heap.size:=by omega
 have ap0_0r:w.heap.size≠w2.heap.size:=by omega
 have ap0_1:w2.heap.size≠w.heap.size+1:=by omega
 have ap0_1r:w.heap.size+1≠w2.heap.size:=by omega
 have ap0_2:w2.heap.size≠w.heap.size+1+1:=by omega
 have ap0_2r:w.heap.size+1+1≠w2.heap.size:=by omega
 have ap0_3:w2.heap.size≠w.heap.size+1+1+1:=by omega
 have ap0_3r:w.heap.size+1+1+1≠w2.heap.size:=by omega
 have ap1:w.heap.size+3<w3.heap.size:=by have:=LT0;have:=y2.size;have:=y3.size;(try simp at *);omega
 have ap1_0:w3.heap.size≠w.heap.size:=by omega
 have ap1_0r:w.heap.size≠w3.heap.size:=by omega
 have ap1_1:w3.heap.size≠w.heap.size+1:=by omega
 have ap1_1r:w.heap.size+1≠w3.heap.size:=by omega
 have ap1_2:w3.heap.size≠w.heap.size+1+1:=by omega
 have ap1_2r:w.heap.size+1+1≠w3.heap.size:=by omega
 have ap1_3:w3.heap.size≠w.heap.size+1+1+1:=by omega
 have ap1_3r:w.heap.size+1+1+1≠w3.heap.size:=by omega
 have ap2:w.heap.size+3<w3.heap.size+1:=by have:=LT0;have:=y2.size;have:=y3.size;(try simp at *);omega
 have ap2_0:w3.heap.size+1≠w.heap.size:=by omega
 have ap2_0r:w.heap.size≠w3.heap.size+1:=by omega
 have ap2_1:w3.heap.size+1≠w.heap.size+1:=by omega
 have ap2_1r:w.heap.size+1≠w3.heap.size+1:=by omega
 have ap2_2:w3.heap.size+1≠w.heap.size+1+1:=by omega
 have ap2_2r:w.heap.size+1+1≠w3.heap.size+1:=by omega
 have ap2_3:w3.heap.size+1≠w.heap.size+1+1+1:=by omega
 have ap2_3r:w.heap.size+1+1+1≠w3.heap.size+1:=by omega
 go_wp2_with fail
 go_region
 go_wp2
 have rX:=((((((((X_3.set0 (.int .i64 LO)).set1 (.int .i64 HI)).set2 (.int .i64 (Q:Nat))).far (p:=⟨w.heap.size+2,0,none⟩) (by simp) (.slice A1 n1 c1)).far (p:=⟨w.heap.size+2,1,none⟩) (by simp) (.int .i64 S.length)).far (p:=⟨w.heap.size+3,0,none⟩) (by simp) (.int .i64 0)).far (p:=⟨w.heap.size+3,1,none⟩) (by simp) (.int .i64 0))).drew;have rX_0:=rX.c0;have rX_1:=rX.c1;have rX_2:=rX.c2;have rY:=((((((((Y_3.far (p:=⟨w.heap.size+1,0,none⟩) (by simp) (.int .i64 LO)).far (p:=⟨w.heap.size+1,1,none⟩) (by simp) (.int .i64 HI)).far (p:=⟨w.heap.size+1,2,none⟩) (by simp) (.int .i64 (Q:Nat))).set0 (.slice A1 n1 c1)).set1 (.int .i64 S.length)).far (p:=⟨w.heap.size+3,0,none⟩) (by simp) (.int .i64 0)).far (p:=⟨w.heap.size+3,1,none⟩) (by simp) (.int .i64 0))).drew;have rY_0:=rY.c0;have rY_1:=rY.c1;have rF:=((((((((F_3.far (p:=⟨w.heap.size+1,0,none⟩) (by simp) (.int .i64 LO)).far (p:=⟨w.heap.size+1,1,none⟩) (by simp) (.int .i64 HI)).far (p:=⟨w.heap.size+1,2,none⟩) (by simp) (.int .i64 (Q:Nat))).far (p:=⟨w.heap.size+2,0,none⟩) (by simp) (.slice A1 n1 c1)).far (p:=⟨w.heap.size+2,1,none⟩) (by simp) (.int .i64 S.length)).set0 (.int .i64 0)).set1 (.int .i64 0))).drew;have rF_0:=rF.c0;have rF_1:=rF.c1
 exact bodyPost_ret (v:=.tuple #[.agg #[.int .i64 LO,.int .i64 HI,.int .i64 (Q:Nat)],.agg #[.slice A1 n1 c1,.int .i64 S.length],.agg #[.int .i64 0,.int .i64 0]]) (by simp[results,Tryz.results104,go_sem,rX_0,rX_1,rX_2,rY_0,rY_1,rF_0,rF_1]) rfl ⟨A1,n1,c1,rfl,Rd.own (kdl7 (kas7 (kas7 (kas7 (kas7 (kas7 (kas7 (kas7 R_3 (p:=⟨w.heap.size+1,0,none⟩) (Nat.lt_of_le_of_lt (by simp) LT) (.int .i64 LO)) (p:=⟨w.heap.size+1,1,none⟩) (Nat.lt_of_le_of_lt (by simp) LT) (.int .i64 HI)) (p:=⟨w.heap.size+1,2,none⟩) (Nat.lt_of_le_of_lt (by simp) LT) (.int .i64 (Q:Nat))) (p:=⟨w.heap.size+2,0,none⟩) (Nat.lt_of_le_of_lt (by simp) LT) (.slice A1 n1 c1)) (p:=⟨w.heap.size+2,1,none⟩) (Nat.lt_of_le_of_lt (by simp) LT) (.int .i64 S.length)) (p:=⟨w.heap.size+3,0,none⟩) (Nat.lt_of_le_of_lt (by simp) LT) (.int .i64 0)) (p:=⟨w.heap.size+3,1,none⟩) (Nat.lt_of_le_of_lt (by simp) LT) (.int .i64 0))),(belowD (((((((Z3.setCell (p:=⟨w.heap.size+1,0,none⟩) (by simp) (.int .i64 LO)).setCell (p:=⟨w.heap.size+1,1,none⟩) (by simp) (.int .i64 HI)).setCell (p:=⟨w.heap.size+1,2,none⟩) (by simp) (.int .i64 (Q:Nat))).setCell (p:=⟨w.heap.size+2,0,none⟩) (by simp) (.slice A1 n1 c1)).setCell (p:=⟨w.heap.size+2,1,none⟩) (by simp) (.int .i64 S.length)).setCell (p:=⟨w.heap.size+3,0,none⟩) (by simp) (.int .i64 0)).setCell (p:=⟨w.heap.size+3,1,none⟩) (by simp) (.int .i64 0)))⟩
theorem put_ok1{lo hi p:Int}{b q:Nat}(hok:COk lo hi (q:Nat))(h1:1≤p)(h2:p≤4095)(hb:b=1)(LO HI:Int)(S:List Nat)(Q:Nat)(hLO:LO=(stp lo hi b p).1)(hHI:HI=(stp lo hi b p).2.1)(hS:S=(sentf (stp lo hi b p).2.2 q).1)(hQ:Q=(sentf (stp lo hi b p).2.2 q).2)(hbig:Q≤131056)(w:World) :
  Calls Tryz.prog 104 #[.agg #[.int .i64 lo,.int .i64 hi,.int .i64 (q:Nat)],.int .i64 (b:Nat),.int .i64 p] w fun e w'=>∃ A n c,e=.returned (.tuple #[.agg #[.int .i64 LO,.int .i64 HI,.int .i64 (Q:Nat)],.agg #[.slice A n c,.int .i64 S.length],.agg #[.int .i64 0,.int .i64 0]])∧Rd w' A n c (bcells (pack S))∧Below w.heap.size w w':=by
 have HOK:=Lib.hid (fun(W:World)=>kcu7 lo hi (q:Nat) true ⟨fun _=>hok,fun _=>rfl⟩ W);have HP:=Lib.hid (show decide (1≤p∧p≤4095)=true from decide_eq_true ⟨h1,h2⟩);have hqq:=hok.2.2;have HEN:=Lib.hid (fun(W:World)=>encode_any hok.1 h1 h2 (b:=b) (by omega) (q:=q) (by omega) LO HI S Q hLO hHI hS hQ W);have h01:Is01 S:=Is01.of_mem fun x hx=>by have:=sentf_le _ (kct7 b hok.1 h1 h2).2.2.1 q x (by rw[←hS];exact hx);omega
 have hlen:S.length+Q=(stp lo hi b p).2.2.length+q:=by rw[hS,hQ];exact kbk7 _ _
 have h14:=(kct7 b hok.1 h1 h2).2.1;have hSl:S.length≤131072:=by omega
 have HMK:=Lib.hid (fun(W:World)=>make_bt S h01 hSl W);clear hok h1 h2 hLO hHI hS hQ h01 hlen h14 hqq hSl;subst hb;have k0:(((1:Nat):Int) != 0)=true:=rfl;have k1:(((1:Nat):Int) != 1)=false:=rfl;have P_0:=((((Three.new w 141 (.int .i64 lo) (.int .i64 hi) (.int .i64 (q:Nat)))).alloc (.cells #[.int .i64 0,.int .i64 0,.int .i64 0] 141)).alloc (.cells #[.slice none 0 0,.int .i64 0] 70)).alloc (.cells #[.int .i64 0,.int .i64 0] 24);have X_0:=(((Three.new1 w (.cells #[.int .i64 lo,.int .i64 hi,.int .i64 (q:Nat)] 141) 141 (.int .i64 0) (.int .i64 0) (.int .i64 0))).alloc (.cells #[.slice none 0 0,.int .i64 0] 70)).alloc (.cells #[.int .i64 0,.int .i64 0] 24);have Y_0:=((Two.new2 w (.cells #[.int .i64 lo,.int .i64 hi,.int .i64 (q:Nat)] 141) (.cells #[.int .i64 0,.int .i64 0,.int .i64 0] 141) 70 (.slice none 0 0) (.int .i64 0))).alloc (.cells #[.int .i64 0,.int .i64 0] 24);have F_0:=(Two.new3 w (.cells #[.int .i64 lo,.int .i64 hi,.int .i64 (q:Nat)] 141) (.cells #[.int .i64 0,.int .i64 0,.int .i64 0] 141) (.cells #[.slice none 0 0,.int .i64 0] 70) 24 (.int .i64 0) (.int .i64 0))
 have Z0:=((((Below.refl w.heap.size w).alloc (by simp) (.cells #[.int .i64 lo,.int .i64 hi,.int .i64 (q:Nat)] 141)).alloc (by simp) (.cells #[.int .i64 0,.int .i64 0,.int .i64 0] 141)).alloc (by simp;omega) (.cells #[.slice none 0 0,.int .i64 0] 70)).alloc (by simp;omega) (.cells #[.int .i64 0,.int .i64 0] 24);have P_0_c0:=P_0.c0;have P_0_c1:=P_0.c1;have P_0_c2:=P_0.c2;have X_0_c0:=X_0.c0;have X_0_c1:=X_0.c1;have X_0_c2:=X_0.c2;have X_0_f0:=X_0.f0;have X_0_f1:=X_0.f1;have X_0_f2:=X_0.f2;have Y_0_c0:=Y_0.c0;have Y_0_c1:=Y_0.c1;have Y_0_f0:=Y_0.f0;have Y_0_f1:=Y_0.f1;have F_0_c0:=F_0.c0;have F_0_c1:=F_0.c1;have F_0_f0:=F_0.f0;have F_0_f1:=F_0.f1
 go_enter Tryz.func104,Tryz.ntmps104
 go_wp2_with fail
 refine(HOK.out _).mono ?_;rintro e w1 ⟨rfl,y1⟩;have P_1:=P_0.on y1;have X_1:=X_0.on y1;have Y_1:=Y_0.on y1;have F_1:=F_0.on y1;clear P_0 P_0_c0 P_0_c1 P_0_c2 X_0 X_0_c0 X_0_c1 X_0_c2 X_0_f0 X_0_f1 X_0_f2 Y_0 Y_0_c0 Y_0_c1 Y_0_f0 Y_0_f1 F_0 F_0_c0 F_0_c1 F_0_f0 F_0_f1;have z1:=Z0.trans (y1.mono Z0.size);have Z1:=z1;have P_1_c0:=P_1.c0;have P_1_c1:=P_1.c1;have P_1_c2:=P_1.c2;have X_1_c0:=X_1.c0;have X_1_c1:=X_1.c1;have X_1_c2:=X_1.c2;have X_1_f0:=X_1.f0;have X_1_f1:=X_1.f1;have X_1_f2:=X_1.f2;have Y_1_c0:=Y_1.c0;have Y_1_c1:=Y_1.c1;have Y_1_f0:=Y_1.f0;have Y_1_f1:=Y_1.f1;have F_1_c0:=F_1.c0;have F_1_c1:=F_1.c1;have F_1_f0:=F_1.f0;have F_1_f1:=F_1.f1
 go_wp2_with fail
 refine(validp_yes _ HP.out _).mono ?_;rintro e w9_1 ⟨rfl,rfl⟩;have LT0:=F_1.lt
 go_wp2_with fail
 refine(HEN.out _).mono ?_;rintro e w2 ⟨rfl,y2⟩;have P_2:=(P_1.on y2).alloc (.cells #[.int .i64 LO,.int .i64 HI,.int .i64 (Q:Nat)] 141);have X_2:=(X_1.on y2).alloc (.cells #[.int .i64 LO,.int .i64 HI,.int .i64 (Q:Nat)] 141);have Y_2:=(Y_1.on y2).alloc (.cells #[.int .i64 LO,.int .i64 HI,.int .i64 (Q:Nat)] 141);have F_2:=(F_1.on y2).alloc (.cells #[.int .i64 LO,.int .i64 HI,.int .i64 (Q:Nat)] 141);have N_2:=(Three.new w2 141 (.int .i64 LO) (.int .i64 HI) (.int .i64 (Q:Nat)))
 clear P_1 P_1_c0 P_1_c1 P_1_c2 X_1 X_1_c0 X_1_c1 X_1_c2 X_1_f0 X_1_f1 X_1_f2 Y_1 Y_1_c0 Y_1_c1 Y_1_f0 Y_1_f1 F_1 F_1_c0 F_1_c1 F_1_f0 F_1_f1;have z2:=Z1.trans (y2.mono Z1.size);have Z2:=(z2).alloc (by have:=z2.size;omega) (.cells #[.int .i64 LO,.int .i64 HI,.int .i64 (Q:Nat)] 141);have P_2_c0:=P_2.c0;have P_2_c1:=P_2.c1;have P_2_c2:=P_2.c2;have X_2_c0:=X_2.c0;have X_2_c1:=X_2.c1;have X_2_c2:=X_2.c2;have X_2_f0:=X_2.f0;have X_2_f1:=X_2.f1;have X_2_f2:=X_2.f2;have Y_2_c0:=Y_2.c0;have Y_2_c1:=Y_2.c1;have Y_2_f0:=Y_2.f0;have Y_2_f1:=Y_2.f1;have F_2_c0:=F_2.c0;have F_2_c1:=F_2.c1;have F_2_f0:=F_2.f0;have F_2_f1:=F_2.f1;have N_2_c0:=N_2.c0;have N_2_c1:=N_2.c1;have N_2_c2:=N_2.c2;have LT:=F_2.lt
 go_wp2_with fail
 refine(HMK.out _).mono ?_;rintro e w3 ⟨A1,n1,c1,rfl,R1,y3⟩;have P_3:=((P_2.on y3).alloc (.cells #[.slice A1 n1 c1,.int .i64 S.length] 70)).alloc (.cells #[.int .i64 0,.int .i64 0] 24);have X_3:=((X_2.on y3).alloc (.cells #[.slice A1 n1 c1,.int .i64 S.length] 70)).alloc (.cells #[.int .i64 0,.int .i64 0] 24);have Y_3:=((Y_2.on y3).alloc (.cells #[.slice A1 n1 c1,.int .i64 S.length] 70)).alloc (.cells #[.int .i64 0,.int .i64 0] 24);have F_3:=((F_2.on y3).alloc (.cells #[.slice A1 n1 c1,.int .i64 S.length] 70)).alloc (.cells #[.int .i64 0,.int .i64 0] 24);have N_3:=((N_2.on y3).alloc (.cells #[.slice A1 n1 c1,.int .i64 S.length] 70)).alloc (.cells #[.int .i64 0,.int .i64 0] 24);have R_3:=((R1).alloc (.cells #[.slice A1 n1 c1,.int .i64 S.length] 70)).alloc (.cells #[.int .i64 0,.int .i64 0] 24);have G_3:=((Two.new w3 70 (.slice A1 n1 c1) (.int .i64 S.length))).alloc (.cells #[.int .i64 0,.int .i64 0] 24);have H_3:=(Two.new1 w3 (.cells #[.slice A1 n1 c1,.int .i64 S.length] 70) 24 (.int .i64 0) (.int .i64 0))
 clear P_2 P_2_c0 P_2_c1 P_2_c2 X_2 X_2_c0 X_2_c1 X_2_c2 X_2_f0 X_2_f1 X_2_f2 Y_2 Y_2_c0 Y_2_c1 Y_2_f0 Y_2_f1 F_2 F_2_c0 F_2_c1 F_2_f0 F_2_f1 N_2 N_2_c0 N_2_c1 N_2_c2;have z3:=Z2.trans (y3.mono Z2.size);have Z3:=((z3).alloc (by have:=z3.size;omega) (.cells #[.slice A1 n1 c1,.int .i64 S.length] 70)).alloc (by have:=z3.size;simp;omega) (.cells #[.int .i64 0,.int .i64 0] 24);have P_3_c0:=P_3.c0;have P_3_c1:=P_3.c1;have P_3_c2:=P_3.c2;have X_3_c0:=X_3.c0;have X_3_c1:=X_3.c1;have X_3_c2:=X_3.c2;have X_3_f0:=X_3.f0;have X_3_f1:=X_3.f1;have X_3_f2:=X_3.f2;have Y_3_c0:=Y_3.c0;have Y_3_c1:=Y_3.c1;have Y_3_f0:=Y_3.f0;have Y_3_f1:=Y_3.f1;have F_3_c0:=F_3.c0;have F_3_c1:=F_3.c1;have F_3_f0:=F_3.f0;have F_3_f1:=F_3.f1;have N_3_c0:=N_3.c0;have N_3_c1:=N_3.c1;have N_3_c2:=N_3.c2;have G_3_c0:=G_3.c0;have G_3_c1:=G_3.c1;have H_3_c0:=H_3.c0;have H_3_c1:=H_3.c1;have ap0:w.heap.size+3<w2.heap.size:=by have:=LT0;have:=y2.size;have:=y3.size;(try simp at *);omega
 have ap0_0:w2.heap.size≠w.heap.size:=by omega
 have ap0_0r:w.heap.size≠w2.heap.size:=by omega
 have ap0_1:w2.heap.size≠w.heap.size+1:=by omega
 have ap0_1r:w.heap.size+1≠w2.heap.size:=by omega
 have ap0_2:w2.heap.size≠w.heap.size+1+1:=by omega
 have ap0_2r:w.heap.size+1+1≠w2.heap.size:=by omega
 have ap0_3:w2.heap.size≠w.heap.size+1+1+1:=by omega
 have ap0_3r:w.heap.size+1+1+1≠w2.heap.size:=by omega
 have ap1:w.heap.size+3<w3.heap.size:=by have:=LT0;have:=y2.size;have:=y3.size;(try simp at *);omega
 have ap1_0:w3.heap.size≠w.heap.size:=by omega
 have ap1_0r:w.heap.size≠w3.heap.size:=by omega
 have ap1_1:w3.heap.size≠w.heap.size+1:=by omega
 have ap1_1r:w.heap.size+1≠w3.heap.size:=by omega
 have ap1_2:w3.heap.size≠w.heap.size+1+1:=by omega
 have ap1_2r:w.heap.size+1+1≠w3.heap.size:=by omega
 have ap1_3:w3.heap.size≠w.heap.size+1+1+1:=by omega
 have ap1_3r:w.heap.size+1+1+1≠w3.heap.size:=by omega
 have ap2:w.heap.size+3<w3.heap.size+1:=by have:=LT0;have:=y2.size;have:=y3.size;(try simp at *);omega
 have ap2_0:w3.heap.size+1≠w.heap.size:=by omega
 have ap2_0r:w.heap.size≠w3.heap.size+1:=by omega
 have ap2_1:w3.heap.size+1≠w.heap.size+1:=by omega
 have ap2_1r:w.heap.size+1≠w3.heap.size+1:=by omega
 have ap2_2:w3.heap.size+1≠w.heap.size+1+1:=by omega
 have ap2_2r:w.heap.size+1+1≠w3.heap.size+1:=by omega
 have ap2_3:w3.heap.size+1≠w.heap.size+1+1+1:=by omega
 have ap2_3r:w.heap.size+1+1+1≠w3.heap.size+1:=by omega
 go_wp2_with fail
 go_region
 go_wp2
 have rX:=((((((((X_3.set0 (.int .i64 LO)).set1 (.int .i64 HI)).set2 (.int .i64 (Q:Nat))).far (p:=⟨w.heap.size+2,0,none⟩) (by simp) (.slice A1 n1 c1)).far (p:=⟨w.heap.size+2,1,none⟩) (by simp) (.int .i64 S.length)).far (p:=⟨w.heap.size+3,0,none⟩) (by simp) (.int .i64 0)).far (p:=⟨w.heap.size+3,1,none⟩) (by simp) (.int .i64 0))).drew;have rX_0:=rX.c0;have rX_1:=rX.c1;have rX_2:=rX.c2;have rY:=((((((((Y_3.far (p:=⟨w.heap.size+1,0,none⟩) (by simp) (.int .i64 LO)).far (p:=⟨w.heap.size+1,1,none⟩) (by simp) (.int .i64 HI)).far (p:=⟨w.heap.size+1,2,none⟩) (by simp) (.int .i64 (Q:Nat))).set0 (.slice A1 n1 c1)).set1 (.int .i64 S.length)).far (p:=⟨w.heap.size+3,0,none⟩) (by simp) (.int .i64 0)).far (p:=⟨w.heap.size+3,1,none⟩) (by simp) (.int .i64 0))).drew;have rY_0:=rY.c0;have rY_1:=rY.c1;have rF:=((((((((F_3.far (p:=⟨w.heap.size+1,0,none⟩) (by simp) (.int .i64 LO)).far (p:=⟨w.heap.size+1,1,none⟩) (by simp) (.int .i64 HI)).far (p:=⟨w.heap.size+1,2,none⟩) (by simp) (.int .i64 (Q:Nat))).far (p:=⟨w.heap.size+2,0,none⟩) (by simp) (.slice A1 n1 c1)).far (p:=⟨w.heap.size+2,1,none⟩) (by simp) (.int .i64 S.length)).set0 (.int .i64 0)).set1 (.int .i64 0))).drew;have rF_0:=rF.c0;have rF_1:=rF.c1
 exact bodyPost_ret (v:=.tuple #[.agg #[.int .i64 LO,.int .i64 HI,.int .i64 (Q:Nat)],.agg #[.slice A1 n1 c1,.int .i64 S.length],.agg #[.int .i64 0,.int .i64 0]]) (by simp[results,Tryz.results104,go_sem,rX_0,rX_1,rX_2,rY_0,rY_1,rF_0,rF_1]) rfl ⟨A1,n1,c1,rfl,Rd.own (kdl7 (kas7 (kas7 (kas7 (kas7 (kas7 (kas7 (kas7 R_3 (p:=⟨w.heap.size+1,0,none⟩) (Nat.lt_of_le_of_lt (by simp) LT) (.int .i64 LO)) (p:=⟨w.heap.size+1,1,none⟩) (Nat.lt_of_le_of_lt (by simp) LT) (.int .i64 HI)) (p:=⟨w.heap.size+1,2,none⟩) (Nat.lt_of_le_of_lt (by simp) LT) (.int .i64 (Q:Nat))) (p:=⟨w.heap.size+2,0,none⟩) (Nat.lt_of_le_of_lt (by simp) LT) (.slice A1 n1 c1)) (p:=⟨w.heap.size+2,1,none⟩) (Nat.lt_of_le_of_lt (by simp) LT) (.int .i64 S.length)) (p:=⟨w.heap.size+3,0,none⟩) (Nat.lt_of_le_of_lt (by simp) LT) (.int .i64 0)) (p:=⟨w.heap.size+3,1,none⟩) (Nat.lt_of_le_of_lt (by simp) LT) (.int .i64 0))),(belowD (((((((Z3.setCell (p:=⟨w.heap.size+1,0,none⟩) (by simp) (.int .i64 LO)).setCell (p:=⟨w.heap.size+1,1,none⟩) (by simp) (.int .i64 HI)).setCell (p:=⟨w.heap.size+1,2,none⟩) (by simp) (.int .i64 (Q:Nat))).setCell (p:=⟨w.heap.size+2,0,none⟩) (by simp) (.slice A1 n1 c1)).setCell (p:=⟨w.heap.size+2,1,none⟩) (by simp) (.int .i64 S.length)).setCell (p:=⟨w.heap.size+3,0,none⟩) (by simp) (.int .i64 0)).setCell (p:=⟨w.heap.size+3,1,none⟩) (by simp) (.int .i64 0)))⟩
theorem put_ok{lo hi p:Int}{b q:Nat}(hok:COk lo hi (q:Nat))(h1:1≤p)(h2:p≤4095)(hb:b≤1)(LO HI:Int)(S:List Nat)(Q:Nat)(hLO:LO=(stp lo hi b p).1)(hHI:HI=(stp lo hi b p).2.1)(hS:S=(sentf (stp lo hi b p).2.2 q).1)(hQ:Q=(sentf (stp lo hi b p).2.2 q).2)(hbig:Q≤131056)(w:World) :
  Calls Tryz.prog 104 #[.agg #[.int .i64 lo,.int .i64 hi,.int .i64 (q:Nat)],.int .i64 (b:Nat),.int .i64 p] w fun e w'=>∃ A n c,e=.returned (.tuple #[.agg #[.int .i64 LO,.int .i64 HI,.int .i64 (Q:Nat)],.agg #[.slice A n c,.int .i64 S.length],.agg #[.int .i64 0,.int .i64 0]])∧Rd w' A n c (bcells (pack S))∧Below w.heap.size w w':=by
 rcases(by omega:b=0∨b=1) with hb0|hb1
 ·exact put_ok0 hok h1 h2 hb0 LO HI S Q hLO hHI hS hQ hbig w
 ·exact put_ok1 hok h1 h2 hb1 LO HI S Q hLO hHI hS hQ hbig w
theorem finish_ok{lo hi:Int}{q:Nat}(hok:COk lo hi (q:Nat))(b:Nat)(hb:b=if lo<16384 then 0 else 1)(w:World) :
  Calls Tryz.prog 105 #[.agg #[.int .i64 lo,.int .i64 hi,.int .i64 (q:Nat)]] w fun e w'=>∃ A n c,e=.returned (.tuple #[.agg #[.slice A n c,.int .i64 (crt b (q+1)).length],.agg #[.int .i64 0,.int .i64 0]])∧Rd w' A n c (bcells (pack (crt b (q+1))))∧Below w.heap.size w w':=by
 have HOK:=Lib.hid (fun(W:World)=>kcu7 lo hi (q:Nat) true ⟨fun _=>hok,fun _=>rfl⟩ W);have hqq:=hok.2.2;have HFI:=Lib.hid (fun(W:World)=>finish_any (lo:=lo) (hi:=hi) (q:=q) (by omega) b hb W);have h01:Is01 (crt b (q+1)):=Is01.of_mem fun x hx=>by have:=crt_le (b:=b) (q:=q+1) (by rw[hb];split<;>omega) x hx;omega
 have HMK:=Lib.hid (fun(W:World)=>make_bt (crt b (q+1)) h01 (by simp[crt];omega) W);clear hok h01 hqq hb;have P_0:=(((Three.new w 141 (.int .i64 lo) (.int .i64 hi) (.int .i64 (q:Nat)))).alloc (.cells #[.slice none 0 0,.int .i64 0] 70)).alloc (.cells #[.int .i64 0,.int .i64 0] 24);have Y_0:=((Two.new1 w (.cells #[.int .i64 lo,.int .i64 hi,.int .i64 (q:Nat)] 141) 70 (.slice none 0 0) (.int .i64 0))).alloc (.cells #[.int .i64 0,.int .i64 0] 24);have F_0:=(Two.new2 w (.cells #[.int .i64 lo,.int .i64 hi,.int .i64 (q:Nat)] 141) (.cells #[.slice none 0 0,.int .i64 0] 70) 24 (.int .i64 0) (.int .i64 0))
 have Z0:=(((Below.refl w.heap.size w).alloc (by simp) (.cells #[.int .i64 lo,.int .i64 hi,.int .i64 (q:Nat)] 141)).alloc (by simp) (.cells #[.slice none 0 0,.int .i64 0] 70)).alloc (by simp;omega) (.cells #[.int .i64 0,.int .i64 0] 24);have P_0_c0:=P_0.c0;have P_0_c1:=P_0.c1;have P_0_c2:=P_0.c2;have Y_0_c0:=Y_0.c0;have Y_0_c1:=Y_0.c1;have Y_0_f0:=Y_0.f0;have Y_0_f1:=Y_0.f1;have F_0_c0:=F_0.c0;have F_0_c1:=F_0.c1;have F_0_f0:=F_0.f0;have F_0_f1:=F_0.f1
 go_enter Tryz.func105,Tryz.ntmps105
 go_wp2_with fail
 refine(HOK.out _).mono ?_;rintro e w1 ⟨rfl,y1⟩;have P_1:=P_0.on y1;have Y_1:=Y_0.on y1;have F_1:=F_0.on y1;clear P_0 P_0_c0 P_0_c1 P_0_c2 Y_0 Y_0_c0 Y_0_c1 Y_0_f0 Y_0_f1 F_0 F_0_c0 F_0_c1 F_0_f0 F_0_f1;have z1:=Z0.trans (y1.mono Z0.size);have Z1:=z1;have P_1_c0:=P_1.c0;have P_1_c1:=P_1.c1;have P_1_c2:=P_1.c2;have Y_1_c0:=Y_1.c0;have Y_1_c1:=Y_1.c1;have Y_1_f0:=Y_1.f0;have Y_1_f1:=Y_1.f1;have F_1_c0:=F_1.c0;have F_1_c1:=F_1.c1;have F_1_f0:=F_1.f0;have F_1_f1:=F_1.f1
 go_wp2_with fail
 refine(HFI.out _).mono ?_;rintro e w2 ⟨rfl,y2⟩;have P_2:=P_1.on y2;have Y_2:=Y_1.on y2;have F_2:=F_1.on y2;clear P_1 P_1_c0 P_1_c1 P_1_c2 Y_1 Y_1_c0 Y_1_c1 Y_1_f0 Y_1_f1 F_1 F_1_c0 F_1_c1 F_1_f0 F_1_f1;have z2:=Z1.trans (y2.mono Z1.size);have Z2:=z2;have P_2_c0:=P_2.c0;have P_2_c1:=P_2.c1;have P_2_c2:=P_2.c2;have Y_2_c0:=Y_2.c0;have Y_2_c1:=Y_2.c1;have Y_2_f0:=Y_2.f0;have Y_2_f1:=Y_2.f1;have F_2_c0:=F_2.c0;have F_2_c1:=F_2.c1;have F_2_f0:=F_2.f0;have F_2_f1:=F_2.f1;have LT:=F_2.lt
 go_wp2_with fail
 refine(HMK.out _).mono ?_;rintro e w3 ⟨A1,n1,c1,rfl,R1,y3⟩;have P_3:=P_2.on y3;have Y_3:=Y_2.on y3;have F_3:=F_2.on y3;have R_3:=R1;clear P_2 P_2_c0 P_2_c1 P_2_c2 Y_2 Y_2_c0 Y_2_c1 Y_2_f0 Y_2_f1 F_2 F_2_c0 F_2_c1 F_2_f0 F_2_f1;have z3:=Z2.trans (y3.mono Z2.size);have Z3:=z3;have P_3_c0:=P_3.c0;have P_3_c1:=P_3.c1;have P_3_c2:=P_3.c2;have Y_3_c0:=Y_3.c0;have Y_3_c1:=Y_3.c1;have Y_3_f0:=Y_3.f0;have Y_3_f1:=Y_3.f1;have F_3_c0:=F_3.c0;have F_3_c1:=F_3.c1;have F_3_f0:=F_3.f0;have F_3_f1:=F_3.f1
 go_wp2
 have rY:=(((((Y_3.set0 (.slice A1 n1 c1)).set1 (.int .i64 (crt b (q+1)).length)).far (p:=⟨w.heap.size+2,0,none⟩) (by simp) (.int .i64 0)).far (p:=⟨w.heap.size+2,1,none⟩) (by simp) (.int .i64 0)))
 have rY_0:=rY.c0;have rY_1:=rY.c1;have rF:=(((((F_3.far (p:=⟨w.heap.size+1,0,none⟩) (by simp) (.slice A1 n1 c1)).far (p:=⟨w.heap.size+1,1,none⟩) (by simp) (.int .i64 (crt b (q+1)).length)).set0 (.int .i64 0)).set1 (.int .i64 0)))
 have rF_0:=rF.c0;have rF_1:=rF.c1;exact bodyPost_ret (v:=.tuple #[.agg #[.slice A1 n1 c1,.int .i64 (crt b (q+1)).length],.agg #[.int .i64 0,.int .i64 0]]) (by simp[results,Tryz.results105,go_sem,rY_0,rY_1,rF_0,rF_1]) rfl ⟨A1,n1,c1,rfl,Rd.own (kas7 (kas7 (kas7 (kas7 R_3 (p:=⟨w.heap.size+1,0,none⟩) (Nat.lt_of_le_of_lt (by simp) LT) (.slice A1 n1 c1)) (p:=⟨w.heap.size+1,1,none⟩) (Nat.lt_of_le_of_lt (by simp) LT) (.int .i64 (crt b (q+1)).length)) (p:=⟨w.heap.size+2,0,none⟩) (Nat.lt_of_le_of_lt (by simp) LT) (.int .i64 0)) (p:=⟨w.heap.size+2,1,none⟩) (Nat.lt_of_le_of_lt (by simp) LT) (.int .i64 0)),((((Z3.setCell (p:=⟨w.heap.size+1,0,none⟩) (by simp) (.slice A1 n1 c1)).setCell (p:=⟨w.heap.size+1,1,none⟩) (by simp) (.int .i64 (crt b (q+1)).length)).setCell (p:=⟨w.heap.size+2,0,none⟩) (by simp) (.int .i64 0)).setCell (p:=⟨w.heap.size+2,1,none⟩) (by simp) (.int .i64 0))⟩
end PB
end
section
open Go.RowKit Go.Shelf
namespace PB
def Bld(w:World)(b:Nat)(l:List Nat):Prop:=Lib.IsBuilderF 145 5 b b (Lib.strCells (bt l)) w
def Oth(b:Nat)(w w':World):Prop:=Lib.OthersKept 5 (some b) w w'
theorem strCells_bt(a b:List Nat):Lib.strCells (bt (a++b))=Lib.strCells (bt a)++Lib.strCells (bt b):=by
 rw[kfg7];simp[Lib.strCells]
theorem strCells_len(l:List Nat):(Lib.strCells (bt l)).length=l.length:=by rw[Lib.strCells_length,kee7]
theorem Bld.new(w:World):Bld (w.alloc (.cells #[.pointer none,.slice none 0 0] 145)) w.heap.size []:=by
 unfold Bld;exact Lib.IsBuilderF.of (Lib.fresh_isBuilder _ _ w)
theorem Bld.lt{w:World}{b:Nat}{l:List Nat}(h:Bld w b l):b<w.heap.size:=by
 rcases h with h|h
 ·exact h.lt
 ·exact h.lt
theorem Bld.on{w w':World}{b:Nat}{l:List Nat}(h:Bld w b l)(y:Below w.heap.size w w'):Bld w' b l:=by
 have key:∀ p,Lib.BuilderAtF 145 5 b b p (Lib.strCells (bt l)) w→Lib.BuilderAtF 145 5 b b p (Lib.strCells (bt l)) w':=by
  rintro p ⟨hB,v,hb,hown,hne⟩;have hlt:b<w.heap.size:=(Array.getElem?_eq_some_iff.1 hb).1;exact⟨hB,v,(y.block b hlt).trans hb,hown.kept (row:=none) (kgd7 y none) (Classical.em _),hne⟩
 rcases h with h|h
 ·exact .inl (key _ h)
 ·exact .inr (key _ h)
theorem Bld.alloc{w:World}{b:Nat}{l:List Nat}(h:Bld w b l)(o:Obj):Bld (w.alloc o) b l:=h.on ((Below.refl _ _).alloc (Nat.le_refl _) o)
theorem Bld.far{w:World}{b:Nat}{l:List Nat}(h:Bld w b l){s:Nat}{t:TypeId}{cs:Array Value}(hs:Blk w s t cs)(ht:t≠5)(hb:s≠b)(i:Nat)(u:Value):Bld (w.setCell ⟨s,i,none⟩ u) b l:=by
 have key:∀ p,Lib.BuilderAtF 145 5 b b p (Lib.strCells (bt l)) w→Lib.BuilderAtF 145 5 b b p (Lib.strCells (bt l)) (w.setCell ⟨s,i,none⟩ u):=by
  rintro p ⟨hB,v,hbk,hown,hne⟩;refine⟨hB,v,(Below.heap_setCell _ _ _ _ (Ne.symm hb)).trans hbk,?_,hne⟩;refine hown.kept (row:=some s) ⟨rfl,rfl,rfl,by simp[World.setCell],fun k _ hk=>Below.heap_setCell _ _ _ _ (fun e=>hk (by simp[e]))⟩ ?_;refine Or.inr ?_;exact Lib.ownBlock_neF hown hs ht
 rcases h with h|h
 ·exact .inl (key _ h)
 ·exact .inr (key _ h)
theorem Oth.blk{w w':World}{b s:Nat}{t:TypeId}{cs:Array Value}(h:Oth b w w')(hs:Blk w s t cs)(ht:t≠5)(hb:s≠b):Blk w' s t cs :=
 h s _ hs (fun e=>hb (Option.some.inj e)) (fun c fz e=>ht (by injection e))
theorem bld_add{w:World}{b:Nat}{l s:List Nat}(h:Bld w b l)(hl:l.length+s.length≤1000000) :
  Calls Tryz.prog 101 #[.pointer (some ⟨b,0,none⟩),.string (bt s)] w fun e w'=>e=.returned (.tuple #[.int .i64 (bt s).size,.nilIface])∧Bld w' b (l++s)∧Below b w w'∧Oth b w w':=by
 refine(Any.Builder_WriteString_k lays166 Tryz.Builder_Extra_105 b b _ (bt s) w h (by rw[strCells_len,kee7];omega) (Nat.le_of_lt h.lt)).mono ?_;rintro e w' ⟨rfl,hb,y,o⟩;refine⟨rfl,.inr ?_,y,o⟩;unfold PB.Bld at *;rw[strCells_bt];exact hb
theorem bld_str{w:World}{b:Nat}{l:List Nat}(h:Bld w b l) :
  Calls Tryz.prog 107 #[.pointer (some ⟨b,0,none⟩)] w fun e w'=>e=.returned (.string (bt l))∧Below b w w':=by
 refine(Tryz.Builder_String_any_f b b (bt l).data.toList w h (Nat.le_of_lt h.lt)).mono ?_;rintro e w' ⟨rfl,_,y⟩;exact⟨by simp,y⟩
end PB
end
section
open Go
namespace PB
section
variable {P:Program}{ops:Array Oper}{Q:Exit→Act→World→Prop}{md:Region.Mode}{S:World→Prop}{L:Nat}
def waits(md:Region.Mode)(ops:Array Oper)(L i:Nat):Bool :=
 match ops[L]? with
 | some o=>o.after.any fun e=>Region.binds md e && e.on == i
 | none=>true
end
end PB
end
namespace PB
abbrev Ctx:=Nat×Nat×Nat×Nat
def cbeg(i:Nat):Nat:=i-i % 8
def mbeg(h:List Nat)(i:Nat):Nat:=num (1::(h.drop (cbeg i)).take (i-cbeg i))
def mlast(h:List Nat)(i:Nat):Nat:=if 8≤cbeg i then num ((h.drop (cbeg i-8)).take 8) % 32 else 0
def mbefore(h:List Nat)(i:Nat):Nat:=if 16≤cbeg i then num ((h.drop (cbeg i-16)).take 8) % 32 else 0
def ctx(h:List Nat)(i o:Nat):Ctx:=(o,if 1≤o then mlast h i else 0,if 2≤o then mbefore h i else 0,mbeg h i)
theorem mbeg_zero(h:List Nat):mbeg h 0=1:=by simp[mbeg,cbeg,num]
theorem mlast_zero(h:List Nat):mlast h 0=0:=by simp[mlast,cbeg]
theorem mbefore_zero(h:List Nat):mbefore h 0=0:=by simp[mbefore,cbeg]
theorem mbeg_pos{h:List Nat}(h01:Is01 h)(i:Nat):2 ^ (i % 8)≤mbeg h i∨h.length<i:=by
 rcases Nat.lt_or_ge h.length i with hl|hl
 ·exact .inr hl
 ·left;unfold mbeg;rw[khq7,List.length_take,List.length_drop];have e:min (i-cbeg i) (h.length-cbeg i)=i % 8:=by unfold cbeg;omega
  rw[e];omega
theorem mbeg_lt{h:List Nat}(h01:Is01 h)(i:Nat)(hi:i≤h.length):mbeg h i<2*2 ^ (i % 8):=by
 unfold mbeg;rw[khq7,List.length_take,List.length_drop];have e:min (i-cbeg i) (h.length-cbeg i)=i % 8:=by unfold cbeg;omega
 have:=num_lt ((h01.drop (cbeg i)).take (i-cbeg i));rw[List.length_take,List.length_drop] at this;rw[e] at this ⊢;omega
theorem kid7{h:List Nat}(h01:Is01 h)(i:Nat)(hi:i≤h.length):1≤mbeg h i∧mbeg h i<256:=by
 have a:=mbeg_lt h01 i hi;have b:2 ^ (i % 8)≤2 ^ 7:=Nat.pow_le_pow_right (by decide) (by omega);rcases mbeg_pos h01 i with c|c
 ·have:=Nat.two_pow_pos (i % 8);omega
 ·omega
theorem mlast_lt(h:List Nat)(i:Nat):mlast h i<32:=by unfold mlast;split<;>omega
theorem mbefore_lt(h:List Nat)(i:Nat):mbefore h i<32:=by unfold mbefore;split<;>omega
theorem mstep{h:List Nat}(i:Nat)(hi:i<h.length):2*mbeg h i+h.getD i 0=num (1::(h.drop (cbeg i)).take (i+1-cbeg i)):=by
 have e:(h.drop (cbeg i)).take (i+1-cbeg i)=(h.drop (cbeg i)).take (i-cbeg i)++[h.getD i 0]:=by
  have e1:i+1-cbeg i=(i-cbeg i)+1:=by unfold cbeg;omega
  rw[e1,List.take_succ_eq_append_getElem (by rw[List.length_drop];unfold cbeg;omega)]
  congr 2
  rw[List.getElem_drop,←kbf7]
  congr 1
  unfold cbeg;omega
 rw[e,←List.cons_append,num_snoc];rfl
theorem mstep_in{h:List Nat}(h01:Is01 h)(i:Nat)(hi:i<h.length)(hm:(i+1) % 8≠0):mbeg h (i+1)=2*mbeg h i+h.getD i 0∧mlast h (i+1)=mlast h i∧mbefore h (i+1)=mbefore h i∧2*mbeg h i+h.getD i 0<256:=by
 have e:cbeg (i+1)=cbeg i:=by unfold cbeg;omega
 have s:=mstep i hi;have e1:mbeg h (i+1)=2*mbeg h i+h.getD i 0:=by rw[s];unfold mbeg;rw[e]
 refine⟨e1,by unfold mlast;rw[e],by unfold mbefore;rw[e],?_⟩;rw[←e1];exact(kid7 h01 (i+1) (by omega)).2
theorem mstep_end{h:List Nat}(h01:Is01 h)(i:Nat)(hi:i<h.length)(hm:(i+1) % 8=0):mbeg h (i+1)=1∧mlast h (i+1)=(2*mbeg h i+h.getD i 0) % 32∧mbefore h (i+1)=mlast h i∧256≤2*mbeg h i+h.getD i 0∧2*mbeg h i+h.getD i 0<512:=by
 have e:cbeg (i+1)=cbeg i+8:=by unfold cbeg;omega
 have e2:cbeg i+8=i+1:=by unfold cbeg;omega
 have s:=mstep i hi;have e3:i+1-cbeg i=8:=by omega
 rw[e3,khq7,List.length_take,List.length_drop] at s;have e4:min 8 (h.length-cbeg i)=8:=by omega
 rw[e4] at s;have hn:=num_lt ((h01.drop (cbeg i)).take 8);rw[List.length_take,List.length_drop,e4] at hn;refine⟨?_,?_,?_,by rw[s];omega,by rw[s];omega⟩
 ·unfold mbeg;rw[e,e2,Nat.sub_self,List.take_zero];rfl
 ·unfold mlast;rw[e,if_pos (by omega),s,Nat.add_sub_cancel];omega
 ·unfold mbefore mlast;rw[e];by_cases h8:8≤cbeg i
  ·rw[if_pos (by omega),if_pos h8,show cbeg i+8-16=cbeg i-8 by omega]
  ·rw[if_neg (by omega),if_neg h8]
def halve(z o:Nat):Nat×Nat:=if 255≤z+o then((z+1) / 2,(o+1) / 2) else(z,o)
def upd(k:Nat×Nat)(b:Nat):Nat×Nat:=if b=1 then halve k.1 (k.2+1) else halve (k.1+1) k.2
def cnts(h:List Nat)(o:Nat)(c:Ctx):Nat→Nat×Nat
 | 0=>(0,0)
 | k+1=>if ctx h k o=c then upd (cnts h o c k) (h.getD k 0) else cnts h o c k
theorem upd_le{k:Nat×Nat}(h:k.1+k.2≤254)(b:Nat):(upd k b).1+(upd k b).2≤254:=by
 unfold upd halve
 split<;>split<;>(dsimp only;omega)
theorem cnts_le(h:List Nat)(o:Nat)(c:Ctx):∀ i,(cnts h o c i).1+(cnts h o c i).2≤254:=by
 intro i
 induction i with
 | zero=>simp[cnts]
 | succ i ih =>
  rw[cnts]
  split
  ·exact upd_le ih _
  ·exact ih
def hcnt(h:List Nat)(i o:Nat):Nat×Nat:=cnts h o (ctx h i o) i
def mshare(k:Nat×Nat):Nat:=(2*k.2+1)*2048 / (k.1+k.2+1)
def wgt(k:Nat×Nat)(o:Nat):Nat:=min (k.1+k.2) 15*4 ^ o
def pacc2(h:List Nat)(i:Nat):Nat→Nat×Nat
 | 0=>(2048,1)
 | o+1=>((pacc2 h i o).1+wgt (hcnt h i o) o*mshare (hcnt h i o),(pacc2 h i o).2+wgt (hcnt h i o) o)
def predv(h:List Nat)(i ord:Nat):Nat:=(pacc2 h i (ord+1)).1 / (pacc2 h i (ord+1)).2
theorem mshare_in{k:Nat×Nat}(h:k.1+k.2≤254):8≤mshare k∧mshare k≤4087:=by
 obtain⟨z,o⟩:=k;dsimp only at h;unfold mshare;dsimp only;constructor
 ·rw[Nat.le_div_iff_mul_le (by omega)];omega
 ·rw[Nat.div_le_iff_le_mul_add_pred (by omega)];omega
theorem pacc2_in(h:List Nat)(i:Nat):∀ o,1≤(pacc2 h i o).2∧8*(pacc2 h i o).2≤(pacc2 h i o).1∧(pacc2 h i o).1≤4087*(pacc2 h i o).2:=by
 intro o
 induction o with
 | zero=>simp[pacc2]
 | succ o ih =>
  obtain⟨a,b,c⟩:=ih;obtain⟨s1,s2⟩:=mshare_in (cnts_le h o (ctx h i o) i);rw[pacc2];dsimp only;have m1:wgt (hcnt h i o) o*8≤wgt (hcnt h i o) o*mshare (hcnt h i o):=Nat.mul_le_mul_left _ s1;have m2:wgt (hcnt h i o) o*mshare (hcnt h i o)≤wgt (hcnt h i o) o*4087:=Nat.mul_le_mul_left _ s2;generalize wgt (hcnt h i o) o*mshare (hcnt h i o)=x at *;generalize wgt (hcnt h i o) o=y at *;omega
theorem predv_in(h:List Nat)(i ord:Nat):8≤predv h i ord∧predv h i ord≤4087:=by
 obtain⟨a,b,c⟩:=pacc2_in h i (ord+1);unfold predv;constructor
 ·rw[Nat.le_div_iff_mul_le (by omega)];exact b
 ·refine Nat.div_le_of_le_mul ?_;rw[Nat.mul_comm];exact c
theorem kft7(h m:List Nat)(a n:Nat)(hn:a+n≤h.length):((h++m).drop a).take n=(h.drop a).take n:=by
 rw[List.drop_append_of_le_length (by omega),List.take_append_of_le_length (by rw[List.length_drop];omega)]
theorem kie7(h m:List Nat)(k o:Nat)(hk:k≤h.length):ctx (h++m) k o=ctx h k o:=by
 have e1:mbeg (h++m) k=mbeg h k:=by unfold mbeg;rw[kft7 h m _ _ (by unfold cbeg;omega)]
 have e2:mlast (h++m) k=mlast h k:=by
  unfold mlast
  split
  ·rw[kft7 h m _ _ (by unfold cbeg at *;omega)]
  ·rfl
 have e3:mbefore (h++m) k=mbefore h k:=by
  unfold mbefore
  split
  ·rw[kft7 h m _ _ (by unfold cbeg at *;omega)]
  ·rfl
 unfold ctx;rw[e1,e2,e3]
theorem cnts_append(h m:List Nat)(o:Nat)(c:Ctx):∀ i,i≤h.length→cnts (h++m) o c i=cnts h o c i:=by
 intro i
 induction i with
 | zero=>intro _;rfl
 | succ i ih =>
  intro hi;rw[cnts,cnts,kie7 h m i o (by omega),ih (by omega),kh7 (by omega)]
theorem pacc2_append(h m:List Nat)(i:Nat)(hi:i≤h.length):∀ o,pacc2 (h++m) i o=pacc2 h i o:=by
 intro o
 induction o with
 | zero=>rfl
 | succ o ih =>
  have e:hcnt (h++m) i o=hcnt h i o:=by unfold hcnt;rw[kie7 h m i o hi,cnts_append h m o _ i hi]
  rw[pacc2,pacc2,ih,e]
theorem kif7(h m:List Nat)(i ord:Nat)(hi:i≤h.length):predv (h++m) i ord=predv h i ord:=by
 unfold predv;rw[pacc2_append h m i hi]
end PB
section
open Go.RowKit
namespace PB
def cval(c:Ctx):Value:=.agg #[.int .i64 (c.1:Nat),.int .i64 (c.2.1:Nat),.int .i64 (c.2.2.1:Nat),.int .i64 (c.2.2.2:Nat)]
def kval(k:Nat×Nat):Value:=.agg #[.int .i64 (k.1:Nat),.int .i64 (k.2:Nat)]
def kdat(k:Nat×Nat):DataW Unit:=.agg [.lit (.int .i64 (k.1:Nat)),.lit (.int .i64 (k.2:Nat))]
def CtxOk(c:Ctx):Prop:=c.1<256∧c.2.1<256∧c.2.2.1<256∧c.2.2.2<256
def cntR(v:Value):Option (DataW Unit×List MemPlace) :=
 match v with
 | .agg cs=>match cs.toList with
  | [.int .i64 z,.int .i64 o]=>some (.agg [.lit (.int .i64 z),.lit (.int .i64 o)],[])
  | _=>none
 | _=>none
theorem cntR_mk(k:Nat×Nat):cntR (kval k)=some (kdat k,[]):=rfl
theorem cntR_inv{v:Value}{k:Nat×Nat}{ps:List MemPlace}(h:cntR v=some (kdat k,ps)):v=kval k:=by
 unfold cntR at h
 split at h
 ·rename_i cs
  split at h
  ·rename_i z o he
   simp only[kdat,Option.some.injEq,Prod.mk.injEq,DataW.agg.injEq,List.cons.injEq,DataW.lit.injEq,Lit.int.injEq,true_and,and_true] at h;obtain⟨⟨h1,h2⟩,h3⟩:=h;subst h1 h2;unfold kval
   congr 1
   exact Array.toList_inj.1 he
  ·cases h
 ·cases h
theorem ctx_row:(185:TypeId)<Tryz.prog.types.size:=of_decide_eq_true (by kernel_rfl)
theorem laid_out:laidOutB Tryz.prog=true:=by kernel_rfl
theorem ctx_law:Go.Maps.Keyed Tryz.prog 185 :=
 Go.Maps.Keyed.of_law (deep_law_laid laid_out (m:=2) (by omega) ctx_row (by kernel_rfl) (by kernel_rfl))
theorem ctx_cells:Tryz.prog.cellsOf 185=4:=by kernel_rfl
theorem int_cells:Tryz.prog.cellsOf 3=1:=by kernel_rfl
theorem ctx_kt:Tryz.prog.keyType 185=true:=by kernel_rfl
theorem key_any{c:Ctx}(h:CtxOk c):∃ l,keyOf Tryz.prog 185 (cval c)=some l:=by
 obtain⟨ha,hb,hc,hd⟩:=h;have key:∀ x:Nat,x<256→(Lit.int .i64 (x:Nat)).wf=true:=by
  intro x hx;exact WalkArith.wf_i64 (by omega)
 have k1:=key _ ha;have k2:=key _ hb;have k3:=key _ hc;have k4:=key _ hd;obtain⟨m,hm⟩:∃ m,Tryz.prog.types.size=m+1:=⟨_,Tryz.types_size⟩
 unfold keyOf;simp only[Tryz.underlying185];rw[if_pos (by simp[ctx_kt,Value.formed,cval,Tryz.underlying185,ctx_cells]),hm];unfold Program.keyLits;simp only[Tryz.underlying185,cval,Value.cells,ctx_cells,int_cells];simp[Program.keyLits,Tryz.underlying3,int_cells,k1,k2,k3,k4]
def CM(w:World)(b n:Nat)(f:Ctx→Nat×Nat):Prop :=
 ∃ D,w.ownsMap Tryz.prog 185 cntR b n D∧∀ c,CtxOk c→∀ l,keyOf Tryz.prog 185 (cval c)=some l→D.atKey l (kdat (0,0))=kdat (f c)
theorem cval_inj{c c':Ctx}(h:cval c=cval c'):c=c':=by
 obtain⟨a1,a2,a3,a4⟩:=c;obtain⟨b1,b2,b3,b4⟩:=c';simp only[cval,Value.agg.injEq,Array.mk.injEq,List.cons.injEq,Value.int.injEq,true_and,and_true] at h;obtain⟨h1,h2,h3,h4⟩:=h
 congr 1
 ·omega
 congr 1
 ·omega
 congr 1
 ·omega
 ·omega
theorem zero_counts(w:World):(zeroValue 187).run Tryz.prog w=.ok (kval (0,0)) w:=by kernel_rfl
def fset(f:Ctx→Nat×Nat)(c:Ctx)(k:Nat×Nat)(c':Ctx):Nat×Nat:=if c'=c then k else f c'
section
variable {w w':World}{b n:Nat}{f:Ctx→Nat×Nat}
theorem CM.made(w:World):CM (w.alloc (.map #[] 0)) w.heap.size 0 (fun _=>(0,0)) :=
 ⟨_,World.ownsMap_made _ _ _ _,fun _ _ _ _=>rfl⟩
theorem CM.lt(h:CM w b n f):b<w.heap.size:=by obtain⟨D,h,_⟩:=h;exact h.lt
theorem CM.kept{row:Option Nat}(h:CM w b n f)(hg:w.grownBy w' row)(hne:some b≠row):CM w' b n f:=by obtain⟨D,h,r⟩:=h;exact⟨D,h.kept hg hne,r⟩
theorem CM.below{B:Nat}(h:CM w b n f)(hb:Below B w w')(hg:b<B):CM w' b n f:=by
 obtain⟨D,⟨es,clock,h1,h2⟩,r⟩:=h;exact⟨D,⟨es,clock,(hb.block b hg).trans h1,h2⟩,r⟩
theorem CM.on(h:CM w b n f)(hb:Below w.heap.size w w'):CM w' b n f:=h.below hb h.lt
theorem CM.alloc(h:CM w b n f)(o:Obj):CM (w.alloc o) b n f:=h.on ((Below.refl _ _).alloc (Nat.le_refl _) o)
theorem CM.drew(h:CM w b n f):CM w.drew b n f:=h
theorem CM.setCell(h:CM w b n f){a:Addr}(ha:b≠a.block)(u:Value):CM (w.setCell a u) b n f:=by obtain⟨D,h,r⟩:=h;exact⟨D,h.setCell ha u,r⟩
theorem CM.ne(h:CM w b n f){g:Nat}{t:TypeId}{cs:Array Value}(hg:Blk w g t cs):b≠g:=by
 rintro rfl;obtain⟨D,⟨es,clock,h1,h2⟩,r⟩:=h;unfold Blk at hg;rw[hg] at h1;cases h1
theorem CM.look(h:CM w b n f){c:Ctx}(hc:CtxOk c):(Instr.lookup 168 (.map (some b)) (cval c) false).run Tryz.prog w=.ok (kval (f c)) w:=by
 obtain⟨D,h,r⟩:=h;obtain⟨l,hl⟩:=key_any hc;obtain⟨v,ps,hrun,hv⟩:=h.lookup (z:=kval (0,0)) ctx_law Tryz.underlying168 (zero_counts w) (cntR_mk (0,0)) hl;rw[r c hc l hl] at hv;rw[hrun,cntR_inv hv]
theorem CM.store(h:CM w b n f){c:Ctx}(hc:CtxOk c)(hn:n<maxLen)(k:Nat×Nat) :
  ∃ w',(Instr.mapUpdate 168 (.map (some b)) (cval c) (kval k)).run Tryz.prog w=.ok () w'∧CM w' b (n+1) (fset f c k)∧w.grownBy w' (some b):=by
 obtain⟨D,h,r⟩:=h;obtain⟨l,hl⟩:=key_any hc;obtain⟨w',h1,h2,h3⟩:=h.update ctx_law Tryz.underlying168 hn hl (cntR_mk k);refine⟨w',h1,⟨_,h2,fun c' hc' l' hl'=>?_⟩,h3⟩;by_cases e:c'=c
 ·subst e;rw[hl] at hl';cases hl';unfold fset;rw[if_pos rfl,Go.Maps.atKey_put_same h.isMap (ctx_law.key hl)]
 ·unfold fset;rw[if_neg e,Go.Maps.atKey_put_other (fun(e2:l'=l)=>e (cval_inj (ctx_law.inj (show keyOf _ _ (cval c')=some l by rw[←e2];exact hl') hl)))];exact r c' hc' l' hl'
end
structure Pm(w:World)(s b n:Nat)(ord la be bg:Nat)(f:Ctx→Nat×Nat):Prop where
 blk:Blk w s 170 #[.int .i64 (ord:Nat),.map (some b),.int .i64 (la:Nat),.int .i64 (be:Nat),.int .i64 (bg:Nat)]
 cm:CM w b n f
section
variable {w w':World}{s b n ord la be bg:Nat}{f:Ctx→Nat×Nat}
theorem Pm.c0(h:Pm w s b n ord la be bg f):w.cell? ⟨s,0,none⟩=some (.int .i64 (ord:Nat)):=by simpa using Blk.cell h.blk 0
theorem Pm.c1(h:Pm w s b n ord la be bg f):w.cell? ⟨s,1,none⟩=some (.map (some b)):=by simpa using Blk.cell h.blk 1
theorem Pm.c2(h:Pm w s b n ord la be bg f):w.cell? ⟨s,2,none⟩=some (.int .i64 (la:Nat)):=by simpa using Blk.cell h.blk 2
theorem Pm.c3(h:Pm w s b n ord la be bg f):w.cell? ⟨s,3,none⟩=some (.int .i64 (be:Nat)):=by simpa using Blk.cell h.blk 3
theorem Pm.c4(h:Pm w s b n ord la be bg f):w.cell? ⟨s,4,none⟩=some (.int .i64 (bg:Nat)):=by simpa using Blk.cell h.blk 4
theorem Pm.on(h:Pm w s b n ord la be bg f)(hb:Below w.heap.size w w'):Pm w' s b n ord la be bg f:=⟨Blk.on h.blk hb,h.cm.on hb⟩
theorem Pm.alloc(h:Pm w s b n ord la be bg f)(o:Obj):Pm (w.alloc o) s b n ord la be bg f:=h.on ((Below.refl _ _).alloc (Nat.le_refl _) o)
theorem Pm.drew(h:Pm w s b n ord la be bg f):Pm w.drew s b n ord la be bg f:=⟨h.blk,h.cm⟩
theorem Pm.far(h:Pm w s b n ord la be bg f){p:Addr}(h1:s≠p.block)(h2:b≠p.block)(u:Value):Pm (w.setCell p u) s b n ord la be bg f:=⟨Blk.far h.blk h1 u,h.cm.setCell h2 u⟩
theorem Pm.lt(h:Pm w s b n ord la be bg f):s<w.heap.size:=Blk.lt h.blk
theorem Pm.ltb(h:Pm w s b n ord la be bg f):b<w.heap.size:=h.cm.lt
theorem Pm.ne(h:Pm w s b n ord la be bg f):b≠s:=h.cm.ne h.blk
theorem Pm.grown{row:Option Nat}(h:Pm w s b n ord la be bg f)(hg:w.grownBy w' row)(h1:some s≠row)(h2:some b≠row):Pm w' s b n ord la be bg f:=⟨Blk.grown h.blk hg h1,h.cm.kept hg h2⟩
end
end PB
end
section
open Go.RowKit
attribute [local go_sem ↓] Go.wp_at_zero Go.wp_at_succ
namespace PB
def ctxs(ord la be bg:Nat):List Ctx :=
 match ord with
 | 0=>[(0,0,0,bg)]
 | 1=>[(0,0,0,bg),(1,la,0,bg)]
 | _=>[(0,0,0,bg),(1,la,0,bg),(2,la,be,bg)]
def xcell(c:Ctx):List Value:=[.int .i64 (c.1:Nat),.int .i64 (c.2.1:Nat),.int .i64 (c.2.2.1:Nat),.int .i64 (c.2.2.2:Nat)]
def xcells(l:List Ctx):List Value:=l.flatMap xcell
theorem xcells_length(l:List Ctx):(xcells l).length=l.length*4:=by
 induction l with
 | nil=>rfl
 | cons t l ih=>simp only[xcells,List.flatMap_cons,List.length_append,List.length_cons] at ih ⊢;simp only[xcell,List.length_cons,List.length_nil] at ih ⊢;omega
theorem xcells_get(l:List Ctx)(i:Nat)(t:Ctx)(h:l[i]?=some t):(xcells l)[i*4]?=some (.int .i64 (t.1:Nat))∧(xcells l)[i*4+1]?=some (.int .i64 (t.2.1:Nat))∧(xcells l)[i*4+2]?=some (.int .i64 (t.2.2.1:Nat))∧(xcells l)[i*4+3]?=some (.int .i64 (t.2.2.2:Nat)):=by
 induction l generalizing i with
 | nil=>simp at h
 | cons x l ih =>
  have e:xcells (x::l)=xcell x++xcells l:=by simp[xcells]
  rw[e];cases i with
  | zero =>
   obtain rfl:x=t:=by simpa using h
   simp[xcell]
  | succ i =>
   have:=ih i (by simpa using h);have hl:(xcell x).length=4:=rfl;rw[List.getElem?_append_right (by omega),List.getElem?_append_right (by omega),List.getElem?_append_right (by omega),List.getElem?_append_right (by omega),hl];rw[show(i+1)*4-4=i*4 by omega,show(i+1)*4+1-4=i*4+1 by omega,show(i+1)*4+2-4=i*4+2 by omega,show(i+1)*4+3-4=i*4+3 by omega];exact this
def RdX(w:World)(A:Option Addr)(n c:Nat)(xs:List Ctx):Prop :=
 xs.length=n∧n≤c∧c≤maxLen∧(0<n→∃ b off,A=some ⟨b,off,none⟩∧b<w.heap.size∧∀ i x,xs[i]?=some x →
  w.cell? ⟨b,off+i*4,none⟩=some (.int .i64 (x.1:Nat))∧w.cell? ⟨b,off+i*4+1,none⟩=some (.int .i64 (x.2.1:Nat))∧w.cell? ⟨b,off+i*4+2,none⟩=some (.int .i64 (x.2.2.1:Nat))∧w.cell? ⟨b,off+i*4+3,none⟩=some (.int .i64 (x.2.2.2:Nat)))
section
variable {w w':World}{A:Option Addr}{n c:Nat}{xs:List Ctx}
theorem RdX.grown{row:Option Nat}(h:RdX w A n c xs)(hg:w.grownBy w' row)(hA:∀ b off,A=some ⟨b,off,none⟩→some b≠row):RdX w' A n c xs:=by
 obtain⟨h1,h2,h3,h4⟩:=h;refine⟨h1,h2,h3,fun hn=>?_⟩;obtain⟨b,off,e,hlt,hc⟩:=h4 hn;refine⟨b,off,e,Nat.lt_of_lt_of_le hlt hg.size,fun i x hx=>?_⟩;obtain⟨q1,q2,q3,q4⟩:=hc i x hx;have hb:=hg.block b hlt (hA b off e);exact⟨(World.cell?_of_block hb).trans q1,(World.cell?_of_block hb).trans q2,(World.cell?_of_block hb).trans q3,(World.cell?_of_block hb).trans q4⟩
theorem RdX.on(h:RdX w A n c xs)(hb:Below w.heap.size w w'):RdX w' A n c xs:=h.grown (kgd7 hb none) (fun _ _ _=>by simp)
theorem RdX.at(h:RdX w A n c xs)(k:Nat)(hk:k<xs.length):∃ b off,A=some ⟨b,off,none⟩∧b<w.heap.size ∧
  w.cell? ⟨b,off+k*4,none⟩=some (.int .i64 (xs[k].1:Nat))∧w.cell? ⟨b,off+k*4+1,none⟩=some (.int .i64 (xs[k].2.1:Nat))∧w.cell? ⟨b,off+k*4+2,none⟩=some (.int .i64 (xs[k].2.2.1:Nat))∧w.cell? ⟨b,off+k*4+3,none⟩=some (.int .i64 (xs[k].2.2.2:Nat)):=by
 obtain⟨h1,h2,h3,h4⟩:=h;obtain⟨b,off,e,hlt,hc⟩:=h4 (by omega);exact⟨b,off,e,hlt,hc k _ (List.getElem?_eq_getElem hk)⟩
theorem RdX.own{base:Nat}{e:TypeId}(h:w.ownsRow base e 4 (.slice A n c) n (xcells xs)):RdX w A n c xs:=by
 have hl:=h.1;rw[xcells_length] at hl;have hl2:xs.length=n:=by omega
 rcases h.2 with⟨h1,h2⟩|⟨g,cap,cur,h1,h2,h3,h4,h5,h6,h7⟩
 ·injection h1 with e1 e2 e3;subst e1 e2 e3;exact⟨hl2,Nat.le_refl _,Nat.zero_le _,fun h=>absurd h (by decide)⟩
 ·injection h1 with e1 e2 e3;subst e1 e3;refine⟨hl2,h4,h5,fun hn=>?_⟩;have hcells:=World.ownsRow.cells h (g:=g) rfl;have key:∀ j u,(xcells xs)[j]?=some u→w.cell? ⟨g,j,none⟩=some u:=by
   intro j u hu;have:=hcells j u hu;have e:(⟨g,0,none⟩:Addr).add j=⟨g,j,none⟩:=by
    unfold Addr.add;by_cases hj:j=0<;>simp[hj]
   rwa [e] at this
  refine⟨g,0,rfl,?_,fun i x hx=>?_⟩
  ·rcases Nat.lt_or_ge g w.heap.size with h|h
   ·exact h
   ·rw[Array.getElem?_eq_none h] at h3;cases h3
  ·obtain⟨q1,q2,q3,q4⟩:=xcells_get xs i x hx;rw[show 0+i*4=i*4 by omega];exact⟨key _ _ q1,key _ _ q2,key _ _ q3,key _ _ q4⟩
end
section
variable {P:Program}
theorem kcg7{w:World}(c:Ctx)(e:TypeId){o:Oper}{a:Act}{K:Act→World→Prop}{Q:Exit→Act→World→Prop}{E:Prop}{ops:Array Oper}(hw:Region.wanted o (yielded ops a.tmps)=true)(W:World)(hW:w=W.alloc (.cells (xcell c).toArray e))(s x:Operand)(t:TypeId)
  (ho:o.op=.call { callee:=.builtin .append,args:=#[s,x],argTypes:=#[t,t] })
  (base:Nat) (i:TypeInfo) (z:Value) (bytes:Nat) (ht:P.underlying t=some (.slice e)) (hi:P.info? e=some i) (hz:i.zero=some z)
  (hsize:i.size=4) (hby:i.bytes=bytes) (hzs:z.cells.size=4)
  (v:Value) (n:Nat) (l:List Ctx) (hs:a.eval s=v) (hown:W.ownsRow base e 4 v n (xcells l)) (hx:a.eval x=.slice (some ⟨W.heap.size,0,none⟩) 1 1)
  (h63:n+1≤maxLen) (hbytes:(n+1)*bytes≤140737488355328) (hbase:base≤W.heap.size)
  (h:∀ A' c' w',w'.ownsRow base e 4 (.slice A' (n+1) c') (n+1) (xcells (l++[c]))→W.grownBy w' v.ownBlock→K (a.put o.dst (.slice A' (n+1) c')) w') :
  if Region.wanted o (yielded ops a.tmps)=true then Oper.wp P o a w K Q else E:=by
 rw[if_pos hw];subst hW;have hB:=Blk.new W e (xcell c).toArray;obtain⟨v',w',hrun,h2,h3,h4,h5⟩:=run_append_own_at (P:=P) (W.alloc (.cells (xcell c).toArray e)) base t o.type e i z 4 bytes ht hi hz hsize hby hzs (by decide) v n (xcells l) (hown.alloc _) ⟨W.heap.size,0,none⟩ 1 1 (xcell c) rfl
  (fun j u hj=>by
   have e:(⟨W.heap.size,0,none⟩:Addr).add j=⟨W.heap.size,j,none⟩:=by
    unfold Addr.add;by_cases hj:j=0<;>simp[hj]
   rw[e,hB.cell j];rw[List.getElem?_toArray];exact hj)
  (by intro u hu;simp only[xcell,List.mem_cons,List.not_mem_nil,or_false] at hu;rcases hu with rfl|rfl|rfl|rfl<;>rfl) h63 hbytes (by simp;omega)
 obtain⟨A',c',rfl⟩:=own_shape h2;unfold Oper.wp execOp;simp only[ho,resolve,invoke,builtin,Sem.run_bind,Sem.run_pure,Result.andThen_ok,List.map_toArray,List.map_cons,List.map_nil,hs,hx,hrun];refine h A' c' w' ?_ ?_
 ·have e1:xcells (l++[c])=xcells l++xcell c:=by simp[xcells]
  rw[e1];exact h2
 ·exact⟨h3.os,h3.tape,h3.output,Nat.le_trans (by simp) h3.size,fun k hk hne=>(h3.block k (by simp;omega) hne).trans (Below.heap_alloc W _ k hk)⟩
end
theorem ctx_info:(Tryz.prog.info? 185).map (fun i=>(i.zero,i.size,i.bytes))=some (some (.agg #[.int .i64 0,.int .i64 0,.int .i64 0,.int .i64 0]),4,32):=by kernel_rfl
theorem kbv7{w:World}{base:Nat}{e:TypeId}{size n g:Nat}{v:Value}{xs:List Value}(h:w.ownsRow base e size v n xs)(hg:g<base):some g≠v.ownBlock:=by
 intro he;have:=(h.lt g he.symm).1;omega
theorem contexts_0{w:World}{s b n la be bg:Nat}{f:Ctx→Nat×Nat}(h:Pm w s b n 0 la be bg f) :
  Calls Tryz.prog 128 #[.pointer (some ⟨s,0,none⟩)] w fun e w'=>∃ A c,e=.returned (.slice A 1 c)∧w'.ownsRow w.heap.size 185 4 (.slice A 1 c) 1 (xcells (ctxs 0 la be bg))∧Below w.heap.size w w':=by
 obtain⟨i0,hi,hz0,hz1,hz2⟩:=info_parts ctx_info;have p0:=h.c0;have p2:=h.c2;have p3:=h.c3;have p4:=h.c4;have hA:=h.alloc (.cells #[.int .i64 0,.int .i64 0,.int .i64 0,.int .i64 (bg:Nat)] 185);have q0:=hA.c0;have q2:=hA.c2;have q3:=hA.c3;have q4:=hA.c4;have HO0:(w.alloc (.cells #[.int .i64 0,.int .i64 0,.int .i64 0,.int .i64 (bg:Nat)] 185)).ownsRow w.heap.size 185 4 (.slice (some ⟨w.heap.size,0,none⟩) 1 1) 1 (xcells [(0,0,0,bg)]):=World.ownsRow_lit w #[.int .i64 0,.int .i64 0,.int .i64 0,.int .i64 (bg:Nat)] 1 (Nat.le_refl _) (by simp[maxLen]) rfl;have y0:Below w.heap.size w (w.alloc (.cells #[.int .i64 0,.int .i64 0,.int .i64 0,.int .i64 (bg:Nat)] 185)):=(Below.refl _ _).alloc (Nat.le_refl _) _;have H:=Lib.hid h;have HA:=Lib.hid hA;have HO:=Lib.hid HO0;have hs1:=h.lt;have hs2:=h.ltb;clear h hA HO0
 go_enter Tryz.func128,Tryz.ntmps128
 go_wp2
 go_ret
 exact⟨_,_,rfl,HO.out,y0⟩
theorem contexts_1{w:World}{s b n la be bg:Nat}{f:Ctx→Nat×Nat}(h:Pm w s b n 1 la be bg f) :
  Calls Tryz.prog 128 #[.pointer (some ⟨s,0,none⟩)] w fun e w'=>∃ A c,e=.returned (.slice A 2 c)∧w'.ownsRow w.heap.size 185 4 (.slice A 2 c) 2 (xcells (ctxs 1 la be bg))∧Below w.heap.size w w':=by
 obtain⟨i0,hi,hz0,hz1,hz2⟩:=info_parts ctx_info;have p0:=h.c0;have p2:=h.c2;have p3:=h.c3;have p4:=h.c4;have hA:=h.alloc (.cells #[.int .i64 0,.int .i64 0,.int .i64 0,.int .i64 (bg:Nat)] 185);have q0:=hA.c0;have q2:=hA.c2;have q3:=hA.c3;have q4:=hA.c4;have HO0:(w.alloc (.cells #[.int .i64 0,.int .i64 0,.int .i64 0,.int .i64 (bg:Nat)] 185)).ownsRow w.heap.size 185 4 (.slice (some ⟨w.heap.size,0,none⟩) 1 1) 1 (xcells [(0,0,0,bg)]):=World.ownsRow_lit w #[.int .i64 0,.int .i64 0,.int .i64 0,.int .i64 (bg:Nat)] 1 (Nat.le_refl _) (by simp[maxLen]) rfl;have y0:Below w.heap.size w (w.alloc (.cells #[.int .i64 0,.int .i64 0,.int .i64 0,.int .i64 (bg:Nat)] 185)):=(Below.refl _ _).alloc (Nat.le_refl _) _;have H:=Lib.hid h;have HA:=Lib.hid hA;have HO:=Lib.hid HO0;have hs1:=h.lt;have hs2:=h.ltb;clear h hA HO0
 go_enter Tryz.func128,Tryz.ntmps128
 go_upto_region 3 with(fail)
 generalize (w.alloc (.cells #[.int .i64 0,.int .i64 0,.int .i64 0,.int .i64 (bg:Nat)] 185))=w1 at HO HA q0 q2 q3 q4 y0 ⊢;have ys1:=y0.size
 go_region_held3 (fun w'=>w'.cell? ⟨s,2,none⟩=some (.int .i64 (la:Nat))∧w'.cell? ⟨s,4,none⟩=some (.int .i64 (bg:Nat))) (go_keep) ((refine kcg7 (1,la,0,bg) 185 (by rfl) w1.drew rfl _ _ _ (by rfl) w.heap.size i0 _ 32 Tryz.underlying182 hi hz0 hz1 hz2 (by rfl) _ 1 [(0,0,0,bg)] (by rfl) (kdl7 HO.out) (by rfl) (by simp[maxLen]) (by omega) ys1 ?_;intro A1 c1 v1 ho1 hg1;have Y1:=kaq7 (belowD y0) (kdl7 HO.out) hg1 (Nat.le_refl _) ys1;have HP1:=Lib.hid ((Pm.drew HA.out).grown hg1 (kbv7 HO.out hs1) (kbv7 HO.out hs2));have r10:=HP1.out.c0;have r12:=HP1.out.c2;have r13:=HP1.out.c3;have r14:=HP1.out.c4;have HO1:=Lib.hid ho1;clear ho1 hg1))
 go_wp2
 go_ret
 exact⟨_,_,rfl,HO1.out,Y1⟩
theorem contexts_2{w:World}{s b n la be bg:Nat}{f:Ctx→Nat×Nat}(h:Pm w s b n 2 la be bg f) :
  Calls Tryz.prog 128 #[.pointer (some ⟨s,0,none⟩)] w fun e w'=>∃ A c,e=.returned (.slice A 3 c)∧w'.ownsRow w.heap.size 185 4 (.slice A 3 c) 3 (xcells (ctxs 2 la be bg))∧Below w.heap.size w w':=by
 obtain⟨i0,hi,hz0,hz1,hz2⟩:=info_parts ctx_info;have p0:=h.c0;have p2:=h.c2;have p3:=h.c3;have p4:=h.c4;have hA:=h.alloc (.cells #[.int .i64 0,.int .i64 0,.int .i64 0,.int .i64 (bg:Nat)] 185);have q0:=hA.c0;have q2:=hA.c2;have q3:=hA.c3;have q4:=hA.c4;have HO0:(w.alloc (.cells #[.int .i64 0,.int .i64 0,.int .i64 0,.int .i64 (bg:Nat)] 185)).ownsRow w.heap.size 185 4 (.slice (some ⟨w.heap.size,0,none⟩) 1 1) 1 (xcells [(0,0,0,bg)]):=World.ownsRow_lit w #[.int .i64 0,.int .i64 0,.int .i64 0,.int .i64 (bg:Nat)] 1 (Nat.le_refl _) (by simp[maxLen]) rfl;have y0:Below w.heap.size w (w.alloc (.cells #[.int .i64 0,.int .i64 0,.int .i64 0,.int .i64 (bg:Nat)] 185)):=(Below.refl _ _).alloc (Nat.le_refl _) _;have H:=Lib.hid h;have HA:=Lib.hid hA;have HO:=Lib.hid HO0;have hs1:=h.lt;have hs2:=h.ltb;clear h hA HO0
 go_enter Tryz.func128,Tryz.ntmps128
 go_upto_region 3 with(fail)
 generalize (w.alloc (.cells #[.int .i64 0,.int .i64 0,.int .i64 0,.int .i64 (bg:Nat)] 185))=w1 at HO HA q0 q2 q3 q4 y0 ⊢;have ys1:=y0.size
 go_region_held3 (fun w'=>w'.cell? ⟨s,2,none⟩=some (.int .i64 (la:Nat))∧w'.cell? ⟨s,4,none⟩=some (.int .i64 (bg:Nat))) (go_keep) ((refine kcg7 (1,la,0,bg) 185 (by rfl) w1.drew rfl _ _ _ (by rfl) w.heap.size i0 _ 32 Tryz.underlying182 hi hz0 hz1 hz2 (by rfl) _ 1 [(0,0,0,bg)] (by rfl) (kdl7 HO.out) (by rfl) (by simp[maxLen]) (by omega) ys1 ?_;intro A1 c1 v1 ho1 hg1;have Y1:=kaq7 (belowD y0) (kdl7 HO.out) hg1 (Nat.le_refl _) ys1;have HP1:=Lib.hid ((Pm.drew HA.out).grown hg1 (kbv7 HO.out hs1) (kbv7 HO.out hs2));have r10:=HP1.out.c0;have r12:=HP1.out.c2;have r13:=HP1.out.c3;have r14:=HP1.out.c4;have HO1:=Lib.hid ho1;clear ho1 hg1))
 go_upto_region 5 with(fail)
 have ys2:=Y1.size
 go_region_held3 (fun w'=>w'.cell? ⟨s,2,none⟩=some (.int .i64 (la:Nat))∧w'.cell? ⟨s,3,none⟩=some (.int .i64 (be:Nat))∧w'.cell? ⟨s,4,none⟩=some (.int .i64 (bg:Nat))) (go_keep) ((refine kcg7 (2,la,be,bg) 185 (by rfl) v1.drew rfl _ _ _ (by rfl) w.heap.size i0 _ 32 Tryz.underlying182 hi hz0 hz1 hz2 (by rfl) _ 2 [(0,0,0,bg),(1,la,0,bg)] (by rfl) (kdl7 HO1.out) (by rfl) (by simp[maxLen]) (by omega) ys2 ?_;intro A2 c2 v2 ho2 hg2;have Y2:=kaq7 (belowD Y1) (kdl7 HO1.out) hg2 (Nat.le_refl _) ys2;have HP2:=Lib.hid ((Pm.drew HP1.out).grown hg2 (kbv7 HO1.out hs1) (kbv7 HO1.out hs2));have r20:=HP2.out.c0;have r22:=HP2.out.c2;have r23:=HP2.out.c3;have r24:=HP2.out.c4;have HO2:=Lib.hid ho2;clear ho2 hg2))
 go_wp2
 go_ret
 exact⟨_,_,rfl,HO2.out,Y2⟩
theorem kig7{w:World}{s b n ord la be bg:Nat}{f:Ctx→Nat×Nat}(h:Pm w s b n ord la be bg f)(ho:ord≤2) :
  Calls Tryz.prog 128 #[.pointer (some ⟨s,0,none⟩)] w fun e w'=>∃ A c,e=.returned (.slice A (ord+1) c)∧w'.ownsRow w.heap.size 185 4 (.slice A (ord+1) c) (ord+1) (xcells (ctxs ord la be bg))∧Below w.heap.size w w':=by
 rcases(by omega:ord=0∨ord=1∨ord=2) with rfl|rfl|rfl
 ·exact contexts_0 h
 ·exact contexts_1 h
 ·exact contexts_2 h
theorem ctxs_length(ord la be bg:Nat)(ho:ord≤2):(ctxs ord la be bg).length=ord+1:=by
 rcases(by omega:ord=0∨ord=1∨ord=2) with rfl|rfl|rfl<;>rfl
theorem ctxs_ok{ord la be bg:Nat}(ho:ord≤2)(h1:la<256)(h2:be<256)(h3:bg<256):∀ c∈ctxs ord la be bg,CtxOk c∧c.1≤2:=by
 unfold CtxOk;rcases(by omega:ord=0∨ord=1∨ord=2) with rfl|rfl|rfl<;>intro c hc<;>simp only[ctxs,List.mem_cons,List.not_mem_nil,or_false] at hc
 ·subst hc;dsimp only;omega
 ·rcases hc with rfl|rfl<;>dsimp only<;>omega
 ·rcases hc with rfl|rfl|rfl<;>dsimp only<;>omega
end PB
end
section
open Go.RowKit
attribute [local go_sem ↓] Go.wp_at_zero Go.wp_at_succ
namespace PB
def accf(f:Ctx→Nat×Nat):List Ctx→Nat×Nat→Nat×Nat
 | [],a=>a
 | c::l,a=>accf f l (a.1+wgt (f c) c.1*mshare (f c),a.2+wgt (f c) c.1)
def pvf(f:Ctx→Nat×Nat)(l:List Ctx):Nat:=(accf f l (2048,1)).1 / (accf f l (2048,1)).2
theorem accf_snoc(f:Ctx→Nat×Nat)(c:Ctx):∀ (l:List Ctx) (a:Nat×Nat),accf f (l++[c]) a=((accf f l a).1+wgt (f c) c.1*mshare (f c),(accf f l a).2+wgt (f c) c.1):=by
 intro l
 induction l with
 | nil=>intro a;rfl
 | cons x l ih=>intro a;exact ih _
theorem accf_take{f:Ctx→Nat×Nat}{l:List Ctx}{k:Nat}(hk:k<l.length)(a:Nat×Nat):accf f (l.take (k+1)) a=((accf f (l.take k) a).1+wgt (f l[k]) (l[k]).1*mshare (f l[k]),(accf f (l.take k) a).2+wgt (f l[k]) (l[k]).1):=by
 rw[List.take_succ_eq_append_getElem hk,accf_snoc]
theorem wgt_le(k:Nat×Nat){o:Nat}(h:o≤2):wgt k o≤240:=by
 unfold wgt;rcases(by omega:o=0∨o=1∨o=2) with rfl|rfl|rfl<;>simp<;>omega
theorem predict_any{w:World}{s b n ord la be bg:Nat}{f:Ctx→Nat×Nat}(h:Pm w s b n ord la be bg f)(ho:ord≤2)(h1:la<256)(h2:be<256)(h3:bg<256)(hf:∀ c,(f c).1+(f c).2≤254)(V:Nat)(hV:V=pvf f (ctxs ord la be bg)) :
  Calls Tryz.prog 116 #[.pointer (some ⟨s,0,none⟩)] w fun e w'=>e=.returned (.int .i64 (V:Nat))∧Below w.heap.size w w':=by
 have hL:=ctxs_length ord la be bg ho;have hok:=ctxs_ok (ord:=ord) (la:=la) (be:=be) (bg:=bg) ho h1 h2 h3;obtain⟨l,hl⟩:∃ l,l=ctxs ord la be bg:=⟨_,rfl⟩
 have HC:=Lib.hid (kig7 h ho);rw[←hl] at hL hok HC hV;have HP:=Lib.hid h;have HV:=Lib.hid hV;have HF:=Lib.hid hf;have HOK:=Lib.hid hok;obtain⟨m,hm⟩:∃ m,m=ord+1:=⟨_,rfl⟩
 have hm3:m≤3:=by omega
 rw[←hm] at hL HC;clear h hV hf hok hl ho hm h1 h2 h3
 go_enter Tryz.func116,Tryz.ntmps116
 go_wp2_with fail
 refine HC.out.mono ?_;rintro e w1 ⟨A,c,rfl,ho1,y1⟩;have HX:=Lib.hid (RdX.own ho1);have HP1:=Lib.hid (HP.out.on y1);clear ho1
 go_wp2_with fail
 go_loopw [3,4,14] (fun sv wv i wr=>∃ (k S1 W1:Nat),k≤m∧i=.int .i64 (k:Nat)∧sv=.int .i64 (S1:Nat)∧wv=.int .i64 (W1:Nat)∧accf f (l.take k) (2048,1)=(S1,W1)∧1≤W1∧W1≤1+240*k∧S1≤2048+1000000*k∧Below w1.heap.size w1 wr) (fun _ _ i _=>m-(intOf i).toNat)
 case atStart=>exact⟨0,2048,1,by omega,rfl,rfl,rfl,rfl,by omega,by omega,by omega,Below.refl _ _⟩
 case round =>
  obtain⟨k,S1,W1,hk,rfl,rfl,rfl,hacc,hw1,hw2,hs1,yr⟩:=hrel;have HA:=Lib.hid hacc;clear hacc;by_cases hlt:k<m
  ·obtain⟨g,off,rfl,hg,c0,c1,c2,c3⟩:=(HX.out.on yr).at k (by omega);have HT:=Lib.hid (accf_take (f:=f) (l:=l) (k:=k) (by omega) (2048,1));obtain⟨hcx,hc2⟩:=HOK.out l[k] (List.getElem_mem _);have hcnt:=HF.out l[k];generalize l[k]'(by omega)=cx at c0 c1 c2 c3 HT hcx hc2 hcnt;obtain⟨o,la',be',bg'⟩:=cx;dsimp only at c0 c1 c2 c3 HT hc2 hcnt;have HPr:=Lib.hid (HP1.out.on yr);obtain⟨z,on,hzo⟩:∃ z on,f (o,la',be',bg')=(z,on):=⟨_,_,rfl⟩
   rw[hzo] at HT hcnt;dsimp only at hcnt;have HA1:=HPr.out.alloc (.cells #[.int .i64 (o:Nat),.int .i64 (la':Nat),.int .i64 (be':Nat),.int .i64 (bg':Nat)] 185);have HF1:=Four.new wr 185 (.int .i64 (o:Nat)) (.int .i64 (la':Nat)) (.int .i64 (be':Nat)) (.int .i64 (bg':Nat));have y2:=yr.alloc yr.size (.cells #[.int .i64 (o:Nat),.int .i64 (la':Nat),.int .i64 (be':Nat),.int .i64 (bg':Nat)] 185)
   go_upto_region 5 with(fail)
   generalize wr.alloc (.cells #[.int .i64 (o:Nat),.int .i64 (la':Nat),.int .i64 (be':Nat),.int .i64 (bg':Nat)] 185)=w2 at HA1 HF1 y2 ⊢;have l1:(Instr.lookup 168 (.map (some b)) (.agg #[.int .i64 (o:Nat),.int .i64 (la':Nat),.int .i64 (be':Nat),.int .i64 (bg':Nat)]) false).run Tryz.prog w2.drew=.ok (.agg #[.int .i64 (z:Nat),.int .i64 (on:Nat)]) w2.drew:=by
    have:=HA1.drew.cm.look hcx;rw[hzo] at this;exact this
   have l2:(Instr.lookup 168 (.map (some b)) (.agg #[.int .i64 (o:Nat),.int .i64 (la':Nat),.int .i64 (be':Nat),.int .i64 (bg':Nat)]) false).run Tryz.prog (w2.alloc (.cells #[.int .i64 0,.int .i64 0] 187)).drew=.ok (.agg #[.int .i64 (z:Nat),.int .i64 (on:Nat)]) (w2.alloc (.cells #[.int .i64 0,.int .i64 0] 187)).drew:=by
    have:=(HA1.alloc (.cells #[.int .i64 0,.int .i64 0] 187)).drew.cm.look hcx;rw[hzo] at this;exact this
   have f0:=HF1.c0;have f1:=HF1.c1;have f2:=HF1.c2;have f3:=HF1.c3;have t1:=HA1.c1;clear c0 c1 c2 c3;apply share
   ·intro key
    go_region_held3 (fun w'=>w'.cell? ⟨wr.heap.size,0,none⟩=some (.int .i64 (o:Nat))∧w'.cell? ⟨wr.heap.size,1,none⟩=some (.int .i64 (la':Nat))∧w'.cell? ⟨wr.heap.size,2,none⟩=some (.int .i64 (be':Nat))∧w'.cell? ⟨wr.heap.size,3,none⟩=some (.int .i64 (bg':Nat))∧w'.cell? ⟨s,1,none⟩=some (.map (some b))) (go_keep) (fail)
    all_goals (try simp only[Act.put,List.setIfInBounds_toArray,List.set_cons_zero,List.set_cons_succ])
    all_goals exact key
   have HK3:=Two.new w2 187 (.int .i64 (z:Nat)) (.int .i64 (on:Nat));have HF3:=(HF1.alloc (.cells #[.int .i64 (z:Nat),.int .i64 (on:Nat)] 187)).drew;have y3:=belowD (y2.alloc y2.size (.cells #[.int .i64 (z:Nat),.int .i64 (on:Nat)] 187));have HK4:=HK3.drew;clear HK3 HF1 y2 l1 l2 f0 f1 f2 f3 t1 HA1;generalize (w2.alloc (.cells #[.int .i64 (z:Nat),.int .i64 (on:Nat)] 187)).drew=w3 at HK4 HF3 y3 ⊢;have k0:=HK4.c0;have k1:=HK4.c1;have k2:=HF3.c0;by_cases hz0:z=0∧on=0
   ·obtain⟨rfl,rfl⟩:=hz0;have k0':w3.cell? ⟨w2.heap.size,0,none⟩=some (.int .i64 0):=k0;have k1':w3.cell? ⟨w2.heap.size,1,none⟩=some (.int .i64 0):=k1;clear k0 k1
    go_wp2
    go_roundw
    case rel =>
     have hT:=HT.out;have e0:wgt (0,0) o=0:=by simp[wgt]
     rw[e0,HA.out] at hT;dsimp only at hT;rw[Nat.zero_mul] at hT;exact⟨k+1,S1,W1,by omega,by go_num,rfl,rfl,hT,by omega,by omega,by omega,y3⟩
    case measure=>simp[intOf]<;>omega
   ·rcases(by omega:z≠0∨(z=0∧on≠0)) with hz|⟨hz,hz'⟩
    ·have hd:¬(z:Int)=0:=by omega
     clear hz0 hz;have hsh:(2*(on:Int)+1)*2048 / (((z:Int)+(on:Int))+1)=((mshare (z,on):Nat):Int):=by
      unfold mshare;simp
     have HSH:=Lib.hid hsh;obtain⟨hsh1,hsh2⟩:=mshare_in (k:=(z,on)) hcnt;obtain⟨ww,hww⟩:∃ ww,ww=wgt (z,on) o:=⟨_,rfl⟩
     have hww2:ww≤240:=by rw[hww];exact wgt_le _ hc2
     rw[←hww] at HT;clear hsh
     go_upto_region 9 with(fail)
     rw[HSH.out];clear HSH;generalize mshare (z,on)=sh at *;have HO2:=Lib.hid (show((z:Int)+(on:Int))=((z+on:Nat):Int) by omega);rw[HO2.out];clear HO2;obtain⟨nn,hnn⟩:∃ nn,nn=z+on:=⟨_,rfl⟩
     rw[←hnn] at hcnt ⊢;have HWW:=Lib.hid (show ww=min nn 15*4 ^ o by rw[hww,hnn];rfl);clear hnn hww;have hsw:ww*sh≤240*4087:=Nat.mul_le_mul hww2 hsh2;have hsw1:(ww:Int)*(sh:Int)=((ww*sh:Nat):Int):=by push_cast;rfl
     obtain⟨ws,hws⟩:∃ ws,ws=ww*sh:=⟨_,rfl⟩
     rw[←hws] at hsw hsw1 HT;have HSW:=Lib.hid hsw1;clear hsw1 hws;rcases(by omega:o=0∨o=1∨o=2) with e|e|e
     ·have k3:w3.cell? ⟨wr.heap.size,0,none⟩=some (.int .i64 0):=by rw[k2,e];rfl
      clear k2;have HI:=Lib.hid (show(if (15:Int)<(nn:Int) then(15:Int) else(nn:Int))=((ww:Nat):Int) by rw[HWW.out,e];split<;>omega);have HI2:=Lib.hid (show min (nn:Int) 15=((ww:Nat):Int) by rw[HWW.out,e];simp only[Int.min_def];split<;>omega);clear e
      go_upto_region 10 with(fail)
      first
       | rw[HI.out]
       | rw[HI2.out]
      clear HI HI2;have hm1:IntKind.i64.wrap ((ww:Int)*(sh:Int))=(ws:Int):=by rw[HSW.out];exact IntWalk.i64_in _ (by omega)
      go_wp2
      go_roundw
      case rel=>exact⟨k+1,S1+ws,W1+ww,by omega,by go_num,by go_num,by go_num,by rw[HT.out,HA.out],by omega,by omega,by omega,y3⟩
      case measure=>simp[intOf]<;>omega
     ·have k3:w3.cell? ⟨wr.heap.size,0,none⟩=some (.int .i64 1):=by rw[k2,e];rfl
      clear k2;have HI:=Lib.hid (show(if (15:Int)<(nn:Int) then(15:Int) else(nn:Int))*4=((ww:Nat):Int) by rw[HWW.out,e];split<;>omega);have HI2:=Lib.hid (show min (nn:Int) 15*4=((ww:Nat):Int) by rw[HWW.out,e];simp only[Int.min_def];split<;>omega);clear e
      go_upto_region 10 with(fail)
      first
       | rw[HI.out]
       | rw[HI2.out]
      clear HI HI2;have hm1:IntKind.i64.wrap ((ww:Int)*(sh:Int))=(ws:Int):=by rw[HSW.out];exact IntWalk.i64_in _ (by omega)
      go_wp2
      go_roundw
      case rel=>exact⟨k+1,S1+ws,W1+ww,by omega,by go_num,by go_num,by go_num,by rw[HT.out,HA.out],by omega,by omega,by omega,y3⟩
      case measure=>simp[intOf]<;>omega
     ·have k3:w3.cell? ⟨wr.heap.size,0,none⟩=some (.int .i64 2):=by rw[k2,e];rfl
      clear k2;have HI:=Lib.hid (show(if (15:Int)<(nn:Int) then(15:Int) else(nn:Int))*16=((ww:Nat):Int) by rw[HWW.out,e];split<;>omega);have HI2:=Lib.hid (show min (nn:Int) 15*16=((ww:Nat):Int) by rw[HWW.out,e];simp only[Int.min_def];split<;>omega);clear e
      go_upto_region 10 with(fail)
      first
       | rw[HI.out]
       | rw[HI2.out]
      clear HI HI2;have hm1:IntKind.i64.wrap ((ww:Int)*(sh:Int))=(ws:Int):=by rw[HSW.out];exact IntWalk.i64_in _ (by omega)
      go_wp2
      go_roundw
      case rel=>exact⟨k+1,S1+ws,W1+ww,by omega,by go_num,by go_num,by go_num,by rw[HT.out,HA.out],by omega,by omega,by omega,y3⟩
      case measure=>simp[intOf]<;>omega
    ·subst hz;have hd:¬(on:Int)=0:=by omega
     clear hz0 hz';have hsh:(2*(on:Int)+1)*2048 / ((on:Int)+1)=((mshare (0,on):Nat):Int):=by
      unfold mshare;simp
     have HSH:=Lib.hid hsh;obtain⟨hsh1,hsh2⟩:=mshare_in (k:=(0,on)) hcnt;obtain⟨ww,hww⟩:∃ ww,ww=wgt (0,on) o:=⟨_,rfl⟩
     have hww2:ww≤240:=by rw[hww];exact wgt_le _ hc2
     rw[←hww] at HT;clear hsh
     go_upto_region 9 with(fail)
     rw[HSH.out];clear HSH;generalize mshare (0,on)=sh at *;have HO2:=Lib.hid (show(on:Int)=((0+on:Nat):Int) by omega);rw[HO2.out];clear HO2;obtain⟨nn,hnn⟩:∃ nn,nn=0+on:=⟨_,rfl⟩
     rw[←hnn] at hcnt ⊢;have HWW:=Lib.hid (show ww=min nn 15*4 ^ o by rw[hww,hnn];rfl);clear hnn hww;have hsw:ww*sh≤240*4087:=Nat.mul_le_mul hww2 hsh2;have hsw1:(ww:Int)*(sh:Int)=((ww*sh:Nat):Int):=by push_cast;rfl
     obtain⟨ws,hws⟩:∃ ws,ws=ww*sh:=⟨_,rfl⟩
     rw[←hws] at hsw hsw1 HT;have HSW:=Lib.hid hsw1;clear hsw1 hws;rcases(by omega:o=0∨o=1∨o=2) with e|e|e
     ·have k3:w3.cell? ⟨wr.heap.size,0,none⟩=some (.int .i64 0):=by rw[k2,e];rfl
      clear k2;have HI:=Lib.hid (show(if (15:Int)<(nn:Int) then(15:Int) else(nn:Int))=((ww:Nat):Int) by rw[HWW.out,e];split<;>omega);have HI2:=Lib.hid (show min (nn:Int) 15=((ww:Nat):Int) by rw[HWW.out,e];simp only[Int.min_def];split<;>omega);clear e
      go_upto_region 10 with(fail)
      first
       | rw[HI.out]
       | rw[HI2.out]
      clear HI HI2;have hm1:IntKind.i64.wrap ((ww:Int)*(sh:Int))=(ws:Int):=by rw[HSW.out];exact IntWalk.i64_in _ (by omega)
      go_wp2
      go_roundw
      case rel=>exact⟨k+1,S1+ws,W1+ww,by omega,by go_num,by go_num,by go_num,by rw[HT.out,HA.out],by omega,by omega,by omega,y3⟩
      case measure=>simp[intOf]<;>omega
     ·have k3:w3.cell? ⟨wr.heap.size,0,none⟩=some (.int .i64 1):=by rw[k2,e];rfl
      clear k2;have HI:=Lib.hid (show(if (15:Int)<(nn:Int) then(15:Int) else(nn:Int))*4=((ww:Nat):Int) by rw[HWW.out,e];split<;>omega);have HI2:=Lib.hid (show min (nn:Int) 15*4=((ww:Nat):Int) by rw[HWW.out,e];simp only[Int.min_def];split<;>omega);clear e
      go_upto_region 10 with(fail)
      first
       | rw[HI.out]
       | rw[HI2.out]
      clear HI HI2;have hm1:IntKind.i64.wrap ((ww:Int)*(sh:Int))=(ws:Int):=by rw[HSW.out];exact IntWalk.i64_in _ (by omega)
      go_wp2
      go_roundw
      case rel=>exact⟨k+1,S1+ws,W1+ww,by omega,by go_num,by go_num,by go_num,by rw[HT.out,HA.out],by omega,by omega,by omega,y3⟩
      case measure=>simp[intOf]<;>omega
     ·have k3:w3.cell? ⟨wr.heap.size,0,none⟩=some (.int .i64 2):=by rw[k2,e];rfl
      clear k2;have HI:=Lib.hid (show(if (15:Int)<(nn:Int) then(15:Int) else(nn:Int))*16=((ww:Nat):Int) by rw[HWW.out,e];split<;>omega);have HI2:=Lib.hid (show min (nn:Int) 15*16=((ww:Nat):Int) by rw[HWW.out,e];simp only[Int.min_def];split<;>omega);clear e
      go_upto_region 10 with(fail)
      first
       | rw[HI.out]
       | rw[HI2.out]
      clear HI HI2;have hm1:IntKind.i64.wrap ((ww:Int)*(sh:Int))=(ws:Int):=by rw[HSW.out];exact IntWalk.i64_in _ (by omega)
      go_wp2
      go_roundw
      case rel=>exact⟨k+1,S1+ws,W1+ww,by omega,by go_num,by go_num,by go_num,by rw[HT.out,HA.out],by omega,by omega,by omega,y3⟩
      case measure=>simp[intOf]<;>omega
  ·obtain rfl:k=m:=by omega
   have hend:S1 / W1=V:=by
    have e:=HA.out;rw[←hL,List.take_length] at e;rw[HV.out];unfold pvf;rw[e]
   have hle:S1 / W1≤S1:=Nat.div_le_self _ _;have HE:=Lib.hid (show wrap64 ((S1:Int) / (W1:Int))=((V:Nat):Int) by
    have e1:(S1:Int) / (W1:Int)=((S1 / W1:Nat):Int):=rfl;rw[e1,←hend];generalize S1 / W1=q at hle;exact IntWalk.wrap64_in _ (by omega))
   clear hend hle
   go_wp2
   rw[HE.out]
   go_ret
   exact⟨rfl,y1.trans (yr.mono y1.size)⟩
structure But2(s b:Nat)(w w':World):Prop where
 os:w'.os=w.os
 tape:w'.tape=w.tape
 output:w'.output=w.output
 size:w.heap.size≤w'.heap.size
 block:∀ k,k<w.heap.size→k≠s→k≠b→w'.heap[k]?=w.heap[k]?
section
variable {s b:Nat}{w w' w'':World}
theorem But2.refl(s b:Nat)(w:World):But2 s b w w:=⟨rfl,rfl,rfl,Nat.le_refl _,fun _ _ _ _=>rfl⟩
theorem But2.trans(h:But2 s b w w')(k:But2 s b w' w''):But2 s b w w'' :=
 ⟨k.os.trans h.os,k.tape.trans h.tape,k.output.trans h.output,Nat.le_trans h.size k.size,fun i h1 h2 h3=>(k.block i (Nat.lt_of_lt_of_le h1 h.size) h2 h3).trans (h.block i h1 h2 h3)⟩
theorem But2.of_below(h:Below w.heap.size w w')(s b:Nat):But2 s b w w':=⟨h.os,h.tape,h.output,h.size,fun i h1 _ _=>h.block i h1⟩
theorem But2.of_grown(h:w.grownBy w' (some b))(s:Nat):But2 s b w w':=⟨h.os,h.tape,h.output,h.size,fun i h1 _ h3=>h.block i h1 (by simpa using h3)⟩
theorem But2.drew(h:But2 s b w w'):But2 s b w w'.drew:=⟨h.os,h.tape,h.output,h.size,h.block⟩
theorem But2.set_(h:But2 s b w w')(i:Nat)(u:Value):But2 s b w (w'.setCell ⟨s,i,none⟩ u) :=
 ⟨h.os,h.tape,h.output,by simpa [World.setCell] using h.size,fun k h1 h2 h3=>(Below.heap_setCell w' ⟨s,i,none⟩ u k h2).trans (h.block k h1 h2 h3)⟩
theorem Blk.but2{g:Nat}{t:TypeId}{cs:Array Value}(h:Blk w g t cs)(hb:But2 s b w w')(h1:g≠s)(h2:g≠b):Blk w' g t cs:=(hb.block g h.lt h1 h2).trans h
theorem But2.below{B:Nat}(h:But2 s b w w')(h1:B≤s)(h2:B≤b)(hB:B≤w.heap.size):Below B w w':=⟨h.os,h.tape,h.output,h.size,fun k hk=>h.block k (by omega) (by omega) (by omega)⟩
end
def fupd(f:Ctx→Nat×Nat)(l:List Ctx)(bit:Nat):Ctx→Nat×Nat :=
 l.foldl (fun g c=>fset g c (upd (g c) bit)) f
theorem fupd_take{f:Ctx→Nat×Nat}{l:List Ctx}{bit k:Nat}(hk:k<l.length):fupd f (l.take (k+1)) bit=fset (fupd f (l.take k) bit) l[k] (upd (fupd f (l.take k) bit l[k]) bit):=by
 unfold fupd;rw[List.take_succ_eq_append_getElem hk,List.foldl_append];rfl
theorem fset_le{f:Ctx→Nat×Nat}(h:∀ c,(f c).1+(f c).2≤254)(c:Ctx)(bit:Nat):∀ c',(fset f c (upd (f c) bit) c').1+(fset f c (upd (f c) bit) c').2≤254:=by
 intro c';unfold fset
 split
 ·exact upd_le (h c) bit
 ·exact h c'
theorem fupd_le{f:Ctx→Nat×Nat}(h:∀ c,(f c).1+(f c).2≤254)(l:List Ctx)(bit:Nat):∀ c',(fupd f l bit c').1+(fupd f l bit c').2≤254:=by
 induction l generalizing f with
 | nil=>exact h
 | cons c l ih=>exact ih (fset_le h c bit)
theorem update_any{w:World}{s b n ord la be bg bit:Nat}{f:Ctx→Nat×Nat}(h:Pm w s b n ord la be bg f)(ho:ord≤2)(h1:la<32)(h2:be<32)(h3:bg<256)(hb:bit≤1)(hf:∀ c,(f c).1+(f c).2≤254)(hn:n+3<1000000)(LA BE BG:Nat)
  (hnew:(2*bg+bit<256∧LA=la∧BE=be∧BG=2*bg+bit)∨(256≤2*bg+bit∧LA=(2*bg+bit) % 32∧BE=la∧BG=1)) (bi:Int) (hbi:bi=(bit:Nat)) :
  Calls Tryz.prog 117 #[.pointer (some ⟨s,0,none⟩),.int .i64 bi] w fun e w'=>e=.returned (.tuple #[])∧Pm w' s b (n+(ord+1)) ord LA BE BG (fupd f (ctxs ord la be bg) bit)∧But2 s b w w':=by
 have hL:=ctxs_length ord la be bg ho;have hok:=ctxs_ok (ord:=ord) (la:=la) (be:=be) (bg:=bg) ho (by omega) (by omega) h3;obtain⟨l,hl⟩:∃ l,l=ctxs ord la be bg:=⟨_,rfl⟩
 have HC:=Lib.hid (kig7 h ho);rw[←hl] at hL hok HC ⊢;have HP:=Lib.hid h;have HF:=Lib.hid hf;have HOK:=Lib.hid hok;have hls:=h.lt;have hlb:=h.ltb;have HNE:=Lib.hid h.ne;obtain⟨m,hm⟩:∃ m,m=ord+1:=⟨_,rfl⟩
 have hm3:m≤3:=by omega
 rw[←hm] at hL HC ⊢;have HNEW:=Lib.hid hnew;have HBI:=Lib.hid hbi;have hbi1:0≤bi∧bi≤1:=by omega
 obtain⟨hbi1,hbi2⟩:=hbi1;clear h hf hok hl ho hm h1 h2 hnew hbi
 go_enter Tryz.func117,Tryz.ntmps117
 go_wp2_with fail
 refine HC.out.mono ?_;rintro e w1 ⟨A,c,rfl,ho1,y1⟩;have HX:=Lib.hid (RdX.own ho1);have HXB:=Lib.hid (kbv7 ho1 hlb);have HP1:=Lib.hid (HP.out.on y1);clear ho1
 go_wp2_with fail
 go_loopw [10] (fun i wr=>∃ k:Nat,k≤m∧i=.int .i64 (k:Nat)∧Pm wr s b (n+k) ord la be bg (fupd f (l.take k) bit)∧w1.grownBy wr (some b)) (fun i _=>m-(intOf i).toNat)
 case atStart=>exact⟨0,by omega,rfl,HP1.out,World.grownBy.refl _ _⟩
 case round =>
  obtain⟨k,hk,rfl,hpr,yr⟩:=hrel;have HPR:=Lib.hid hpr;have YR:=Lib.hid yr;clear hpr yr;by_cases hlt:k<m
  ·have HXr:=Lib.hid (RdX.grown HX.out YR.out (by intro b0 off0 e0 e1;have:=HXB.out;rw[e0] at this;exact this e1.symm));obtain⟨g,off,rfl,hg,c0,c1,c2,c3⟩:=HXr.out.at k (by omega);have HT:=Lib.hid (fupd_take (f:=f) (l:=l) (bit:=bit) (k:=k) (by omega));obtain⟨hcx,hc2⟩:=HOK.out l[k] (List.getElem_mem _);have hcnt:=fupd_le HF.out (l.take k) bit l[k];generalize l[k]'(by omega)=cx at c0 c1 c2 c3 HT hcx hc2 hcnt;obtain⟨o,la',be',bg'⟩:=cx;dsimp only at c0 c1 c2 c3 HT hc2 hcnt;obtain⟨z,on,hzo⟩:∃ z on,fupd f (l.take k) bit (o,la',be',bg')=(z,on):=⟨_,_,rfl⟩
   rw[hzo] at HT hcnt;dsimp only at hcnt;have HA1:=HPR.out.alloc (.cells #[.int .i64 (o:Nat),.int .i64 (la':Nat),.int .i64 (be':Nat),.int .i64 (bg':Nat)] 185);have HF1:=Four.new wr 185 (.int .i64 (o:Nat)) (.int .i64 (la':Nat)) (.int .i64 (be':Nat)) (.int .i64 (bg':Nat));have y2:=kbq7 YR.out (.cells #[.int .i64 (o:Nat),.int .i64 (la':Nat),.int .i64 (be':Nat),.int .i64 (bg':Nat)] 185);have yrs:=YR.out.size
   go_upto_region 3 with(fail)
   have hs2:wr.heap.size<(wr.alloc (.cells #[.int .i64 (o:Nat),.int .i64 (la':Nat),.int .i64 (be':Nat),.int .i64 (bg':Nat)] 185)).heap.size:=by simp
   generalize wr.alloc (.cells #[.int .i64 (o:Nat),.int .i64 (la':Nat),.int .i64 (be':Nat),.int .i64 (bg':Nat)] 185)=w2 at HA1 HF1 y2 hs2 ⊢;have l1:(Instr.lookup 168 (.map (some b)) (.agg #[.int .i64 (o:Nat),.int .i64 (la':Nat),.int .i64 (be':Nat),.int .i64 (bg':Nat)]) false).run Tryz.prog w2.drew=.ok (.agg #[.int .i64 (z:Nat),.int .i64 (on:Nat)]) w2.drew:=by
    have:=HA1.drew.cm.look hcx;rw[hzo] at this;exact this
   have l2:(Instr.lookup 168 (.map (some b)) (.agg #[.int .i64 (o:Nat),.int .i64 (la':Nat),.int .i64 (be':Nat),.int .i64 (bg':Nat)]) false).run Tryz.prog (w2.alloc (.cells #[.int .i64 0,.int .i64 0] 187)).drew=.ok (.agg #[.int .i64 (z:Nat),.int .i64 (on:Nat)]) (w2.alloc (.cells #[.int .i64 0,.int .i64 0] 187)).drew:=by
    have:=(HA1.alloc (.cells #[.int .i64 0,.int .i64 0] 187)).drew.cm.look hcx;rw[hzo] at this;exact this
   have f0:=HF1.c0;have f1:=HF1.c1;have f2:=HF1.c2;have f3:=HF1.c3;have t1:=HA1.c1;clear c0 c1 c2 c3;apply share
   ·intro key
    go_region_held3 (fun w'=>w'.cell? ⟨wr.heap.size,0,none⟩=some (.int .i64 (o:Nat))∧w'.cell? ⟨wr.heap.size,1,none⟩=some (.int .i64 (la':Nat))∧w'.cell? ⟨wr.heap.size,2,none⟩=some (.int .i64 (be':Nat))∧w'.cell? ⟨wr.heap.size,3,none⟩=some (.int .i64 (bg':Nat))∧w'.cell? ⟨s,1,none⟩=some (.map (some b))) (go_keep) (fail)
    all_goals (try simp only[Act.put,List.setIfInBounds_toArray,List.set_cons_zero,List.set_cons_succ])
    all_goals exact key
   have HK4:=(Two.new w2 187 (.int .i64 (z:Nat)) (.int .i64 (on:Nat))).drew;have HF3:=(HF1.alloc (.cells #[.int .i64 (z:Nat),.int .i64 (on:Nat)] 187)).drew;have HA3:=(HA1.alloc (.cells #[.int .i64 (z:Nat),.int .i64 (on:Nat)] 187)).drew;have y3:=kcr7 (kbq7 y2 (.cells #[.int .i64 (z:Nat),.int .i64 (on:Nat)] 187));have y2s:=y2.size;clear HF1 y2 l1 l2 f0 f1 f2 f3 t1 HA1;obtain⟨kb,hkb⟩:∃ kb,kb=w2.heap.size:=⟨_,rfl⟩
   obtain⟨cb,hcb⟩:∃ cb,cb=wr.heap.size:=⟨_,rfl⟩
   rw[←hkb] at HK4 ⊢;rw[←hcb] at HF3 ⊢;have nb1:w1.heap.size≤kb:=by omega
   have y1s:=y1.size;have nb2:b≠kb:=by omega
   have nb3:s≠kb:=by omega
   have nb4:cb≠kb:=by omega
   generalize (w2.alloc (.cells #[.int .i64 (z:Nat),.int .i64 (on:Nat)] 187)).drew=w3 at HK4 HF3 HA3 y3 ⊢;clear hkb hcb hs2 yrs y2s;have k0:=HK4.c0;have k1:=HK4.c1;have k2:=HK4.f0;have k3:=HK4.f1;rcases(by omega:bit=1∨bit=0) with hbit|hbit
   ·have hbb:bi=1:=by have:=HBI.out;omega
    subst hbb
    go_upto_region 7 with(fail)
    have HK5:=HK4.set1 (.int .i64 ((on:Int)+1));have HF5:=HF3.far (p:=⟨kb,1,none⟩) nb4 (.int .i64 ((on:Int)+1));have HA5:=HA3.far (p:=⟨kb,1,none⟩) nb3 nb2 (.int .i64 ((on:Int)+1));have y5:=kv7 y3 (p:=⟨kb,1,none⟩) (.inr nb1) (.int .i64 ((on:Int)+1));generalize w3.setCell ⟨kb,1,none⟩ (.int .i64 ((on:Int)+1))=w5 at HK5 HF5 HA5 y5 ⊢;clear k0 k1 k2 k3 HK4 HF3 HA3 y3;have k0:=HK5.c0;have k1:=HK5.c1;have k2:=HK5.f0;have k3:=HK5.f1;by_cases hal:255≤z+on+1
    ·have HU:=Lib.hid (show upd (z,on) bit=((z+1) / 2,(on+1+1) / 2) by subst hbit;unfold upd halve;simp only[if_pos rfl,];first|rw[if_pos (by omega)]|simp;omega);obtain⟨z2,hz2⟩:∃ z2,z2=(z+1) / 2:=⟨_,rfl⟩
     obtain⟨o2,ho2⟩:∃ o2,o2=(on+1+1) / 2:=⟨_,rfl⟩
     have q1:((z:Int)+1) / 2=((z2:Nat):Int):=by omega
     have q2:(((on:Int)+1)+1) / 2=((o2:Nat):Int):=by omega
     have HU2:=Lib.hid (show upd (z,on) bit=(z2,o2) by rw[HU.out,hz2,ho2]);have Q1:=Lib.hid q1;have Q2:=Lib.hid q2;clear hz2 ho2 q1 q2 HU
     go_upto_region 9 with(fail)
     rw[Q1.out,Q2.out];clear Q1 Q2;have HK6:=(HK5.set0 (.int .i64 (z2:Nat))).set1 (.int .i64 (o2:Nat));have HF6:=(HF5.far (p:=⟨kb,0,none⟩) nb4 (.int .i64 (z2:Nat))).far (p:=⟨kb,1,none⟩) nb4 (.int .i64 (o2:Nat));have HA6:=(HA5.far (p:=⟨kb,0,none⟩) nb3 nb2 (.int .i64 (z2:Nat))).far (p:=⟨kb,1,none⟩) nb3 nb2 (.int .i64 (o2:Nat));have y6:=kv7 (kv7 y5 (p:=⟨kb,0,none⟩) (.inr nb1) (.int .i64 (z2:Nat))) (p:=⟨kb,1,none⟩) (.inr nb1) (.int .i64 (o2:Nat));generalize (w5.setCell ⟨kb,0,none⟩ (.int .i64 (z2:Nat))).setCell ⟨kb,1,none⟩ (.int .i64 (o2:Nat))=w6 at HK6 HF6 HA6 y6 ⊢;clear k0 k1 k2 k3 HK5 HF5 HA5 y5;obtain⟨w7,hrun,hcm7,hg7⟩:=HA6.drew.cm.store hcx (by unfold maxLen;omega) (z2,o2);have hrun':(Instr.mapUpdate 168 (.map (some b)) (.agg #[.int .i64 (o:Nat),.int .i64 (la':Nat),.int .i64 (be':Nat),.int .i64 (bg':Nat)]) (.agg #[.int .i64 (z2:Nat),.int .i64 (o2:Nat)])).run Tryz.prog w6.drew=.ok () w7:=hrun;clear hrun;have HG7:=Lib.hid hg7;have bl7:Blk w7 s 170 #[.int .i64 (ord:Nat),.map (some b),.int .i64 (la:Nat),.int .i64 (be:Nat),.int .i64 (bg:Nat)]:=Blk.grown HA6.drew.blk hg7 (by simpa using Ne.symm HNE.out);have HA7:=Lib.hid (show Pm w7 s b (n+(k+1)) ord la be bg (fupd f (l.take (k+1)) bit) from⟨bl7,by rw[HT.out,HU2.out];exact hcm7⟩);have nb6:b≠cb:=HA6.cm.ne HF6;have HF7:=HF6.drew.grown hg7 (by simpa using Ne.symm nb6);have HK7:=Two.grown HK6.drew hg7 (by simpa using Ne.symm nb2)
     have y7:=kdj7 (kcr7 y6) hg7 (.inl rfl);clear hcm7 hg7;have f0:=HF6.c0;have g0:=HF7.c0;have f1:=HF6.c1;have g1:=HF7.c1;have f2:=HF6.c2;have g2:=HF7.c2;have f3:=HF6.c3;have g3:=HF7.c3;have k0:=HK6.c0;have j0:=HK7.c0;have k1:=HK6.c1;have j1:=HK7.c1;have t1:=HA6.c1;have u1:=HA7.out.c1
     go_region_held3 (fun w'=>w'.cell? ⟨cb,0,none⟩=some (.int .i64 (o:Nat))∧w'.cell? ⟨cb,1,none⟩=some (.int .i64 (la':Nat))∧w'.cell? ⟨cb,2,none⟩=some (.int .i64 (be':Nat))∧w'.cell? ⟨cb,3,none⟩=some (.int .i64 (bg':Nat))∧w'.cell? ⟨kb,0,none⟩=some (.int .i64 (z2:Nat))∧w'.cell? ⟨kb,1,none⟩=some (.int .i64 (o2:Nat))∧w'.cell? ⟨s,1,none⟩=some (.map (some b))) (go_keep) (fail)
     clear f0 g0 f1 g1 f2 g2 f3 g3 k0 j0 k1 j1 t1 u1 HK6 HF6 HA6 y6 HK7 HF7 bl7 hrun'
     go_wp2
     go_roundw
     case rel=>exact⟨k+1,by omega,by go_num,HA7.out,y7⟩
     case measure=>simp[intOf]<;>omega
    ·have HU:=Lib.hid (show upd (z,on) bit=(z,on+1) by subst hbit;unfold upd halve;simp only[if_pos rfl,];first|rw[if_neg (by omega)]|simp;omega);obtain⟨z2,hz2⟩:∃ z2,z2=z:=⟨_,rfl⟩
     obtain⟨o2,ho2⟩:∃ o2,o2=on+1:=⟨_,rfl⟩
     have q1:(z:Int)=((z2:Nat):Int):=by omega
     have q2:((on:Int)+1)=((o2:Nat):Int):=by omega
     have HU2:=Lib.hid (show upd (z,on) bit=(z2,o2) by rw[HU.out,hz2,ho2]);have Q1:=Lib.hid q1;have Q2:=Lib.hid q2;clear hz2 ho2 q1 q2 HU
     go_upto_region 9 with(fail)
     rw[Q1.out,Q2.out] at HK5;clear k0 k1 k2 k3 Q1 Q2;have HK6:=HK5;have HF6:=HF5;have HA6:=HA5;have y6:=y5;clear HK5 HF5 HA5 y5;generalize w5=w6 at HK6 HF6 HA6 y6 ⊢;obtain⟨w7,hrun,hcm7,hg7⟩:=HA6.drew.cm.store hcx (by unfold maxLen;omega) (z2,o2);have hrun':(Instr.mapUpdate 168 (.map (some b)) (.agg #[.int .i64 (o:Nat),.int .i64 (la':Nat),.int .i64 (be':Nat),.int .i64 (bg':Nat)]) (.agg #[.int .i64 (z2:Nat),.int .i64 (o2:Nat)])).run Tryz.prog w6.drew=.ok () w7:=hrun;clear hrun;have HG7:=Lib.hid hg7;have bl7:Blk w7 s 170 #[.int .i64 (ord:Nat),.map (some b),.int .i64 (la:Nat),.int .i64 (be:Nat),.int .i64 (bg:Nat)]:=Blk.grown HA6.drew.blk hg7 (by simpa using Ne.symm HNE.out);have HA7:=Lib.hid (show Pm w7 s b (n+(k+1)) ord la be bg (fupd f (l.take (k+1)) bit) from⟨bl7,by rw[HT.out,HU2.out];exact hcm7⟩);have nb6:b≠cb:=HA6.cm.ne HF6;have HF7:=HF6.drew.grown hg7 (by simpa using Ne.symm nb6);have HK7:=Two.grown HK6.drew hg7 (by simpa using Ne.symm nb2);have y7:=kdj7 (kcr7 y6) hg7 (.inl rfl);clear hcm7 hg7;have f0:=HF6.c0;have g0:=HF7.c0;have f1:=HF6.c1;have g1:=HF7.c1;have f2:=HF6.c2;have g2:=HF7.c2;have f3:=HF6.c3;have g3:=HF7.c3;have k0:=HK6.c0;have j0:=HK7.c0;have k1:=HK6.c1;have j1:=HK7.c1;have t1:=HA6.c1;have u1:=HA7.out.c1
     go_region_held3 (fun w'=>w'.cell? ⟨cb,0,none⟩=some (.int .i64 (o:Nat))∧w'.cell? ⟨cb,1,none⟩=some (.int .i64 (la':Nat))∧w'.cell? ⟨cb,2,none⟩=some (.int .i64 (be':Nat))∧w'.cell? ⟨cb,3,none⟩=some (.int .i64 (bg':Nat))∧w'.cell? ⟨kb,0,none⟩=some (.int .i64 (z2:Nat))∧w'.cell? ⟨kb,1,none⟩=some (.int .i64 (o2:Nat))∧w'.cell? ⟨s,1,none⟩=some (.map (some b))) (go_keep) (fail)
     clear f0 g0 f1 g1 f2 g2 f3 g3 k0 j0 k1 j1 t1 u1 HK6 HF6 HA6 y6 HK7 HF7 bl7 hrun'
     go_wp2
     go_roundw
     case rel=>exact⟨k+1,by omega,by go_num,HA7.out,y7⟩
     case measure=>simp[intOf]<;>omega
   ·have hbb:bi=0:=by have:=HBI.out;omega
    subst hbb
    go_upto_region 7 with(fail)
    have HK5:=HK4.set0 (.int .i64 ((z:Int)+1));have HF5:=HF3.far (p:=⟨kb,0,none⟩) nb4 (.int .i64 ((z:Int)+1));have HA5:=HA3.far (p:=⟨kb,0,none⟩) nb3 nb2 (.int .i64 ((z:Int)+1));have y5:=kv7 y3 (p:=⟨kb,0,none⟩) (.inr nb1) (.int .i64 ((z:Int)+1));generalize w3.setCell ⟨kb,0,none⟩ (.int .i64 ((z:Int)+1))=w5 at HK5 HF5 HA5 y5 ⊢;clear k0 k1 k2 k3 HK4 HF3 HA3 y3;have k0:=HK5.c0;have k1:=HK5.c1;have k2:=HK5.f0;have k3:=HK5.f1;by_cases hal:255≤z+1+on
    ·have HU:=Lib.hid (show upd (z,on) bit=((z+1+1) / 2,(on+1) / 2) by subst hbit;unfold upd halve;simp only[if_pos rfl,Nat.zero_ne_one,if_false];first|rw[if_pos (by omega)]|simp;omega);obtain⟨z2,hz2⟩:∃ z2,z2=(z+1+1) / 2:=⟨_,rfl⟩
     obtain⟨o2,ho2⟩:∃ o2,o2=(on+1) / 2:=⟨_,rfl⟩
     have q1:(((z:Int)+1)+1) / 2=((z2:Nat):Int):=by omega
     have q2:((on:Int)+1) / 2=((o2:Nat):Int):=by omega
     have HU2:=Lib.hid (show upd (z,on) bit=(z2,o2) by rw[HU.out,hz2,ho2]);have Q1:=Lib.hid q1;have Q2:=Lib.hid q2;clear hz2 ho2 q1 q2 HU
     go_upto_region 9 with(fail)
     rw[Q1.out,Q2.out];clear Q1 Q2;have HK6:=(HK5.set0 (.int .i64 (z2:Nat))).set1 (.int .i64 (o2:Nat));have HF6:=(HF5.far (p:=⟨kb,0,none⟩) nb4 (.int .i64 (z2:Nat))).far (p:=⟨kb,1,none⟩) nb4 (.int .i64 (o2:Nat));have HA6:=(HA5.far (p:=⟨kb,0,none⟩) nb3 nb2 (.int .i64 (z2:Nat))).far (p:=⟨kb,1,none⟩) nb3 nb2 (.int .i64 (o2:Nat));have y6:=kv7 (kv7 y5 (p:=⟨kb,0,none⟩) (.inr nb1) (.int .i64 (z2:Nat))) (p:=⟨kb,1,none⟩) (.inr nb1) (.int .i64 (o2:Nat));generalize (w5.setCell ⟨kb,0,none⟩ (.int .i64 (z2:Nat))).setCell ⟨kb,1,none⟩ (.int .i64 (o2:Nat))=w6 at HK6 HF6 HA6 y6 ⊢;clear k0 k1 k2 k3 HK5 HF5 HA5 y5;obtain⟨w7,hrun,hcm7,hg7⟩:=HA6.drew.cm.store hcx (by unfold maxLen;omega) (z2,o2);have hrun':(Instr.mapUpdate 168 (.map (some b)) (.agg #[.int .i64 (o:Nat),.int .i64 (la':Nat),.int .i64 (be':Nat),.int .i64 (bg':Nat)]) (.agg #[.int .i64 (z2:Nat),.int .i64 (o2:Nat)])).run Tryz.prog w6.drew=.ok () w7:=hrun;clear hrun;have HG7:=Lib.hid hg7;have bl7:Blk w7 s 170 #[.int .i64 (ord:Nat),.map (some b),.int .i64 (la:Nat),.int .i64 (be:Nat),.int .i64 (bg:Nat)]:=Blk.grown HA6.drew.blk hg7 (by simpa using Ne.symm HNE.out);have HA7:=Lib.hid (show Pm w7 s b (n+(k+1)) ord la be bg (fupd f (l.take (k+1)) bit) from⟨bl7,by rw[HT.out,HU2.out];exact hcm7⟩);have nb6:b≠cb:=HA6.cm.ne HF6;have HF7:=HF6.drew.grown hg7 (by simpa using Ne.symm nb6);have HK7:=Two.grown HK6.drew hg7 (by simpa using Ne.symm nb2)
     have y7:=kdj7 (kcr7 y6) hg7 (.inl rfl);clear hcm7 hg7;have f0:=HF6.c0;have g0:=HF7.c0;have f1:=HF6.c1;have g1:=HF7.c1;have f2:=HF6.c2;have g2:=HF7.c2;have f3:=HF6.c3;have g3:=HF7.c3;have k0:=HK6.c0;have j0:=HK7.c0;have k1:=HK6.c1;have j1:=HK7.c1;have t1:=HA6.c1;have u1:=HA7.out.c1
     go_region_held3 (fun w'=>w'.cell? ⟨cb,0,none⟩=some (.int .i64 (o:Nat))∧w'.cell? ⟨cb,1,none⟩=some (.int .i64 (la':Nat))∧w'.cell? ⟨cb,2,none⟩=some (.int .i64 (be':Nat))∧w'.cell? ⟨cb,3,none⟩=some (.int .i64 (bg':Nat))∧w'.cell? ⟨kb,0,none⟩=some (.int .i64 (z2:Nat))∧w'.cell? ⟨kb,1,none⟩=some (.int .i64 (o2:Nat))∧w'.cell? ⟨s,1,none⟩=some (.map (some b))) (go_keep) (fail)
     clear f0 g0 f1 g1 f2 g2 f3 g3 k0 j0 k1 j1 t1 u1 HK6 HF6 HA6 y6 HK7 HF7 bl7 hrun'
     go_wp2
     go_roundw
     case rel=>exact⟨k+1,by omega,by go_num,HA7.out,y7⟩
     case measure=>simp[intOf]<;>omega
    ·have HU:=Lib.hid (show upd (z,on) bit=(z+1,on) by subst hbit;unfold upd halve;simp only[if_pos rfl,Nat.zero_ne_one,if_false];first|rw[if_neg (by omega)]|simp;omega);obtain⟨z2,hz2⟩:∃ z2,z2=z+1:=⟨_,rfl⟩
     obtain⟨o2,ho2⟩:∃ o2,o2=on:=⟨_,rfl⟩
     have q1:((z:Int)+1)=((z2:Nat):Int):=by omega
     have q2:(on:Int)=((o2:Nat):Int):=by omega
     have HU2:=Lib.hid (show upd (z,on) bit=(z2,o2) by rw[HU.out,hz2,ho2]);have Q1:=Lib.hid q1;have Q2:=Lib.hid q2;clear hz2 ho2 q1 q2 HU
     go_upto_region 9 with(fail)
     rw[Q1.out,Q2.out] at HK5;clear k0 k1 k2 k3 Q1 Q2;have HK6:=HK5;have HF6:=HF5;have HA6:=HA5;have y6:=y5;clear HK5 HF5 HA5 y5;generalize w5=w6 at HK6 HF6 HA6 y6 ⊢;obtain⟨w7,hrun,hcm7,hg7⟩:=HA6.drew.cm.store hcx (by unfold maxLen;omega) (z2,o2);have hrun':(Instr.mapUpdate 168 (.map (some b)) (.agg #[.int .i64 (o:Nat),.int .i64 (la':Nat),.int .i64 (be':Nat),.int .i64 (bg':Nat)]) (.agg #[.int .i64 (z2:Nat),.int .i64 (o2:Nat)])).run Tryz.prog w6.drew=.ok () w7:=hrun;clear hrun;have HG7:=Lib.hid hg7;have bl7:Blk w7 s 170 #[.int .i64 (ord:Nat),.map (some b),.int .i64 (la:Nat),.int .i64 (be:Nat),.int .i64 (bg:Nat)]:=Blk.grown HA6.drew.blk hg7 (by simpa using Ne.symm HNE.out);have HA7:=Lib.hid (show Pm w7 s b (n+(k+1)) ord la be bg (fupd f (l.take (k+1)) bit) from⟨bl7,by rw[HT.out,HU2.out];exact hcm7⟩);have nb6:b≠cb:=HA6.cm.ne HF6;have HF7:=HF6.drew.grown hg7 (by simpa using Ne.symm nb6);have HK7:=Two.grown HK6.drew hg7 (by simpa using Ne.symm nb2);have y7:=kdj7 (kcr7 y6) hg7 (.inl rfl);clear hcm7 hg7;have f0:=HF6.c0;have g0:=HF7.c0;have f1:=HF6.c1;have g1:=HF7.c1;have f2:=HF6.c2;have g2:=HF7.c2;have f3:=HF6.c3;have g3:=HF7.c3;have k0:=HK6.c0;have j0:=HK7.c0;have k1:=HK6.c1;have j1:=HK7.c1;have t1:=HA6.c1;have u1:=HA7.out.c1
     go_region_held3 (fun w'=>w'.cell? ⟨cb,0,none⟩=some (.int .i64 (o:Nat))∧w'.cell? ⟨cb,1,none⟩=some (.int .i64 (la':Nat))∧w'.cell? ⟨cb,2,none⟩=some (.int .i64 (be':Nat))∧w'.cell? ⟨cb,3,none⟩=some (.int .i64 (bg':Nat))∧w'.cell? ⟨kb,0,none⟩=some (.int .i64 (z2:Nat))∧w'.cell? ⟨kb,1,none⟩=some (.int .i64 (o2:Nat))∧w'.cell? ⟨s,1,none⟩=some (.map (some b))) (go_keep) (fail)
     clear f0 g0 f1 g1 f2 g2 f3 g3 k0 j0 k1 j1 t1 u1 HK6 HF6 HA6 y6 HK7 HF7 bl7 hrun'
     go_wp2
     go_roundw
     case rel=>exact⟨k+1,by omega,by go_num,HA7.out,y7⟩
     case measure=>simp[intOf]<;>omega
  ·obtain rfl:k=m:=by omega
   have HT:=Lib.hid (show l.take k=l by rw[←hL,List.take_length]);have HB1:=Lib.hid ((But2.of_below y1 s b).trans (But2.of_grown YR.out s));have p0:=HPR.out.c0;have p1:=HPR.out.c1;have p2:=HPR.out.c2;have p3:=HPR.out.c3;have p4:=HPR.out.c4;have p5:=Blk.frozen HPR.out.blk 4;have q0:0≤bi:=hbi1;obtain⟨b2,hb2⟩:∃ b2,b2=2*bg+bit:=⟨_,rfl⟩
   have HB2:=Lib.hid (show 2*(bg:Int)+bi=((b2:Nat):Int) by have:=HBI.out;omega);have hb3:b2<512:=by omega
   go_upto_region 12 with(fail)
   rw[HB2.out];have HA9:=Blk.set_ HPR.out.blk 4 (.int .i64 (b2:Nat));have HM9:=HPR.out.cm.setCell (a:=⟨s,4,none⟩) HNE.out (.int .i64 (b2:Nat));have HB9:=Lib.hid (HB1.out.set_ 4 (.int .i64 (b2:Nat)));simp only[List.setIfInBounds_toArray,List.set_cons_succ,List.set_cons_zero] at HA9;rw[HT.out] at HM9;generalize wr.setCell ⟨s,4,none⟩ (.int .i64 (b2:Nat))=w9 at HA9 HM9 HB9 ⊢;clear p0 p1 p2 p3 p4 p5 HB1 HPR HB2;have p2:w9.cell? ⟨s,2,none⟩=some (.int .i64 (la:Nat)):=by simpa using Blk.cell HA9 2
   have p3:w9.cell? ⟨s,3,none⟩=some (.int .i64 (be:Nat)):=by simpa using Blk.cell HA9 3
   have p4:w9.cell? ⟨s,4,none⟩=some (.int .i64 (b2:Nat)):=by simpa using Blk.cell HA9 4
   rcases HNEW.out with⟨n1,n2,n3,n4⟩|⟨n1,n2,n3,n4⟩
   ·have HN2:=Lib.hid n2;have HN3:=Lib.hid n3;have HN4:=Lib.hid n4;have n1':¬256≤b2:=by omega
    have HB3:=Lib.hid hb2;clear n1 n2 n3 n4 hb2
    go_wp2
    go_end0
    refine⟨rfl,⟨?_,HM9⟩,HB9.out⟩;rw[HN2.out,HN3.out,HN4.out,←HB3.out];exact HA9
   ·have HN2:=Lib.hid n2;have HN3:=Lib.hid n3;have HN4:=Lib.hid n4;have n1':256≤b2:=by omega
    have HB3:=Lib.hid hb2;have f2:=Blk.frozen HA9 2;have f3:=Blk.frozen HA9 3;have f4:=Blk.frozen HA9 4;clear n1 n2 n3 n4 hb2
    go_upto_region 13 with(fail)
    go_region
    go_wp2
    go_end0
    have e32:(b2:Int) % 32=((LA:Nat):Int):=by rw[HN2.out,←HB3.out];omega
    rw[e32];have A1:=Blk.set_ (Blk.set_ (Blk.set_ HA9 2 (.int .i64 (LA:Nat))) 3 (.int .i64 (la:Nat))) 4 (.int .i64 1);simp only[List.setIfInBounds_toArray,List.set_cons_succ,List.set_cons_zero] at A1;have M1:=((HM9.setCell (a:=⟨s,2,none⟩) HNE.out (.int .i64 (LA:Nat))).setCell (a:=⟨s,3,none⟩) HNE.out (.int .i64 (la:Nat))).setCell (a:=⟨s,4,none⟩) HNE.out (.int .i64 1);refine⟨rfl,⟨?_,M1.drew⟩,(((HB9.out.set_ 2 (.int .i64 (LA:Nat))).set_ 3 (.int .i64 (la:Nat))).set_ 4 (.int .i64 1)).drew⟩;rw[HN3.out,HN4.out];exact A1
end PB
end
section
open Go.RowKit
attribute [local go_sem ↓] Go.wp_at_zero Go.wp_at_succ
namespace PB
def mf(ord:Nat)(h:List Nat)(i:Nat)(c:Ctx):Nat×Nat:=if c.1≤ord then cnts h c.1 c i else(0,0)
theorem mf_le(ord:Nat)(h:List Nat)(i:Nat)(c:Ctx):(mf ord h i c).1+(mf ord h i c).2≤254:=by
 unfold mf
 split
 ·exact cnts_le h _ c i
 ·exact Nat.zero_le _
theorem mf_zero(ord:Nat)(h:List Nat):mf ord h 0=fun _=>(0,0):=by
 funext c
 unfold mf
 split<;>rfl
theorem mf_append(ord:Nat)(h m:List Nat)(i:Nat)(hi:i≤h.length):mf ord (h++m) i=mf ord h i:=by
 funext c
 unfold mf
 split
 ·exact cnts_append h m _ c i hi
 ·rfl
theorem last_append(h m:List Nat)(k:Nat)(hk:k≤h.length):mbeg (h++m) k=mbeg h k∧mlast (h++m) k=mlast h k∧mbefore (h++m) k=mbefore h k:=by
 have e:=kie7 h m k 2 hk;unfold ctx at e;simp only[Prod.mk.injEq,true_and] at e;obtain⟨e1,e2,e3⟩:=e;simp at e1 e2;exact⟨e3,e1,e2⟩
theorem ctxs_eq(ord:Nat)(ho:ord≤2)(h:List Nat)(i:Nat):ctxs ord (mlast h i) (mbefore h i) (mbeg h i)=(List.range (ord+1)).map (ctx h i):=by
 rcases(by omega:ord=0∨ord=1∨ord=2) with rfl|rfl|rfl<;>rfl
theorem ctx_ord(h:List Nat)(i o:Nat):(ctx h i o).1=o:=rfl
theorem fupd_map(h:List Nat)(i bit:Nat)(f:Ctx→Nat×Nat):∀ (m:Nat) (c:Ctx),fupd f ((List.range m).map (ctx h i)) bit c=if c.1<m∧ctx h i c.1=c then upd (f c) bit else f c:=by
 intro m
 induction m with
 | zero=>intro c;rw[if_neg (by omega)];rfl
 | succ m ih =>
  intro c;have e:fupd f ((List.range (m+1)).map (ctx h i)) bit=fset (fupd f ((List.range m).map (ctx h i)) bit) (ctx h i m) (upd (fupd f ((List.range m).map (ctx h i)) bit (ctx h i m)) bit):=by
   unfold fupd;rw[List.range_succ,List.map_append,List.foldl_append];rfl
  rw[e];unfold fset;rw[ih,ih];by_cases hc:c=ctx h i m
  ·rw[if_pos hc];subst hc;rw[if_neg (by rw[ctx_ord];omega),ctx_ord,if_pos ⟨by omega,rfl⟩]
  ·rw[if_neg hc];by_cases hcm:c.1<m∧ctx h i c.1=c
   ·rw[if_pos hcm,if_pos ⟨by omega,hcm.2⟩]
   ·rw[if_neg hcm,if_neg];rintro⟨h1,h2⟩;by_cases h3:c.1=m
    ·rw[h3] at h2;exact hc h2.symm
    ·exact hcm ⟨by omega,h2⟩
theorem mf_step(ord:Nat)(ho:ord≤2)(h:List Nat)(i:Nat):fupd (mf ord h i) (ctxs ord (mlast h i) (mbefore h i) (mbeg h i)) (h.getD i 0)=mf ord h (i+1):=by
 rw[ctxs_eq ord ho]
 funext c
 rw[fupd_map];unfold mf;by_cases hc:c.1≤ord
 ·rw[if_pos hc,if_pos hc,cnts];by_cases he:ctx h i c.1=c
  ·rw[if_pos ⟨by omega,he⟩,if_pos he]
  ·rw[if_neg (fun x=>he x.2),if_neg he]
 ·rw[if_neg hc,if_neg hc,if_neg (by omega)]
theorem pv_eq(ord:Nat)(ho:ord≤2)(h:List Nat)(i:Nat):pvf (mf ord h i) (ctxs ord (mlast h i) (mbefore h i) (mbeg h i))=predv h i ord:=by
 have key:∀ o,o≤ord→mf ord h i (ctx h i o)=hcnt h i o:=by
  intro o h1;unfold mf;rw[ctx_ord,if_pos h1];rfl
 rw[ctxs_eq ord ho];unfold pvf predv;have e:accf (mf ord h i) ((List.range (ord+1)).map (ctx h i)) (2048,1)=pacc2 h i (ord+1):=by
  have:∀ m,m≤ord+1→accf (mf ord h i) ((List.range m).map (ctx h i)) (2048,1)=pacc2 h i m:=by
   intro m
   induction m with
   | zero=>intro _;rfl
   | succ m ih =>
    intro hm;rw[List.range_succ,List.map_append,List.map_cons,List.map_nil,accf_snoc,ih (by omega),key m (by omega),ctx_ord];rfl
  exact this _ (Nat.le_refl _)
 rw[e]
def MSt(w:World)(s b n ord:Nat)(l:List Nat):Prop:=Pm w s b n ord (mlast l l.length) (mbefore l l.length) (mbeg l l.length) (mf ord l l.length)
structure Keep(w w':World):Prop where
 size:w.heap.size≤w'.heap.size
 blk:∀ k cs,Blk w k 170 cs→Blk w' k 170 cs
 fault:∀ k cs,Blk w k 24 cs→Blk w' k 24 cs
 mp:∀ (k:Nat) (es:Array MapEntry) (clock:Nat),w.heap[k]?=some (Obj.map es clock)→w'.heap[k]?=some (Obj.map es clock)
theorem Keep.trans{a b c:World}(h:Keep a b)(k:Keep b c):Keep a c:=⟨Nat.le_trans h.size k.size,fun i cs h1=>k.blk i cs (h.blk i cs h1),fun i cs h1=>k.fault i cs (h.fault i cs h1),fun i es cl h1=>k.mp i es cl (h.mp i es cl h1)⟩
theorem Keep.of_below{w w':World}(h:Below w.heap.size w w'):Keep w w' :=
 ⟨h.size,fun k cs h1=>h1.on h,fun k cs h1=>h1.on h,fun k es cl h1=>(h.block k (Array.getElem?_eq_some_iff.1 h1).1).trans h1⟩
theorem CM.keep{w w':World}{b n:Nat}{f:Ctx→Nat×Nat}(h:CM w b n f)(hk:Keep w w'):CM w' b n f:=by
 obtain⟨D,⟨es,clock,h1,h2⟩,r⟩:=h;exact⟨D,⟨es,clock,hk.mp _ _ _ h1,h2⟩,r⟩
theorem Pm.keep{w w':World}{s b n ord la be bg:Nat}{f:Ctx→Nat×Nat}(h:Pm w s b n ord la be bg f)(hk:Keep w w'):Pm w' s b n ord la be bg f :=
 ⟨hk.blk _ _ h.blk,h.cm.keep hk⟩
theorem mst_new{w:World}{s b ord:Nat}(h:Pm w s b 0 ord 0 0 1 (fun _=>(0,0))):MSt w s b 0 ord []:=by
 unfold MSt;rw[List.length_nil,mlast_zero,mbefore_zero,mbeg_zero,mf_zero];exact h
theorem mst_predict{w:World}{s b n ord:Nat}{l:List Nat}(h:MSt w s b n ord l)(h01:Is01 l)(ho:ord≤2)(V:Nat)(hV:V=predv l l.length ord) :
  Calls Tryz.prog 116 #[.pointer (some ⟨s,0,none⟩)] w fun e w'=>e=.returned (.int .i64 (V:Nat))∧Below w.heap.size w w' :=
 predict_any h ho (Nat.lt_of_lt_of_le (mlast_lt _ _) (by decide)) (Nat.lt_of_lt_of_le (mbefore_lt _ _) (by decide)) (kid7 h01 _ (Nat.le_refl _)).2 (mf_le _ _ _) V (by rw[hV,pv_eq ord ho])
theorem mst_update{w:World}{s b n ord bit:Nat}{l:List Nat}(h:MSt w s b n ord l)(h01:Is01 l)(ho:ord≤2)(hb:bit≤1)(hn:n+3<1000000)(bi:Int)(hbi:bi=(bit:Nat)) :
  Calls Tryz.prog 117 #[.pointer (some ⟨s,0,none⟩),.int .i64 bi] w fun e w'=>e=.returned (.tuple #[])∧MSt w' s b (n+(ord+1)) ord (l++[bit])∧But2 s b w w':=by
 have h01':Is01 (l++[bit]):=h01.snoc (by omega);have hlen:(l++[bit]).length=l.length+1:=by simp
 have hg:(l++[bit]).getD l.length 0=bit:=by simp
 obtain⟨a1,a2,a3⟩:=last_append l [bit] l.length (Nat.le_refl _);have af:=mf_append ord l [bit] l.length (Nat.le_refl _);have st:=mf_step ord ho (l++[bit]) l.length;rw[a1,a2,a3,af,hg] at st;refine(update_any (bit:=bit) h ho (mlast_lt _ _) (mbefore_lt _ _) (kid7 h01 _ (Nat.le_refl _)).2 hb (mf_le _ _ _) hn (mlast (l++[bit]) (l.length+1)) (mbefore (l++[bit]) (l.length+1)) (mbeg (l++[bit]) (l.length+1)) ?_ bi hbi).mono ?_
 ·by_cases hm:(l.length+1) % 8=0
  ·obtain⟨q1,q2,q3,q4,q5⟩:=mstep_end h01' l.length (by omega) hm;rw[a1,hg] at q2 q4;rw[a2] at q3;exact .inr ⟨q4,q2,q3,q1⟩
  ·obtain⟨q1,q2,q3,q4⟩:=mstep_in h01' l.length (by omega) hm;rw[a1,hg] at q1 q4;rw[a2] at q2;rw[a3] at q3;exact .inl ⟨q4,q2,q3,q1⟩
 ·rintro e w' ⟨rfl,hp,hb2⟩;refine⟨rfl,?_,hb2⟩;unfold MSt;rw[hlen,←st];exact hp
theorem call_func {fn:Nat}{fd:Func} (hfd:Tryz.prog.funcs[fn]?=some fd) (hfn:¬fd.name = "runtime.NumGoroutine") (hfb:¬fd.body=none) (args:Array Value) (W:World):(callFunc fn args).run Tryz.prog W=.ok (.enter fn args) W:=by
 simp[callFunc,hfd,hfn,hfb,go_sem]
theorem func_not_nil(fn:Nat)(cap:Array Value)(W:World):(binOp .eql 114 (.func (.func fn) #[] cap) .nilFunc).run Tryz.prog W=.ok (.bool false) W:=by
 kernel_rfl
theorem mdfault_any(code index:Int)(w:World) :
  Calls Tryz.prog 115 #[.int .i64 code,.int .i64 index] w fun e w'=>e=.returned (.agg #[.int .i64 code,.int .i64 index])∧Below w.heap.size w w':=by
 go_enter Tryz.func115,Tryz.ntmps115
 go_wp2
 refine bodyPost_ret (v:=.agg #[.int .i64 code,.int .i64 index]) (by simp[results,Tryz.results115,go_sem]) rfl ⟨rfl,?_⟩;exact(Below.refl _ _).alloc (Nat.le_refl _) _
theorem walk_any (w:World) (w0:Nat) (hw0:w.heap.size=w0) {ord steps:Nat} (ho:ord≤2) (hs:steps≤8192) (fn:Nat) (fd:Func) (hfd:Tryz.prog.funcs[fn]?=some fd) (hfn:¬fd.name = "runtime.NumGoroutine") (hfb:¬fd.body=none) (cap:Array Value) (Inv:List Nat→World→Prop) (Bad:List Nat→World→Prop)
  (hstep:∀ (l:List Nat) (w:World),Is01 l→l.length<steps→Inv l w→Calls Tryz.prog fn (#[.int .i64 (predv l l.length ord:Nat)]++cap) w fun e w'=>∃ v:Int,e=.returned (.int .i64 v)∧Keep w w'∧(((v=0∨v=1)∧Inv (l++[v.toNat]) w')∨(¬(v=0∨v=1)∧Bad l w')))
  (hquiet:∀ (l:List Nat) (w w':World),Inv l w→Below w.heap.size w w'→Inv l w')
  (hbad:∀ (l:List Nat) (w w':World) (s:Nat) (cs:Array Value),Blk w s 24 cs→w0≤s→But2 s s w w'→(Inv l w→Inv l w')∧(Bad l w→Bad l w'))
  (hupd:∀ (l:List Nat) (w w':World) (s b:Nat) (cs:Array Value) (es:Array MapEntry) (clock:Nat),Inv l w→Blk w s 170 cs→w.heap[b]?=some (.map es clock)→w0≤s→w0≤b→But2 s b w w'→Inv l w')
  (h0:Inv [] w) (si:Int) (hsi:si=(steps:Nat)) (oi:Int) (hoi:oi=(ord:Nat)) :
  Calls Tryz.prog 102 #[.int .i64 oi,.int .i64 si,.func (.func fn) #[] cap] w fun e w'=>∃ l,Is01 l∧((l.length=steps∧e=.returned (.agg #[.int .i64 0,.int .i64 0])∧Inv l w')∨(l.length<steps∧e=.returned (.agg #[.int .i64 6,.int .i64 (l.length:Nat)])∧Bad l w')):=by
 subst hsi hoi;have HW0:=Lib.hid hw0;clear hw0;have HS:=Lib.hid hstep;have HQ:=Lib.hid hquiet;have HB:=Lib.hid hbad;have HU:=Lib.hid hupd;have H0:=Lib.hid h0;clear hstep hquiet hbad hupd h0;have hmm:=@run_makeMap Tryz.prog;have hnn:=func_not_nil fn cap;have hcf:=call_func hfd hfn hfb
 go_enter Tryz.func102,Tryz.ntmps102
 go_upto_region 7 with(fail)
 have hM:=CM.made (w.alloc (.cells #[.int .i64 0,.int .i64 0] 24));have hR:=((Blk.new w 24 #[.int .i64 0,.int .i64 0]).alloc (.map #[] 0)).alloc (.cells #[.int .i64 (ord:Nat),.map (some (w.heap.size+1)),.int .i64 0,.int .i64 0,.int .i64 1] 170);have hP:=Blk.new ((w.alloc (.cells #[.int .i64 0,.int .i64 0] 24)).alloc (.map #[] 0)) 170 #[.int .i64 (ord:Nat),.map (some (w.heap.size+1)),.int .i64 0,.int .i64 0,.int .i64 1];have hM2:=hM.alloc (.cells #[.int .i64 (ord:Nat),.map (some (w.heap.size+1)),.int .i64 0,.int .i64 0,.int .i64 1] 170);have hY:=(((Below.refl w.heap.size w).alloc (Nat.le_refl _) (.cells #[.int .i64 0,.int .i64 0] 24)).alloc (by simp) (.map #[] 0)).alloc (by simp;omega) (.cells #[.int .i64 (ord:Nat),.map (some (w.heap.size+1)),.int .i64 0,.int .i64 0,.int .i64 1] 170);have e1:(w.alloc (.cells #[.int .i64 0,.int .i64 0] 24)).heap.size=w.heap.size+1:=by simp
 have e2:((w.alloc (.cells #[.int .i64 0,.int .i64 0] 24)).alloc (.map #[] 0)).heap.size=w.heap.size+2:=by simp
 rw[e1] at hM2;rw[e2] at hP;have hst:=mst_new ⟨hP,hM2⟩;have hI:=HQ.out _ _ _ H0.out hY
 go_upto_region 9 with(fail)
 generalize (((w.alloc (.cells #[.int .i64 0,.int .i64 0] 24)).alloc (.map #[] 0)).alloc (.cells #[.int .i64 (ord:Nat),.map (some (w.heap.size+1)),.int .i64 0,.int .i64 0,.int .i64 1] 170))=w1 at hR hst hI ⊢;have HR:=Lib.hid hR;have HST:=Lib.hid hst;have HI:=Lib.hid hI;clear hR hst hI hP hM hM2 hY e1 e2 hmm hnn
 go_loopw [35] (fun i wr=>∃ (k:Nat) (l:List Nat),k≤steps∧i=.int .i64 (k:Nat)∧l.length=k∧Is01 l∧Inv l wr∧MSt wr (w.heap.size+2) (w.heap.size+1) (k*(ord+1)) ord l∧Blk wr w.heap.size 24 #[.int .i64 0,.int .i64 0]) (fun i _=>steps-(intOf i).toNat)
 case atStart=>exact⟨0,[],by omega,rfl,rfl,Is01.nil,HI.out,by rw[Nat.zero_mul];exact HST.out,HR.out⟩
 case round =>
  obtain⟨k,l,hk,rfl,hl,h01,hI,hst,hR⟩:=hrel;have HL:=Lib.hid hl;have H01:=Lib.hid h01;have HIr:=Lib.hid hI;have HSTr:=Lib.hid hst;have HRr:=Lib.hid hR;clear hl h01 hI hst hR;have hkm:k*(ord+1)≤8192*3:=Nat.mul_le_mul (by omega) (by omega);by_cases hlt:k<steps
  ·obtain⟨V,hV⟩:∃ V,V=predv l l.length ord:=⟨_,rfl⟩
   have HPR:=Lib.hid (mst_predict HSTr.out H01.out ho V hV);have HV:=Lib.hid hV;clear hV
   go_wp2_with fail
   refine HPR.out.mono ?_;rintro e w9 ⟨rfl,y9⟩;have K9:=Keep.of_below y9;have HST9:=Lib.hid (show MSt w9 _ _ _ _ _ from HSTr.out.keep K9);have HR9:=Lib.hid (K9.fault _ _ HRr.out);have HI9:=Lib.hid (HQ.out _ _ _ HIr.out y9);clear K9 y9 HSTr HRr HIr
   go_wp2_with fail
   have hsl:=HS.out l w9 H01.out (by rw[HL.out];exact hlt) HI9.out;rw[←HV.out] at hsl;have HSL:=Lib.hid hsl;clear hsl;refine HSL.out.mono ?_;rintro e w10 ⟨v,rfl,K10,hv⟩;have HST10:=Lib.hid (show MSt w10 _ _ _ _ _ from HST9.out.keep K10);have HR10:=Lib.hid (K10.fault _ _ HR9.out);clear K10 HI9 HST9 HR9;rcases hv with⟨hv01,hI⟩|⟨hvb,hB⟩
   ·obtain⟨bt,hbt⟩:∃ bt,bt=v.toNat:=⟨_,rfl⟩
    have hbv:v=(bt:Nat):=by omega
    have hb1:bt≤1:=by omega
    rw[←hbt] at hI;have HI10:=Lib.hid hI;have HUP:=Lib.hid (mst_update HST10.out H01.out ho hb1 (by omega) v hbv);have h01b:Is01 (l++[bt]):=H01.out.snoc (by omega);have H01B:=Lib.hid h01b;have HBV:=Lib.hid hbv;clear hI hbt hbv h01b;have htest:(v != 0)=false∨((v != 0)=true∧(v != 1)=false):=by
     rcases hv01 with rfl|rfl
     ·left;rfl
     ·right;exact⟨rfl,rfl⟩
    clear hv01;rcases htest with htest|⟨htest,htest2⟩
    all_goals
     go_wp2_with fail
     refine HUP.out.mono ?_;rintro e w11 ⟨rfl,hst11,hb11⟩;obtain⟨D9,⟨es9,clock9,hmap9,-⟩,-⟩:=HST10.out.cm;have HI11:=Lib.hid (HU.out _ _ _ _ _ _ _ _ HI10.out HST10.out.blk hmap9 (by have:=HW0.out;omega) (by have:=HW0.out;omega) hb11);clear hmap9;have HR11:=Lib.hid (Blk.but2 HR10.out hb11 (by omega) (by omega));have HST11:=Lib.hid hst11;clear hst11 hb11
     go_wp2_with fail
     go_roundw
     case rel=>exact⟨k+1,l++[bt],by omega,by go_num,by rw[List.length_append,HL.out];rfl,H01B.out,HI11.out,by rw[Nat.succ_mul];exact HST11.out,HR11.out⟩
     case measure=>simp[intOf]<;>omega
   ·have hv0:(v != 0)=true:=by rw[bne_iff_ne];omega
    have hv1:(v != 1)=true:=by rw[bne_iff_ne];omega
    have HB10:=Lib.hid hB;clear hB hvb
    go_wp2_with fail
    refine(mdfault_any _ _ _).mono ?_;rintro e w11 ⟨rfl,y11⟩;have HR11:Blk w11 w.heap.size 24 #[.int .i64 0,.int .i64 0]:=HR10.out.on y11;have HY:=Lib.hid y11;clear y11;have q0:=Blk.cell HR11 0;have q1:=Blk.cell HR11 1;have q2:=Blk.frozen HR11 0;have q3:=Blk.frozen HR11 1;simp at q0 q1
    go_wp2
    have rr:=(HR11.set_ 0 (.int .i64 6)).set_ 1 (.int .i64 (k:Nat));simp only[List.setIfInBounds_toArray,List.set_cons_succ,List.set_cons_zero] at rr;have r0:=Blk.cell rr 0;have r1:=Blk.cell rr 1;simp at r0 r1;have hb:=(But2.of_below HY.out w.heap.size w.heap.size).trans (((But2.refl w.heap.size w.heap.size w11).set_ 0 (.int .i64 6)).set_ 1 (.int .i64 (k:Nat)));refine bodyPost_ret (v:=.agg #[.int .i64 6,.int .i64 (k:Nat)]) (by simp[results,Tryz.results102,go_sem,r0,r1]) rfl ?_;exact⟨l,H01.out,.inr ⟨by rw[HL.out];exact hlt,by rw[HL.out],(HB.out l _ _ _ _ HR10.out (by have:=HW0.out;omega) hb).2 HB10.out⟩⟩
  ·have hks:k=steps:=by omega
   subst hks;have q0:=Blk.cell HRr.out 0;have q1:=Blk.cell HRr.out 1;have q2:=Blk.frozen HRr.out 0;have q3:=Blk.frozen HRr.out 1;simp at q0 q1
   go_wp2
   have rr:=(HRr.out.set_ 0 (.int .i64 0)).set_ 1 (.int .i64 0);simp only[List.setIfInBounds_toArray,List.set_cons_succ,List.set_cons_zero] at rr;have r0:=Blk.cell rr 0;have r1:=Blk.cell rr 1;simp at r0 r1;have hb:=((But2.refl w.heap.size w.heap.size wr).set_ 0 (.int .i64 0)).set_ 1 (.int .i64 0);refine bodyPost_ret (v:=.agg #[.int .i64 0,.int .i64 0]) (by simp[results,Tryz.results102,go_sem,r0,r1]) rfl ?_;exact⟨l,H01.out,.inl ⟨HL.out,rfl,(HB.out l _ _ _ _ HRr.out (by have:=HW0.out;omega) hb).1 HIr.out⟩⟩
end PB
end
end Go.Proofs.YtnpcandaehejbaaGreat
