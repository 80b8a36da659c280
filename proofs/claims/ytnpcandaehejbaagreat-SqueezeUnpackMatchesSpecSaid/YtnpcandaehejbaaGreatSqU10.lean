/-
  arith.encode: a bit with a valid state.
-/
import Derived.Lib.OthersKept
import Derived.Maps.OwnSet
import Derived.DeepKeys4
import Derived.Test.YtnpcandaehejbaaGreatSqU7
import Derived.Test.YtnpcandaehejbaaGreatSqU8
import Derived.Test.YtnpcandaehejbaaGreatSqU9
set_option linter.unusedVariables false
set_option linter.unusedSimpArgs false
set_option linter.unusedSectionVars false
set_option maxHeartbeats 6400000
set_option maxRecDepth 100000
namespace Go.Proofs.YtnpcandaehejbaaGreat
section
open Go.RowKit
attribute [local go_sem ↓] Go.wp_at_zero Go.wp_at_succ
namespace PB
theorem keb7{b q:Nat}(bi qi:Int)(hbi:bi=(b:Nat))(hqi:qi=(q:Nat))(hb:b≤1)(hq:q≤1000000)(w:World) :
  Calls Tryz.prog 131 #[.int .i64 bi,.int .i64 qi] w fun e w'=>e=.returned (.string (bt (crt b q)))∧Below w.heap.size w w':=by
 subst hbi hqi;exact certain_any hb hq w
theorem double_int{lo hi:Int}{k:Nat}(h:Rng lo hi)(ht:twc lo hi=some k)(l2 u2 o2:Int)(hl:l2=2*(lo-16384*k))(hu:u2=2*(hi-16384*k)+1)(ho:o2=16384*k)(w:World) :
  Calls Tryz.prog 130 #[.int .i64 lo,.int .i64 hi] w fun e w'=>e=.returned (.tuple #[.int .i64 l2,.int .i64 u2,.int .i64 o2,.bool true])∧w=w':=by
 subst hl hu ho;exact double_some h ht w
theorem fuel_pos{l u:Int}{f:Nat}(h:Rng l u)(hf:65536<(u-l+1)*2 ^ f):∃ g,f=g+1:=by
 obtain⟨h1,h2,h3⟩:=h;cases f with
 | zero=>exfalso;rw[Int.pow_zero] at hf;omega
 | succ g=>exact⟨g,rfl⟩
theorem fuel_next{l u:Int}{k f:Nat}(hf:65536<(u-l+1)*2 ^ (f+1)):65536<(2*(u-16384*(k:Int))+1-2*(l-16384*(k:Int))+1)*(2:Int) ^ f:=by
 have e:2*(u-16384*(k:Int))+1-2*(l-16384*(k:Int))+1=(u-l+1)*2:=by omega
 rw[e,Int.mul_assoc,Int.mul_comm 2];exact hf
theorem encode_any{lo hi p:Int}{b q:Nat}(h:Wid lo hi)(h1:1≤p)(h2:p≤4095)(hb:b≤1)(hq:q≤200000)(LO HI:Int)(S:List Nat)(Q:Nat)(hLO:LO=(stp lo hi b p).1)(hHI:HI=(stp lo hi b p).2.1)(hS:S=(sentf (stp lo hi b p).2.2 q).1)(hQ:Q=(sentf (stp lo hi b p).2.2 q).2)(w:World) :
  Calls Tryz.prog 121 #[.agg #[.int .i64 lo,.int .i64 hi,.int .i64 (q:Nat)],.int .i64 (b:Nat),.int .i64 p] w fun e w'=>e=.returned (.tuple #[.agg #[.int .i64 LO,.int .i64 HI,.int .i64 (Q:Nat)],.string (bt S)])∧Below w.heap.size w w':=by
 have hr0:=part_rng b h h1 h2;obtain⟨st1,st2,st3,st4⟩:=kah7 b h h1 h2;obtain⟨l2,hl2⟩:∃ l2,l2=(partOf lo hi b p).1:=⟨_,rfl⟩
 obtain⟨u2,hu2⟩:∃ u2,u2=(partOf lo hi b p).2:=⟨_,rfl⟩
 have hD0:dbl 20 l2 u2=(LO,HI,(stp lo hi b p).2.2):=by rw[hl2,hu2,hLO,hHI];rfl
 obtain⟨R,hR⟩:∃ R,R=(stp lo hi b p).2.2:=⟨_,rfl⟩
 rw[←hR] at hD0 st2 st3 hS hQ;have HS:=Lib.hid hS;have HQ:=Lib.hid hQ;have HD0:=Lib.hid hD0;have HR0:=Lib.hid (show Rng l2 u2 by rw[hl2,hu2];exact hr0);have HF0:=Lib.hid (show 65536<(u2-l2+1)*(2:Int) ^ 20 by
  obtain⟨r1,r2,r3⟩:=hr0;have e:(2:Int) ^ 20=1048576:=by decide
  rw[e,hl2,hu2];omega)
 have HPA:=Lib.hid (fun(W:World)=>part_any hb h h1 h2 l2 u2 hl2 hu2 W);have HRL:=Lib.hid st2;clear hl2 hu2 hD0 hR hS hQ hLO hHI st1 st2 st3 st4 hr0;have C0:=(Three.new w 141 (.int .i64 lo) (.int .i64 hi) (.int .i64 (q:Nat))).alloc (.cells #[.int .i64 0,.int .i64 0,.int .i64 0] 141);have X0:=Three.new1 w (.cells #[.int .i64 lo,.int .i64 hi,.int .i64 (q:Nat)] 141) 141 (.int .i64 0) (.int .i64 0) (.int .i64 0);have y0:Below w.heap.size w ((w.alloc (.cells #[.int .i64 lo,.int .i64 hi,.int .i64 (q:Nat)] 141)).alloc (.cells #[.int .i64 0,.int .i64 0,.int .i64 0] 141)):=((Below.refl _ _).alloc (Nat.le_refl _) _).alloc (by simp) _;have c0:=C0.c0;have c1:=C0.c1;have c2:=C0.c2;have g0:=C0.f0;have g1:=C0.f1;have g2:=C0.f2
 go_enter Tryz.func121,Tryz.ntmps121
 go_wp2_with fail
 refine(HPA.out _).mono ?_;rintro e w9 ⟨rfl,rfl⟩
 go_upto_region 2 with(fail)
 have C1:=(Three.new w 141 (.int .i64 l2) (.int .i64 u2) (.int .i64 (q:Nat))).alloc (.cells #[.int .i64 0,.int .i64 0,.int .i64 0] 141);have X1:=Three.new1 w (.cells #[.int .i64 l2,.int .i64 u2,.int .i64 (q:Nat)] 141) 141 (.int .i64 0) (.int .i64 0) (.int .i64 0);have Y1:Below w.heap.size w ((w.alloc (.cells #[.int .i64 l2,.int .i64 u2,.int .i64 (q:Nat)] 141)).alloc (.cells #[.int .i64 0,.int .i64 0,.int .i64 0] 141)):=((Below.refl _ _).alloc (Nat.le_refl _) _).alloc (by simp) _;generalize ((w.alloc (.cells #[.int .i64 l2,.int .i64 u2,.int .i64 (q:Nat)] 141)).alloc (.cells #[.int .i64 0,.int .i64 0,.int .i64 0] 141))=wa at C1 X1 Y1 ⊢;clear C0 X0 y0 c0 c1 c2 g0 g1 g2
 go_wp2_with fail
 go_loopw [8,9,10,11,12] (fun t _ _ _ _ wr=>∃ (l u:Int) (q' f:Nat) (rest out:List Nat),Rng l u∧dbl f l u=(LO,HI,rest)∧65536<(u-l+1)*(2:Int) ^ f∧out++(sentf rest q').1=S∧(sentf rest q').2=Q∧out.length+q'+rest.length≤q+20∧t=.string (bt out) ∧
   Three wr w.heap.size 141 (.int .i64 l) (.int .i64 u) (.int .i64 (q':Nat))∧Three wr (w.heap.size+1) 141 (.int .i64 0) (.int .i64 0) (.int .i64 0)∧Below w.heap.size w wr) (fun _ _ _ _ _ wr=>(65536-(intOf ((wr.cell? ⟨w.heap.size,1,none⟩).getD undef)-intOf ((wr.cell? ⟨w.heap.size,0,none⟩).getD undef))).toNat)
 case atStart =>
  refine⟨l2,u2,q,20,R,[],HR0.out,HD0.out,HF0.out,HS.out.symm,HQ.out.symm,by have:=HRL.out;simp;omega,rfl,C1,X1,Y1⟩
 case round =>
  obtain⟨l,u,q',f,rest,out,hrg,hd,hf,hs,hq2,hlen,rfl,C,X,yr⟩:=hrel;clear C1 X1 Y1;have HD:=Lib.hid hd;have HF:=Lib.hid hf;have HS1:=Lib.hid hs;have HQ1:=Lib.hid hq2;have HRG:=Lib.hid hrg;obtain⟨rg1,rg2,rg3⟩:=hrg;clear hd hf hs hq2;have c0:=C.c0;have c1:=C.c1;have c2:=C.c2;have g0:=C.f0;have g1:=C.f1;have g2:=C.f2;rcases kdy7 HRG.out with⟨hn,hW⟩|⟨k,hk,hk2,hR'⟩
  ·have HN:=Lib.hid hn;have e1:=HD.out;rw[kes7 hn] at e1;injection e1 with e1 e2;injection e2 with e2 e3;subst e1 e2 e3;have HB:=Lib.hid (show out=S by have:=HS1.out;simpa [sentf] using this);have HQ3:=Lib.hid (show q'=Q from HQ1.out);clear hn hW;have x0:=X.f0;have x1:=X.f1;have x2:=X.f2;have a0:=X.c0;have a1:=X.c1;have a2:=X.c2
   go_wp2_with fail
   refine(kge7 HRG.out HN.out _).mono ?_;rintro e w9 ⟨rfl,rfl⟩;have r0:=(((X.set0 (.int .i64 l)).set1 (.int .i64 u)).set2 (.int .i64 (q':Nat))).c0;have r1:=(((X.set0 (.int .i64 l)).set1 (.int .i64 u)).set2 (.int .i64 (q':Nat))).c1;have r2:=(((X.set0 (.int .i64 l)).set1 (.int .i64 u)).set2 (.int .i64 (q':Nat))).c2;have R0:=Lib.hid r0;have R1:=Lib.hid r1;have R2:=Lib.hid r2;clear r0 r1 r2
   go_wp2
   have r0:=R0.out;have r1:=R1.out;have r2:=R2.out;exact bodyPost_ret (v:=.tuple #[.agg #[.int .i64 l,.int .i64 u,.int .i64 (q':Nat)],.string (bt out)]) (by simp[results,Tryz.results121,go_sem,r0,r1,r2]) rfl ⟨by rw[HB.out,HQ3.out],((yr.setCell (p:=⟨w.heap.size+1,0,none⟩) (by simp) _).setCell (p:=⟨w.heap.size+1,1,none⟩) (by simp) _).setCell (p:=⟨w.heap.size+1,2,none⟩) (by simp) _⟩
  ·obtain⟨g,rfl⟩:=fuel_pos HRG.out HF.out;have hd1:=HD.out;rw[ket7 hk] at hd1;injection hd1 with e1 e2;injection e2 with e2 e3;obtain⟨l',hl'⟩:∃ l',l'=2*(l-16384*(k:Int)):=⟨_,rfl⟩
   obtain⟨u',hu'⟩:∃ u',u'=2*(u-16384*(k:Int))+1:=⟨_,rfl⟩
   rw[←hl',←hu'] at e1 e2 e3 hR';obtain⟨rest',hrest⟩:∃ r,r=(dbl g l' u').2.2:=⟨_,rfl⟩
   have HD2:=Lib.hid (show dbl g l' u'=(LO,HI,rest') by rw[←e1,←e2,hrest]);rw[←hrest] at e3;subst e3;have HF2:=Lib.hid (show 65536<(u'-l'+1)*(2:Int) ^ g by have:=fuel_next (k:=k) HF.out;rwa [←hl',←hu'] at this);have HL2:=Lib.hid hR';have HK:=Lib.hid hk;have HLEN:=Lib.hid hlen;have hqb:q'≤300000:=by omega
   have MC0:=Lib.hid c0;have MC1:=Lib.hid c1;have hmm:u'-l'=2*(u-l)+1:=by rw[hl',hu'];omega
   obtain⟨n1,n2,n3⟩:=hR';have HDB:=Lib.hid (fun(o2:Int) (ho:o2=16384*(k:Int)) (W:World)=>double_int HRG.out HK.out l' u' o2 hl' hu' ho W);clear hk e1 e2 hrest hl' hu' hlen
   go_wp2_with fail
   rcases(by omega:k=1∨k=0∨k=2) with rfl|rfl|rfl
   ·refine(HDB.out 16384 (by decide) _).mono ?_;rintro e w9 ⟨rfl,rfl⟩
    go_upto_region 10 with(fail)
    have C2:Three (wr.setCell ⟨w.heap.size,2,none⟩ (.int .i64 ((q':Int)+1))) w.heap.size 141 (.int .i64 l) (.int .i64 u) (.int .i64 ((q'+1:Nat):Int)):=by have:=C.set2 (.int .i64 ((q':Int)+1));rwa [show(q':Int)+1=((q'+1:Nat):Int) by omega] at this ⊢
    have X2:=X.far (p:=⟨w.heap.size,2,none⟩) (by show w.heap.size+1≠w.heap.size;omega) (.int .i64 ((q':Int)+1));have Y2:=yr.setCell (p:=⟨w.heap.size,2,none⟩) (Nat.le_refl _) (.int .i64 ((q':Int)+1));generalize (wr.setCell ⟨w.heap.size,2,none⟩ (.int .i64 ((q':Int)+1)))=wc at C2 X2 Y2 ⊢;clear c0 c1 c2 g0 g1 g2 C X yr;have c0:=C2.c0;have c1:=C2.c1;have g0:=C2.f0;have g1:=C2.f1
    go_wp2_with fail
    have C3:=(C2.set0 (.int .i64 l')).set1 (.int .i64 u');have X3:=(X2.far (p:=⟨w.heap.size,0,none⟩) (by show w.heap.size+1≠w.heap.size;omega) (.int .i64 l')).far (p:=⟨w.heap.size,1,none⟩) (by show w.heap.size+1≠w.heap.size;omega) (.int .i64 u');have Y3:=(Y2.setCell (p:=⟨w.heap.size,0,none⟩) (Nat.le_refl _) (.int .i64 l')).setCell (p:=⟨w.heap.size,1,none⟩) (Nat.le_refl _) (.int .i64 u');have m0:=C3.c0;have m1:=C3.c1
    go_roundw
    case rel=>exact⟨l',u',q'+1,g,rest',out,HL2.out,HD2.out,HF2.out,by have:=HS1.out;rwa [kea7] at this,by have:=HQ1.out;rwa [kea7] at this,by have:=HLEN.out;simp only[List.length_cons] at this;omega,rfl,C3,X3,Y3⟩
    case measure=>simp[m0,m1,MC0.out,MC1.out,intOf]<;>omega
   ·refine(HDB.out 0 (by decide) _).mono ?_;rintro e w9 ⟨rfl,rfl⟩;have hns:¬(9223372036854775807<(bt out).size+(bt (crt 0 q')).size):=by rw[kej7,kej7];have:=HLEN.out;simp only[List.length_cons,crt,List.length_replicate] at this ⊢;omega
    go_wp2_with fail
    refine(keb7 (b:=0) (q:=q') _ _ rfl rfl (by decide) (by have:=HLEN.out;omega) _).mono ?_;rintro e w5 ⟨rfl,y5⟩;have C:=C.on y5;have X:=X.on y5;have yr:=yr.trans (y5.mono yr.size);have c0:=C.c0;have c1:=C.c1;have c2:=C.c2;have g0:=C.f0;have g1:=C.f1;have g2:=C.f2
    go_upto_region 10 with(fail)
    have C2:Three (w5.setCell ⟨w.heap.size,2,none⟩ (.int .i64 0)) w.heap.size 141 (.int .i64 l) (.int .i64 u) (.int .i64 ((0:Nat):Int)):=C.set2 (.int .i64 0);have X2:=X.far (p:=⟨w.heap.size,2,none⟩) (by show w.heap.size+1≠w.heap.size;omega) (.int .i64 0);have Y2:=yr.setCell (p:=⟨w.heap.size,2,none⟩) (Nat.le_refl _) (.int .i64 0);generalize (w5.setCell ⟨w.heap.size,2,none⟩ (.int .i64 0))=wc at C2 X2 Y2 ⊢;clear c0 c1 c2 g0 g1 g2 C X yr;have c0:=C2.c0;have c1:=C2.c1;have g0:=C2.f0;have g1:=C2.f1
    go_wp2_with fail
    have C3:=(C2.set0 (.int .i64 l')).set1 (.int .i64 u');have X3:=(X2.far (p:=⟨w.heap.size,0,none⟩) (by show w.heap.size+1≠w.heap.size;omega) (.int .i64 l')).far (p:=⟨w.heap.size,1,none⟩) (by show w.heap.size+1≠w.heap.size;omega) (.int .i64 u');have Y3:=(Y2.setCell (p:=⟨w.heap.size,0,none⟩) (Nat.le_refl _) (.int .i64 l')).setCell (p:=⟨w.heap.size,1,none⟩) (Nat.le_refl _) (.int .i64 u');have m0:=C3.c0;have m1:=C3.c1
    go_roundw
    case rel=>exact⟨l',u',0,g,rest',(out++crt 0 q'),HL2.out,HD2.out,HF2.out,by have:=HS1.out;rw[kbe7 (by decide)] at this;rw[List.append_assoc];exact this,by have:=HQ1.out;rwa [kbe7 (by decide)] at this,by have:=HLEN.out;simp only[List.length_cons,List.length_append,crt,List.length_replicate] at this ⊢;omega,by rw[kft7],C3,X3,Y3⟩
    case measure=>simp[m0,m1,MC0.out,MC1.out,intOf]<;>omega
   ·refine(HDB.out 32768 (by decide) _).mono ?_;rintro e w9 ⟨rfl,rfl⟩;have hns:¬(9223372036854775807<(bt out).size+(bt (crt 1 q')).size):=by rw[kej7,kej7];have:=HLEN.out;simp only[List.length_cons,crt,List.length_replicate] at this ⊢;omega
    go_wp2_with fail
    refine(keb7 (b:=1) (q:=q') _ _ rfl rfl (by decide) (by have:=HLEN.out;omega) _).mono ?_;rintro e w5 ⟨rfl,y5⟩;have C:=C.on y5;have X:=X.on y5;have yr:=yr.trans (y5.mono yr.size);have c0:=C.c0;have c1:=C.c1;have c2:=C.c2;have g0:=C.f0;have g1:=C.f1;have g2:=C.f2
    go_upto_region 10 with(fail)
    have C2:Three (w5.setCell ⟨w.heap.size,2,none⟩ (.int .i64 0)) w.heap.size 141 (.int .i64 l) (.int .i64 u) (.int .i64 ((0:Nat):Int)):=C.set2 (.int .i64 0);have X2:=X.far (p:=⟨w.heap.size,2,none⟩) (by show w.heap.size+1≠w.heap.size;omega) (.int .i64 0);have Y2:=yr.setCell (p:=⟨w.heap.size,2,none⟩) (Nat.le_refl _) (.int .i64 0);generalize (w5.setCell ⟨w.heap.size,2,none⟩ (.int .i64 0))=wc at C2 X2 Y2 ⊢;clear c0 c1 c2 g0 g1 g2 C X yr;have c0:=C2.c0;have c1:=C2.c1;have g0:=C2.f0;have g1:=C2.f1
    go_wp2_with fail
    have C3:=(C2.set0 (.int .i64 l')).set1 (.int .i64 u');have X3:=(X2.far (p:=⟨w.heap.size,0,none⟩) (by show w.heap.size+1≠w.heap.size;omega) (.int .i64 l')).far (p:=⟨w.heap.size,1,none⟩) (by show w.heap.size+1≠w.heap.size;omega) (.int .i64 u');have Y3:=(Y2.setCell (p:=⟨w.heap.size,0,none⟩) (Nat.le_refl _) (.int .i64 l')).setCell (p:=⟨w.heap.size,1,none⟩) (Nat.le_refl _) (.int .i64 u');have m0:=C3.c0;have m1:=C3.c1
    go_roundw
    case rel=>exact⟨l',u',0,g,rest',(out++crt 1 q'),HL2.out,HD2.out,HF2.out,by have:=HS1.out;rw[kbe7 (by decide)] at this;rw[List.append_assoc];exact this,by have:=HQ1.out;rwa [kbe7 (by decide)] at this,by have:=HLEN.out;simp only[List.length_cons,List.length_append,crt,List.length_replicate] at this ⊢;omega,by rw[kft7],C3,X3,Y3⟩
    case measure=>simp[m0,m1,MC0.out,MC1.out,intOf]<;>omega
theorem finish_any{lo hi:Int}{q:Nat}(hq:q≤500000)(b:Nat)(hb:b=if lo<16384 then 0 else 1)(w:World) :
  Calls Tryz.prog 122 #[.agg #[.int .i64 lo,.int .i64 hi,.int .i64 (q:Nat)]] w fun e w'=>e=.returned (.string (bt (crt b (q+1))))∧Below w.heap.size w w':=by
 have C0:=Three.new w 141 (.int .i64 lo) (.int .i64 hi) (.int .i64 (q:Nat));have y0:Below w.heap.size w (w.alloc (.cells #[.int .i64 lo,.int .i64 hi,.int .i64 (q:Nat)] 141)):=(Below.refl _ _).alloc (Nat.le_refl _) _;have c0:=C0.c0;have c1:=C0.c1;have c2:=C0.c2;by_cases h:lo<16384
 ·rw[if_pos h] at hb;subst hb;have k1:decide (lo<16384)=true:=by simpa using h
  go_enter Tryz.func122,Tryz.ntmps122
  go_wp2_with fail
  refine(keb7 (b:=0) (q:=q+1) _ _ rfl (by omega) (by decide) (by omega) _).mono ?_;rintro e w1 ⟨rfl,y1⟩;have Y:=y0.trans (y1.mono y0.size)
  go_wp2
  go_ret
  exact⟨rfl,Y⟩
 ·rw[if_neg h] at hb;subst hb;have k1:decide (lo<16384)=false:=by simpa using h
  go_enter Tryz.func122,Tryz.ntmps122
  go_wp2_with fail
  refine(keb7 (b:=1) (q:=q+1) _ _ rfl (by omega) (by decide) (by omega) _).mono ?_;rintro e w1 ⟨rfl,y1⟩;have Y:=y0.trans (y1.mono y0.size)
  go_wp2
  go_ret
  exact⟨rfl,Y⟩
theorem start_any(w:World):Calls Tryz.prog 98 #[] w fun e w'=>e=.returned (.agg #[.int .i64 0,.int .i64 65535,.int .i64 0])∧Below w.heap.size w w':=by
 have X1:=Three.new w 141 (.int .i64 0) (.int .i64 65535) (.int .i64 0);have r0:=X1.c0;have r1:=X1.c1;have r2:=X1.c2;have R0:=Lib.hid r0;have R1:=Lib.hid r1;have R2:=Lib.hid r2;clear r0 r1 r2
 go_enter Tryz.func98,Tryz.ntmps98
 go_wp2
 have r0:=R0.out;have r1:=R1.out;have r2:=R2.out;exact bodyPost_ret (v:=.agg #[.int .i64 0,.int .i64 65535,.int .i64 0]) (by simp[results,Tryz.results98,go_sem,r0,r1,r2]) rfl ⟨rfl,(Below.refl _ _).alloc (Nat.le_refl _) _⟩
end PB
end
namespace PB
structure Cho where
 b:Int
 p:Int
def Cho.ok(c:Cho):Prop:=(c.b=0∨c.b=1)∧1≤c.p∧c.p≤4095
instance (c:Cho):Decidable c.ok:=by unfold Cho.ok;exact inferInstance
def Cho.n(c:Cho):Nat:=c.b.toNat
def erun:List Cho→Int→Int→Int×Int×List Nat
 | [],lo,hi=>(lo,hi,[])
 | c::r,lo,hi=>((erun r (stp lo hi c.n c.p).1 (stp lo hi c.n c.p).2.1).1,(erun r (stp lo hi c.n c.p).1 (stp lo hi c.n c.p).2.1).2.1,(stp lo hi c.n c.p).2.2++(erun r (stp lo hi c.n c.p).1 (stp lo hi c.n c.p).2.1).2.2)
theorem erun_append(a b:List Cho):∀ lo hi,erun (a++b) lo hi=((erun b (erun a lo hi).1 (erun a lo hi).2.1).1,(erun b (erun a lo hi).1 (erun a lo hi).2.1).2.1,(erun a lo hi).2.2++(erun b (erun a lo hi).1 (erun a lo hi).2.1).2.2):=by
 induction a with
 | nil=>intro lo hi;rfl
 | cons c r ih =>
  intro lo hi;rw[List.cons_append,erun,ih];simp only[erun,List.append_assoc]
theorem erun_snoc(a:List Cho)(c:Cho)(lo hi:Int):erun (a++[c]) lo hi=((stp (erun a lo hi).1 (erun a lo hi).2.1 c.n c.p).1,(stp (erun a lo hi).1 (erun a lo hi).2.1 c.n c.p).2.1,(erun a lo hi).2.2++(stp (erun a lo hi).1 (erun a lo hi).2.1 c.n c.p).2.2):=by
 rw[erun_append];simp[erun]
def AllCho(cs:List Cho):Prop:=∀ c∈cs,c.ok
theorem kfu7:∀ (cs:List Cho),AllCho cs→∀ lo hi,Wid lo hi→Wid (erun cs lo hi).1 (erun cs lo hi).2.1∧(erun cs lo hi).2.2.length≤14*cs.length∧∀ k∈(erun cs lo hi).2.2,k≤2:=by
 intro cs
 induction cs with
 | nil=>intro _ lo hi h;exact⟨h,by simp[erun],by simp[erun]⟩
 | cons c r ih =>
  intro hall lo hi h;obtain⟨h1,h2,h3⟩:=hall c List.mem_cons_self;obtain⟨s1,s2,s3,s4⟩:=kah7 c.n h h2 h3;obtain⟨r1,r2,r3⟩:=ih (fun x hx=>hall x (List.mem_cons_of_mem _ hx)) _ _ s1;refine⟨r1,?_,?_⟩
  ·simp only[erun,List.length_append,List.length_cons];omega
  ·intro k hk;simp only[erun] at hk;rcases List.mem_append.1 hk with hk|hk
   ·exact s3 k hk
   ·exact r3 k hk
theorem wid0:Wid 0 65535:=by unfold Wid;omega
def acode(cs:List Cho):List Nat :=
 (sentf (erun cs 0 65535).2.2 0).1++crt (if (erun cs 0 65535).1<16384 then 0 else 1) ((sentf (erun cs 0 65535).2.2 0).2+1)
theorem kir7(cs:List Cho):(acode cs).length=(erun cs 0 65535).2.2.length+2:=by
 have:=kbr7 (erun cs 0 65535).2.2 0;unfold acode;rw[List.length_append,crt,List.length_cons,List.length_replicate];omega
theorem acode_01{cs:List Cho}(h:AllCho cs):Is01 (acode cs):=by
 obtain⟨_,_,f3⟩:=kfu7 cs h 0 65535 wid0;refine Is01.of_mem fun x hx=>?_;unfold acode at hx;rcases List.mem_append.1 hx with hx|hx
 ·have:=sentf_le _ f3 0 x hx;omega
 ·have:=crt_le (b:=if (erun cs 0 65535).1<16384 then 0 else 1) (by split<;>omega) x hx;omega
theorem acode_le{cs:List Cho}(h:AllCho cs)(hl:cs.length≤8192):(acode cs).length≤114690:=by
 obtain⟨_,f2,_⟩:=kfu7 cs h 0 65535 wid0;rw[kir7];omega
def dv(l:List Nat):List Nat→Int→Nat→Int
 | [],V,_=>V
 | k::r,V,t=>dv l r (2*(V-16384*(k:Nat))+(l.getD t 0:Nat)) (t+1)
structure DS where
 lo:Int
 hi:Int
 V:Int
 at_:Nat
def pickb(d:DS)(p:Int):Nat:=if d.V≤splitOf d.lo d.hi p then 1 else 0
def dks(d:DS)(p:Int):List Nat:=(stp d.lo d.hi (pickb d p) p).2.2
def dstep(l:List Nat)(d:DS)(p:Int):DS :=
 ⟨(stp d.lo d.hi (pickb d p) p).1,(stp d.lo d.hi (pickb d p) p).2.1,dv l (dks d p) d.V d.at_,d.at_+(dks d p).length⟩
def drun(l:List Nat)(ps:List Int)(d:DS):DS:=ps.foldl (dstep l) d
theorem drun_snoc(l:List Nat)(ps:List Int)(p:Int)(d:DS):drun l (ps++[p]) d=dstep l (drun l ps d) p:=by simp[drun]
def dbits(l:List Nat):List Int→DS→List Nat
 | [],_=>[]
 | p::r,d=>pickb d p::dbits l r (dstep l d p)
theorem dbits_snoc(l:List Nat)(p:Int):∀ ps d,dbits l (ps++[p]) d=dbits l ps d++[pickb (drun l ps d) p]:=by
 intro ps
 induction ps with
 | nil=>intro d;rfl
 | cons q r ih=>intro d;rw[List.cons_append,dbits,ih,dbits];rfl
def dinit(l:List Nat):DS:=⟨0,65535,(num ((List.range 16).map fun i=>l.getD i 0):Nat),16⟩
def DOk(d:DS):Prop:=Wid d.lo d.hi∧d.lo≤d.V∧d.V≤d.hi
theorem dv_in(l:List Nat)(h01:Is01 l):∀ f lo hi V t,lo≤V→V≤hi→(dbl f lo hi).1≤dv l (dbl f lo hi).2.2 V t∧dv l (dbl f lo hi).2.2 V t≤(dbl f lo hi).2.1:=by
 intro f
 induction f with
 | zero=>intro lo hi V t h1 h2;exact⟨h1,h2⟩
 | succ f ih =>
  intro lo hi V t h1 h2;rcases ht:twc lo hi with _|k
  ·rw[kes7 ht];exact⟨h1,h2⟩
  ·rw[ket7 ht];have hb:=h01 t;exact ih _ _ _ _ (by omega) (by omega)
theorem split_in{lo hi p:Int}(h:Wid lo hi)(h1:1≤p)(h2:p≤4095):lo≤splitOf lo hi p∧splitOf lo hi p<hi:=by
 obtain⟨a1,a2⟩:=kio7 h;obtain⟨b1,b2⟩:=kdz7 a1 h1 h2;unfold splitOf;omega
theorem pick_part{d:DS}(h:DOk d){p:Int}:(partOf d.lo d.hi (pickb d p) p).1≤d.V∧d.V≤(partOf d.lo d.hi (pickb d p) p).2:=by
 obtain⟨_,h2,h3⟩:=h;unfold partOf pickb;by_cases hv:d.V≤splitOf d.lo d.hi p
 ·rw[if_pos hv,if_pos rfl];exact⟨h2,hv⟩
 ·rw[if_neg hv,if_neg (by decide)];dsimp only;omega
theorem dstep_ok{l:List Nat}(h01:Is01 l){d:DS}(h:DOk d){p:Int}(h1:1≤p)(h2:p≤4095):DOk (dstep l d p):=by
 obtain⟨s1,_,_,_⟩:=kah7 (pickb d p) h.1 h1 h2;obtain⟨q1,q2⟩:=pick_part h (p:=p);have:=dv_in l h01 20 _ _ d.V d.at_ q1 q2;exact⟨s1,this.1,this.2⟩
def AllP(ps:List Int):Prop:=∀ p∈ps,1≤p∧p≤4095
theorem drun_ok{l:List Nat}(h01:Is01 l):∀ ps,AllP ps→∀ d,DOk d→DOk (drun l ps d):=by
 intro ps
 induction ps with
 | nil=>intro _ d h;exact h
 | cons p r ih =>
  intro hp d h;obtain⟨p1,p2⟩:=hp p List.mem_cons_self;exact ih (fun q hq=>hp q (List.mem_cons_of_mem _ hq)) _ (dstep_ok h01 h p1 p2)
theorem num16_lt{l:List Nat}(h01:Is01 l):num ((List.range 16).map fun i=>l.getD i 0)<65536:=by
 have:Is01 ((List.range 16).map fun i=>l.getD i 0):=Is01.of_mem fun x hx=>by
  obtain⟨i,_,rfl⟩:=List.mem_map.1 hx;exact h01 i
 have h:=kcy7 this
 simpa using h
theorem dinit_ok{l:List Nat}(h01:Is01 l):DOk (dinit l):=by
 have:=num16_lt h01;exact⟨wid0,by show(0:Int)≤((num _:Nat):Int);omega,by show((num _:Nat):Int)≤65535;omega⟩
theorem drun_at_le(l:List Nat):∀ ps d,d.at_≤(drun l ps d).at_:=by
 intro ps
 induction ps with
 | nil=>intro d;exact Nat.le_refl _
 | cons p r ih=>intro d;exact Nat.le_trans (Nat.le_add_right _ _) (ih (dstep l d p))
theorem drun_at_bound{l:List Nat}(h01:Is01 l):∀ ps,AllP ps→∀ d,DOk d→(drun l ps d).at_≤d.at_+14*ps.length:=by
 intro ps
 induction ps with
 | nil=>intro _ d h;exact Nat.le_refl _
 | cons p r ih =>
  intro hp d h;obtain⟨p1,p2⟩:=hp p List.mem_cons_self;have a:=ih (fun q hq=>hp q (List.mem_cons_of_mem _ hq)) _ (dstep_ok h01 h p1 p2);obtain⟨_,s2,_,_⟩:=kah7 (pickb d p) h.1 p1 p2;have e:(dstep l d p).at_=d.at_+(stp d.lo d.hi (pickb d p) p).2.2.length:=rfl;show(drun l r (dstep l d p)).at_≤_;rw[List.length_cons];omega
def wbit(l:List Nat)(e j:Nat):Nat:=if e+j<24 then 0 else l.getD (e+j-24) 0
def wnd(l:List Nat)(e:Nat):Nat:=num ((List.range 24).map (wbit l e))
theorem wbit_lt{l:List Nat}(h01:Is01 l)(e j:Nat):wbit l e j<2:=by
 unfold wbit
 split
 ·decide
 ·exact h01 _
theorem wnd_lt{l:List Nat}(h01:Is01 l)(e:Nat):wnd l e<16777216:=by
 have:Is01 ((List.range 24).map (wbit l e)):=Is01.of_mem fun x hx=>by
  obtain⟨i,_,rfl⟩:=List.mem_map.1 hx;exact wbit_lt h01 _ _
 have h:=kcy7 this;rw[List.length_map,List.length_range] at h;exact h
theorem wnd_succ{l:List Nat}(h01:Is01 l)(e:Nat):wnd l (e+1)=(2*wnd l e+l.getD e 0) % 16777216:=by
 have hT:Is01 ((List.range 23).map (wbit l (e+1))):=Is01.of_mem fun x hx=>by
  obtain⟨i,_,rfl⟩:=List.mem_map.1 hx;exact wbit_lt h01 _ _
 have e1:(List.range 24).map (wbit l (e+1))=(List.range 23).map (wbit l (e+1))++[l.getD e 0]:=by
  rw[List.range_succ,List.map_append,List.map_singleton]
  congr 2
 have e2:(List.range 24).map (wbit l e)=wbit l e 0::(List.range 23).map (wbit l (e+1)):=by
  rw[List.range_succ_eq_map,List.map_cons,List.map_map]
  congr 1
 unfold wnd;rw[e1,e2,kdm7,keq7,List.length_map,List.length_range];have hn:=kcy7 hT;rw[List.length_map,List.length_range] at hn;have hb:=h01 e;generalize num ((List.range 23).map (wbit l (e+1)))=N at hn ⊢;generalize wbit l e 0=x;omega
def bas:List Nat→Int→Int
 | [],b=>b
 | k::r,b=>bas r ((2*b+32768*(k:Nat)) % 16777216)
theorem bas_bound:∀ ks b,0≤b→b<16777216→0≤bas ks b∧bas ks b<16777216:=by
 intro ks
 induction ks with
 | nil=>intro b h1 h2;exact⟨h1,h2⟩
 | cons k r ih=>intro b h1 h2;exact ih _ (by omega) (by omega)
theorem bas_snoc(k:Nat):∀ ks b,bas (ks++[k]) b=(2*bas ks b+32768*(k:Nat)) % 16777216:=by
 intro ks
 induction ks with
 | nil=>intro b;rfl
 | cons j r ih=>intro b;rw[List.cons_append,bas,ih,bas]
theorem bas_append(a:List Nat):∀ ks b,bas (ks++a) b=bas a (bas ks b):=by
 intro ks
 induction ks with
 | nil=>intro b;rfl
 | cons j r ih=>intro b;rw[List.cons_append,bas,ih,bas]
def VEq(l:List Nat)(V:Int)(t:Nat)(b:Int):Prop:=((wnd l t:Nat)-b-V) % 16777216=0
theorem veq_step{l:List Nat}(h01:Is01 l){V b:Int}{t:Nat}(k:Nat)(h:VEq l V t b):VEq l (2*(V-16384*(k:Nat))+(l.getD t 0:Nat)) (t+1) ((2*b+32768*(k:Nat)) % 16777216):=by
 unfold VEq at h ⊢;rw[wnd_succ h01];generalize wnd l t=N at h ⊢;generalize l.getD t 0=x;omega
theorem veq_run{l:List Nat}(h01:Is01 l):∀ ks V b t,VEq l V t b→VEq l (dv l ks V t) (t+ks.length) (bas ks b):=by
 intro ks
 induction ks with
 | nil=>intro V b t h;exact h
 | cons k r ih =>
  intro V b t h;have:=ih _ _ _ (veq_step h01 k h);rw[dv,bas,List.length_cons,show t+(r.length+1)=t+1+r.length by omega];exact this
theorem veq_value{l:List Nat}(h01:Is01 l){V b:Int}{t:Nat}(h:VEq l V t b)(h0:0≤V)(h1:V<65536)(hb0:0≤b)(hb:b<16777216):((wnd l t:Nat)-b+16777216) % 16777216=V:=by
 unfold VEq at h;have:=wnd_lt h01 t;generalize wnd l t=N at h this ⊢;omega
theorem veq_init(l:List Nat):VEq l (dinit l).V 16 0:=by
 have e:(List.range 24).map (wbit l 16)=List.replicate 8 0++(List.range 16).map fun i=>l.getD i 0:=by
  rw[show(24:Nat)=8+16 from rfl,List.range_add,List.map_append,List.map_map];rfl
 unfold VEq wnd dinit;rw[e,num_append];have z:num (List.replicate 8 0)=0:=by decide
 rw[z];dsimp only;generalize num ((List.range 16).map fun i=>l.getD i 0)=N;omega
def dksAll(l:List Nat):List Int→DS→List Nat
 | [],_=>[]
 | p::r,d=>dks d p++dksAll l r (dstep l d p)
theorem dksAll_snoc(l:List Nat)(p:Int):∀ ps d,dksAll l (ps++[p]) d=dksAll l ps d++dks (drun l ps d) p:=by
 intro ps
 induction ps with
 | nil=>intro d;simp[dksAll,drun]
 | cons q r ih=>intro d;rw[List.cons_append,dksAll,ih,dksAll,List.append_assoc];rfl
theorem veq_drun{l:List Nat}(h01:Is01 l):∀ ps d b,VEq l d.V d.at_ b→VEq l (drun l ps d).V (drun l ps d).at_ (bas (dksAll l ps d) b):=by
 intro ps
 induction ps with
 | nil=>intro d b h;exact h
 | cons p r ih =>
  intro d b h;have a:=veq_run h01 (dks d p) d.V b d.at_ h;have:=ih (dstep l d p) _ a;rw[dksAll,bas_append];exact this
theorem ref_value{l:List Nat}(h01:Is01 l)(ps:List Int)(hp:AllP ps):((wnd l (drun l ps (dinit l)).at_:Nat)-bas (dksAll l ps (dinit l)) 0+16777216) % 16777216=(drun l ps (dinit l)).V:=by
 obtain⟨w,o1,o2⟩:=drun_ok h01 ps hp _ (dinit_ok h01);obtain⟨w1,w2,w3,w4,_⟩:=w;obtain⟨b1,b2⟩:=bas_bound (dksAll l ps (dinit l)) 0 (by decide) (by decide);exact veq_value h01 (veq_drun h01 ps _ 0 (veq_init l)) (by omega) (by omega) b1 b2
end PB
section
open Go.RowKit
namespace PB
def One(w:World)(s:Nat)(t:TypeId)(v0:Value):Prop:=Blk w s t #[v0]
section
variable {w w':World}{s:Nat}{t:TypeId}{v0:Value}
theorem One.new(w:World)(t:TypeId)(v0:Value):One (w.alloc (.cells #[v0] t)) w.heap.size t v0:=Blk.new w t _
theorem One.new1(w:World)(o0:Obj)(t:TypeId)(v0:Value):One ((w.alloc o0).alloc (.cells #[v0] t)) (w.heap.size+1) t v0:=by
 simpa using One.new (w.alloc o0) t v0
theorem One.new2(w:World)(o0 o1:Obj)(t:TypeId)(v0:Value):One (((w.alloc o0).alloc o1).alloc (.cells #[v0] t)) (w.heap.size+2) t v0:=by
 simpa using One.new ((w.alloc o0).alloc o1) t v0
theorem One.new3(w:World)(o0 o1 o2:Obj)(t:TypeId)(v0:Value):One ((((w.alloc o0).alloc o1).alloc o2).alloc (.cells #[v0] t)) (w.heap.size+3) t v0:=by
 simpa using One.new (((w.alloc o0).alloc o1).alloc o2) t v0
theorem One.alloc(h:One w s t v0)(o:Obj):One (w.alloc o) s t v0:=Blk.alloc h o
theorem One.on(h:One w s t v0)(hb:Below w.heap.size w w'):One w' s t v0:=Blk.on h hb
theorem One.far(h:One w s t v0){p:Addr}(hp:s≠p.block)(u:Value):One (w.setCell p u) s t v0:=Blk.far h hp u
theorem One.lt(h:One w s t v0):s<w.heap.size:=Blk.lt h
theorem One.set0(h:One w s t v0)(u:Value):One (w.setCell ⟨s,0,none⟩ u) s t u:=by
 have:=Blk.set_ h 0 u;simp at this;exact this
theorem One.c0(h:One w s t v0):w.cell? ⟨s,0,none⟩=some v0:=by simpa using Blk.cell h 0
theorem One.f0(h:One w s t v0):w.frozen? ⟨s,0,none⟩=false:=Blk.frozen h 0
end
def Four(w:World)(s:Nat)(t:TypeId)(v0 v1 v2 v3:Value):Prop:=Blk w s t #[v0,v1,v2,v3]
section
variable {w w':World}{s:Nat}{t:TypeId}{v0 v1 v2 v3:Value}
theorem Four.new(w:World)(t:TypeId)(v0 v1 v2 v3:Value):Four (w.alloc (.cells #[v0,v1,v2,v3] t)) w.heap.size t v0 v1 v2 v3:=Blk.new w t _
theorem Four.new1(w:World)(o0:Obj)(t:TypeId)(v0 v1 v2 v3:Value):Four ((w.alloc o0).alloc (.cells #[v0,v1,v2,v3] t)) (w.heap.size+1) t v0 v1 v2 v3:=by
 simpa using Four.new (w.alloc o0) t v0 v1 v2 v3
theorem Four.new2(w:World)(o0 o1:Obj)(t:TypeId)(v0 v1 v2 v3:Value):Four (((w.alloc o0).alloc o1).alloc (.cells #[v0,v1,v2,v3] t)) (w.heap.size+2) t v0 v1 v2 v3:=by
 simpa using Four.new ((w.alloc o0).alloc o1) t v0 v1 v2 v3
theorem Four.alloc(h:Four w s t v0 v1 v2 v3)(o:Obj):Four (w.alloc o) s t v0 v1 v2 v3:=Blk.alloc h o
theorem Four.drew(h:Four w s t v0 v1 v2 v3):Four w.drew s t v0 v1 v2 v3:=h
theorem Four.on(h:Four w s t v0 v1 v2 v3)(hb:Below w.heap.size w w'):Four w' s t v0 v1 v2 v3:=Blk.on h hb
theorem Four.grown{row:Option Nat}(h:Four w s t v0 v1 v2 v3)(hb:w.grownBy w' row)(hg:some s≠row):Four w' s t v0 v1 v2 v3:=Blk.grown h hb hg
theorem Four.far(h:Four w s t v0 v1 v2 v3){p:Addr}(hp:s≠p.block)(u:Value):Four (w.setCell p u) s t v0 v1 v2 v3:=Blk.far h hp u
theorem Four.set0(h:Four w s t v0 v1 v2 v3)(u:Value):Four (w.setCell ⟨s,0,none⟩ u) s t u v1 v2 v3:=by
 have:=Blk.set_ h 0 u;simp at this;exact this
theorem Four.c0(h:Four w s t v0 v1 v2 v3):w.cell? ⟨s,0,none⟩=some v0:=by simpa using Blk.cell h 0
theorem Four.f0(h:Four w s t v0 v1 v2 v3):w.frozen? ⟨s,0,none⟩=false:=Blk.frozen h 0
theorem Four.set1(h:Four w s t v0 v1 v2 v3)(u:Value):Four (w.setCell ⟨s,1,none⟩ u) s t v0 u v2 v3:=by
 have:=Blk.set_ h 1 u;simp at this;exact this
theorem Four.c1(h:Four w s t v0 v1 v2 v3):w.cell? ⟨s,1,none⟩=some v1:=by simpa using Blk.cell h 1
theorem Four.f1(h:Four w s t v0 v1 v2 v3):w.frozen? ⟨s,1,none⟩=false:=Blk.frozen h 1
theorem Four.set2(h:Four w s t v0 v1 v2 v3)(u:Value):Four (w.setCell ⟨s,2,none⟩ u) s t v0 v1 u v3:=by
 have:=Blk.set_ h 2 u;simp at this;exact this
theorem Four.c2(h:Four w s t v0 v1 v2 v3):w.cell? ⟨s,2,none⟩=some v2:=by simpa using Blk.cell h 2
theorem Four.f2(h:Four w s t v0 v1 v2 v3):w.frozen? ⟨s,2,none⟩=false:=Blk.frozen h 2
theorem Four.set3(h:Four w s t v0 v1 v2 v3)(u:Value):Four (w.setCell ⟨s,3,none⟩ u) s t v0 v1 v2 u:=by
 have:=Blk.set_ h 3 u;simp at this;exact this
theorem Four.c3(h:Four w s t v0 v1 v2 v3):w.cell? ⟨s,3,none⟩=some v3:=by simpa using Blk.cell h 3
theorem Four.f3(h:Four w s t v0 v1 v2 v3):w.frozen? ⟨s,3,none⟩=false:=Blk.frozen h 3
end
theorem Two.new3(w:World)(o0 o1 o2:Obj)(t:TypeId)(v0 v1:Value):Two ((((w.alloc o0).alloc o1).alloc o2).alloc (.cells #[v0,v1] t)) (w.heap.size+3) t v0 v1:=by
 simpa using Two.new (((w.alloc o0).alloc o1).alloc o2) t v0 v1
end PB
end
section
open Go.RowKit
attribute [local go_sem ↓] Go.wp_at_zero Go.wp_at_succ
namespace PB
def COk(lo hi q:Int):Prop:=Wid lo hi∧0≤q∧q≤131056
instance (lo hi q:Int):Decidable (COk lo hi q):=by unfold COk;exact inferInstance
theorem kbf7{w:World}{base:Nat}{e:TypeId}{size:Nat}{v:Value}{n:Nat}{xs:List Value}(h:w.ownsRow base e size v n xs){p:Addr}(hp:p.block<base)(u:Value):(w.setCell p u).ownsRow base e size v n xs :=
 kf7 h (by intro e;have:=(h.lt _ e).1;omega) u
theorem bt_byte(l:List Nat)(h01:Is01 l)(i:Nat)(h:i<(bt l).size):(bt l)[i].toNat=48+l.getD i 0:=by
 have hi:i<l.length:=by rwa [kej7] at h
 have e:(bt l)[i]=UInt8.ofNat (48+l[i]):=by
  show(bt l).data[i]=_;have e2:=kiq7 l;simp only[e2];simp
 have:=h01 i;rw[e,kaf7 hi];rw[kaf7 hi] at this;simp;omega
theorem kis7(p:Int)(h:decide (1≤p∧p≤4095)=true)(w:World):Calls Tryz.prog 120 #[.int .i64 p] w fun e w'=>e=.returned (.bool true)∧w=w':=by
 have:=validp_any p w;rw[h] at this;exact this
theorem make_bt(l:List Nat)(h01:Is01 l)(hl:l.length≤131072)(w:World) :
  Calls Tryz.prog 106 #[.string (bt l)] w fun e w'=>∃ A n c,e=.returned (.tuple #[.agg #[.slice A n c,.int .i64 l.length],.agg #[.int .i64 0,.int .i64 0]])∧w'.ownsRow w.heap.size 5 1 (.slice A n c) n (bcells (pack l))∧Below w.heap.size w w':=by
 have e:tbits (bt l) (bt l).size=l:=by
  unfold tbits;rw[List.take_of_length_le (by rw[Array.length_toList];exact Nat.le_refl _),kiq7];apply List.ext_getElem
  ·simp
  ·intro i h1 h2;have:=h01 i;rw[kaf7 h2] at this;simp;omega
 refine(make_upto (bt l) (bt l).size w (by rw[kej7];exact hl) (fun i h _=>?_) (Nat.le_refl _) (fun h=>absurd h (Nat.lt_irrefl _))).mono ?_
 ·have:=h01 i;rw[bt_byte l h01 i h];omega
 ·rintro e2 w' (⟨h,_⟩|⟨_,A,n,c,rfl,ho,hb⟩)
  ·exact absurd h (Nat.lt_irrefl _)
  ·rw[e] at ho ⊢;exact⟨A,n,c,rfl,ho,hb⟩
theorem kdb7(lo hi q:Int)(r:Bool)(hr:r=true↔COk lo hi q)(w:World) :
  Calls Tryz.prog 118 #[.agg #[.int .i64 lo,.int .i64 hi,.int .i64 q]] w fun e w'=>e=.returned (.bool r)∧Below w.heap.size w w':=by
 have X0:=Three.new w 141 (.int .i64 lo) (.int .i64 hi) (.int .i64 q);have y0:Below w.heap.size w (w.alloc (.cells #[.int .i64 lo,.int .i64 hi,.int .i64 q] 141)):=(Below.refl _ _).alloc (Nat.le_refl _) _;have c0:=X0.c0;have c1:=X0.c1;have c2:=X0.c2;by_cases hw:Wid lo hi
 ·have HD:=Lib.hid (show true=decide (Wid lo hi) by simp[hw]);by_cases h1:0≤q
  ·have k1:decide ((0:Int)≤q)=true:=by simpa using h1
   by_cases h2:q≤131056
   ·have k2:decide (q≤131056)=true:=by simpa using h2
    obtain rfl:r=true:=hr.2 ⟨hw,h1,h2⟩;clear hr hw h1 h2
    go_enter Tryz.func118,Tryz.ntmps118
    go_wp2_with fail
    refine(kip7 _ _ true HD.out _).mono ?_;rintro e w9 ⟨rfl,rfl⟩
    go_wp2
    go_ret
    exact⟨rfl,y0⟩
   ·have k2:decide (q≤131056)=false:=by simpa using h2
    obtain rfl:r=false:=by rw[Bool.eq_false_iff];exact fun e=>h2 (hr.1 e).2.2
    clear hr hw h1 h2
    go_enter Tryz.func118,Tryz.ntmps118
    go_wp2_with fail
    refine(kip7 _ _ true HD.out _).mono ?_;rintro e w9 ⟨rfl,rfl⟩
    go_wp2
    go_ret
    exact⟨rfl,y0⟩
  ·have k1:decide ((0:Int)≤q)=false:=by simpa using h1
   obtain rfl:r=false:=by rw[Bool.eq_false_iff];exact fun e=>h1 (hr.1 e).2.1
   clear hr hw h1
   go_enter Tryz.func118,Tryz.ntmps118
   go_wp2_with fail
   refine(kip7 _ _ true HD.out _).mono ?_;rintro e w9 ⟨rfl,rfl⟩
   go_wp2
   go_ret
   exact⟨rfl,y0⟩
 ·have HD:=Lib.hid (show false=decide (Wid lo hi) by simp[hw]);obtain rfl:r=false:=by rw[Bool.eq_false_iff];exact fun e=>hw (hr.1 e).1
  clear hr hw
  go_enter Tryz.func118,Tryz.ntmps118
  go_wp2_with fail
  refine(kip7 _ _ false HD.out _).mono ?_;rintro e w9 ⟨rfl,rfl⟩
  go_wp2
  go_ret
  exact⟨rfl,y0⟩
theorem put_ok0{lo hi p:Int}{b q:Nat}(hok:COk lo hi (q:Nat))(h1:1≤p)(h2:p≤4095)(hb:b=0)(LO HI:Int)(S:List Nat)(Q:Nat)(hLO:LO=(stp lo hi b p).1)(hHI:HI=(stp lo hi b p).2.1)(hS:S=(sentf (stp lo hi b p).2.2 q).1)(hQ:Q=(sentf (stp lo hi b p).2.2 q).2)(hbig:Q≤131056)(w:World) :
  Calls Tryz.prog 104 #[.agg #[.int .i64 lo,.int .i64 hi,.int .i64 (q:Nat)],.int .i64 (b:Nat),.int .i64 p] w fun e w'=>∃ A n c,e=.returned (.tuple #[.agg #[.int .i64 LO,.int .i64 HI,.int .i64 (Q:Nat)],.agg #[.slice A n c,.int .i64 S.length],.agg #[.int .i64 0,.int .i64 0]])∧Rd w' A n c (bcells (pack S))∧Below w.heap.size w w':=by
 have HOK:=Lib.hid (fun(W:World)=>kdb7 lo hi (q:Nat) true ⟨fun _=>hok,fun _=>rfl⟩ W);have HP:=Lib.hid (show decide (1≤p∧p≤4095)=true from decide_eq_true ⟨h1,h2⟩);have hqq:=hok.2.2;have HEN:=Lib.hid (fun(W:World)=>encode_any hok.1 h1 h2 (b:=b) (by omega) (q:=q) (by omega) LO HI S Q hLO hHI hS hQ W);have h01:Is01 S:=Is01.of_mem fun x hx=>by have:=sentf_le _ (kah7 b hok.1 h1 h2).2.2.1 q x (by rw[←hS];exact hx);omega
 have hlen:S.length+Q=(stp lo hi b p).2.2.length+q:=by rw[hS,hQ];exact kbr7 _ _
 have h14:=(kah7 b hok.1 h1 h2).2.1;have hSl:S.length≤131072:=by omega
 have HMK:=Lib.hid (fun(W:World)=>make_bt S h01 hSl W);clear hok h1 h2 hLO hHI hS hQ h01 hlen h14 hqq hSl;subst hb;have k0:(((0:Nat):Int) != 0)=false:=rfl;have P_0:=((((Three.new w 141 (.int .i64 lo) (.int .i64 hi) (.int .i64 (q:Nat)))).alloc (.cells #[.int .i64 0,.int .i64 0,.int .i64 0] 141)).alloc (.cells #[.slice none 0 0,.int .i64 0] 70)).alloc (.cells #[.int .i64 0,.int .i64 0] 24);have X_0:=(((Three.new1 w (.cells #[.int .i64 lo,.int .i64 hi,.int .i64 (q:Nat)] 141) 141 (.int .i64 0) (.int .i64 0) (.int .i64 0))).alloc (.cells #[.slice none 0 0,.int .i64 0] 70)).alloc (.cells #[.int .i64 0,.int .i64 0] 24);have Y_0:=((Two.new2 w (.cells #[.int .i64 lo,.int .i64 hi,.int .i64 (q:Nat)] 141) (.cells #[.int .i64 0,.int .i64 0,.int .i64 0] 141) 70 (.slice none 0 0) (.int .i64 0))).alloc (.cells #[.int .i64 0,.int .i64 0] 24);have F_0:=(Two.new3 w (.cells #[.int .i64 lo,.int .i64 hi,.int .i64 (q:Nat)] 141) (.cells #[.int .i64 0,.int .i64 0,.int .i64 0] 141) (.cells #[.slice none 0 0,.int .i64 0] 70) 24 (.int .i64 0) (.int .i64 0))
 have Z0:=((((Below.refl w.heap.size w).alloc (by simp) (.cells #[.int .i64 lo,.int .i64 hi,.int .i64 (q:Nat)] 141)).alloc (by simp) (.cells #[.int .i64 0,.int .i64 0,.int .i64 0] 141)).alloc (by simp;omega) (.cells #[.slice none 0 0,.int .i64 0] 70)).alloc (by simp;omega) (.cells #[.int .i64 0,.int .i64 0] 24);have P_0_c0:=P_0.c0;have P_0_c1:=P_0.c1;have P_0_c2:=P_0.c2;have X_0_c0:=X_0.c0;have X_0_c1:=X_0.c1;have X_0_c2:=X_0.c2;have X_0_f0:=X_0.f0;have X_0_f1:=X_0.f1;have X_0_f2:=X_0.f2;have Y_0_c0:=Y_0.c0;have Y_0_c1:=Y_0.c1;have Y_0_f0:=Y_0.f0;have Y_0_f1:=Y_0.f1;have F_0_c0:=F_0.c0;have F_0_c1:=F_0.c1;have F_0_f0:=F_0.f0;have F_0_f1:=F_0.f1
 go_enter Tryz.func104,Tryz.ntmps104
 go_wp2_with fail
 refine(HOK.out _).mono ?_;rintro e w1 ⟨rfl,y1⟩;have P_1:=P_0.on y1;have X_1:=X_0.on y1;have Y_1:=Y_0.on y1;have F_1:=F_0.on y1;clear P_0 P_0_c0 P_0_c1 P_0_c2 X_0 X_0_c0 X_0_c1 X_0_c2 X_0_f0 X_0_f1 X_0_f2 Y_0 Y_0_c0 Y_0_c1 Y_0_f0 Y_0_f1 F_0 F_0_c0 F_0_c1 F_0_f0 F_0_f1;have z1:=Z0.trans (y1.mono Z0.size);have Z1:=z1;have P_1_c0:=P_1.c0;have P_1_c1:=P_1.c1;have P_1_c2:=P_1.c2;have X_1_c0:=X_1.c0;have X_1_c1:=X_1.c1;have X_1_c2:=X_1.c2;have X_1_f0:=X_1.f0;have X_1_f1:=X_1.f1;have X_1_f2:=X_1.f2;have Y_1_c0:=Y_1.c0;have Y_1_c1:=Y_1.c1;have Y_1_f0:=Y_1.f0;have Y_1_f1:=Y_1.f1;have F_1_c0:=F_1.c0;have F_1_c1:=F_1.c1;have F_1_f0:=F_1.f0;have F_1_f1:=F_1.f1
 go_wp2_with fail
 refine(kis7 _ HP.out _).mono ?_;rintro e w9_1 ⟨rfl,rfl⟩;have LT0:=F_1.lt
 go_wp2_with fail
 refine(HEN.out _).mono ?_;rintro e w2 ⟨rfl,y2⟩;have P_2:=(P_1.on y2).alloc (.cells #[.int .i64 LO,.int .i64 HI,.int .i64 (Q:Nat)] 141);have X_2:=(X_1.on y2).alloc (.cells #[.int .i64 LO,.int .i64 HI,.int .i64 (Q:Nat)] 141);have Y_2:=(Y_1.on y2).alloc (.cells #[.int .i64 LO,.int .i64 HI,.int .i64 (Q:Nat)] 141);have F_2:=(F_1.on y2).alloc (.cells #[.int .i64 LO,.int .i64 HI,.int .i64 (Q:Nat)] 141);have N_2:=(Three.new w2 141 (.int .i64 LO) (.int .i64 HI) (.int .i64 (Q:Nat)))
 clear P_1 P_1_c0 P_1_c1 P_1_c2 X_1 X_1_c0 X_1_c1 X_1_c2 X_1_f0 X_1_f1 X_1_f2 Y_1 Y_1_c0 Y_1_c1 Y_1_f0 Y_1_f1 F_1 F_1_c0 F_1_c1 F_1_f0 F_1_f1;have z2:=Z1.trans (y2.mono Z1.size);have Z2:=(z2).alloc (by have:=z2.size;omega) (.cells #[.int .i64 LO,.int .i64 HI,.int .i64 (Q:Nat)] 141);have P_2_c0:=P_2.c0;have P_2_c1:=P_2.c1;have P_2_c2:=P_2.c2;have X_2_c0:=X_2.c0;have X_2_c1:=X_2.c1;have X_2_c2:=X_2.c2;have X_2_f0:=X_2.f0;have X_2_f1:=X_2.f1;have X_2_f2:=X_2.f2;have Y_2_c0:=Y_2.c0;have Y_2_c1:=Y_2.c1;have Y_2_f0:=Y_2.f0;have Y_2_f1:=Y_2.f1;have F_2_c0:=F_2.c0;have F_2_c1:=F_2.c1;have F_2_f0:=F_2.f0;have F_2_f1:=F_2.f1;have N_2_c0:=N_2.c0;have N_2_c1:=N_2.c1;have N_2_c2:=N_2.c2;have LT:=F_2.lt
 go_wp2_with fail
 refine(HMK.out _).mono ?_;rintro e w3 ⟨A1,n1,c1,rfl,R1,y3⟩;have P_3:=((P_2.on y3).alloc (.cells #[.slice A1 n1 c1,.int .i64 S.length] 70)).alloc (.cells #[.int .i64 0,.int .i64 0] 24);have X_3:=((X_2.on y3).alloc (.cells #[.slice A1 n1 c1,.int .i64 S.length] 70)).alloc (.cells #[.int .i64 0,.int .i64 0] 24);have Y_3:=((Y_2.on y3).alloc (.cells #[.slice A1 n1 c1,.int .i64 S.length] 70)).alloc (.cells #[.int .i64 0,.int .i64 0] 24);have F_3:=((F_2.on y3).alloc (.cells #[.slice A1 n1 c1,.int .i64 S.length] 70)).alloc (.cells #[.int .i64 0,.int .i64 0] 24);have N_3:=((N_2.on y3).alloc (.cells #[.slice A1 n1 c1,.int .i64 S.length] 70)).alloc (.cells #[.int .i64 0,.int .i64 0] 24);have R_3:=((R1).alloc (.cells #[.slice A1 n1 c1,.int .i64 S.length] 70)).alloc (.cells #[.int .i64 0,.int .i64 0] 24);have G_3:=((Two.new w3 70 (.slice A1 n1 c1) (.int .i64 S.length))).alloc (.cells #[.int .i64 0,.int .i64 0] 24);have H_3:=(Two.new1 w3 (.cells #[.slice A1 n1 c1,.int .i64 S.length] 70) 24 (.int .i64 0) (.int .i64 0))
 clear P_2 P_2_c0 P_2_c1 P_2_c2 X_2 X_2_c0 X_2_c1 X_2_c2 X_2_f0 X_2_f1 X_2_f2 Y_2 Y_2_c0 Y_2_c1 Y_2_f0 Y_2_f1 F_2 F_2_c0 F_2_c1 F_2_f0 F_2_f1 N_2 N_2_c0 N_2_c1 N_2_c2;have z3:=Z2.trans (y3.mono Z2.size);have Z3:=((z3).alloc (by have:=z3.size;omega) (.cells #[.slice A1 n1 c1,.int .i64 S.length] 70)).alloc (by have:=z3.size;simp;omega) (.cells #[.int .i64 0,.int .i64 0] 24);have P_3_c0:=P_3.c0;have P_3_c1:=P_3.c1;have P_3_c2:=P_3.c2;have X_3_c0:=X_3.c0;have X_3_c1:=X_3.c1;have X_3_c2:=X_3.c2;have X_3_f0:=X_3.f0;have X_3_f1:=X_3.f1;have X_3_f2:=X_3.f2;have Y_3_c0:=Y_3.c0;have Y_3_c1:=Y_3.c1;have Y_3_f0:=Y_3.f0;have Y_3_f1:=Y_3.f1;have F_3_c0:=F_3.c0;have F_3_c1:=F_3.c1;have F_3_f0:=F_3.f0;have F_3_f1:=F_3.f1;have N_3_c0:=N_3.c0;have N_3_c1:=N_3.c1;have N_3_c2:=N_3.c2;have G_3_c0:=G_3.c0;have G_3_c1:=G_3.c1;have H_3_c0:=H_3.c0;have H_3_c1:=H_3.c1;have ap0:w.heap.size+3<w2.heap.size:=by have:=LT0;have:=y2.size;have:=y3.size;(try simp at *);omega
 have ap0_0:w2.heap.size≠w.heap.size:=by omega
 have ap0_0r:w.heap.size≠w2.heap.size:=by omega
 have ap0_1:w2.heap.size≠w.heap.size+1:=by omega
 have ap0_1r:w.heap.size+1≠w2.heap.size:=by omega
 have ap0_2:w2.heap.size≠w.heap.size+1+1:=by omega
 have ap0_2r:w.heap.size+1+1≠w2.heap.size:=by omega
 have ap0_3:w2.heap.size≠w.heap.size+1+1+1:=by omega
 have ap0_3r:w.heap.size+1+1+1≠w2.heap.size:=by omega
 have ap1:w.heap.size+3<w3.heap.size:=by have:=LT0;have:=y2.size;have:=y3.size;(try simp at *);omega
 have ap1_0:w3.heap.size≠w.heap.size:=by omega
 have ap1_0r:w.heap.size≠w3.heap.size:=by omega
 have ap1_1:w3.heap.size≠w.heap.size+1:=by omega
 have ap1_1r:w.heap.size+1≠w3.heap.size:=by omega
 have ap1_2:w3.heap.size≠w.heap.size+1+1:=by omega
 have ap1_2r:w.heap.size+1+1≠w3.heap.size:=by omega
 have ap1_3:w3.heap.size≠w.heap.size+1+1+1:=by omega
 have ap1_3r:w.heap.size+1+1+1≠w3.heap.size:=by omega
 have ap2:w.heap.size+3<w3.heap.size+1:=by have:=LT0;have:=y2.size;have:=y3.size;(try simp at *);omega
 have ap2_0:w3.heap.size+1≠w.heap.size:=by omega
 have ap2_0r:w.heap.size≠w3.heap.size+1:=by omega
 have ap2_1:w3.heap.size+1≠w.heap.size+1:=by omega
 have ap2_1r:w.heap.size+1≠w3.heap.size+1:=by omega
 have ap2_2:w3.heap.size+1≠w.heap.size+1+1:=by omega
 have ap2_2r:w.heap.size+1+1≠w3.heap.size+1:=by omega
 have ap2_3:w3.heap.size+1≠w.heap.size+1+1+1:=by omega
 have ap2_3r:w.heap.size+1+1+1≠w3.heap.size+1:=by omega
 go_wp2_with fail
 go_region
 go_wp2
 have rX:=((((((((X_3.set0 (.int .i64 LO)).set1 (.int .i64 HI)).set2 (.int .i64 (Q:Nat))).far (p:=⟨w.heap.size+2,0,none⟩) (by simp) (.slice A1 n1 c1)).far (p:=⟨w.heap.size+2,1,none⟩) (by simp) (.int .i64 S.length)).far (p:=⟨w.heap.size+3,0,none⟩) (by simp) (.int .i64 0)).far (p:=⟨w.heap.size+3,1,none⟩) (by simp) (.int .i64 0))).drew;have rX_0:=rX.c0;have rX_1:=rX.c1;have rX_2:=rX.c2;have rY:=((((((((Y_3.far (p:=⟨w.heap.size+1,0,none⟩) (by simp) (.int .i64 LO)).far (p:=⟨w.heap.size+1,1,none⟩) (by simp) (.int .i64 HI)).far (p:=⟨w.heap.size+1,2,none⟩) (by simp) (.int .i64 (Q:Nat))).set0 (.slice A1 n1 c1)).set1 (.int .i64 S.length)).far (p:=⟨w.heap.size+3,0,none⟩) (by simp) (.int .i64 0)).far (p:=⟨w.heap.size+3,1,none⟩) (by simp) (.int .i64 0))).drew;have rY_0:=rY.c0;have rY_1:=rY.c1;have rF:=((((((((F_3.far (p:=⟨w.heap.size+1,0,none⟩) (by simp) (.int .i64 LO)).far (p:=⟨w.heap.size+1,1,none⟩) (by simp) (.int .i64 HI)).far (p:=⟨w.heap.size+1,2,none⟩) (by simp) (.int .i64 (Q:Nat))).far (p:=⟨w.heap.size+2,0,none⟩) (by simp) (.slice A1 n1 c1)).far (p:=⟨w.heap.size+2,1,none⟩) (by simp) (.int .i64 S.length)).set0 (.int .i64 0)).set1 (.int .i64 0))).drew;have rF_0:=rF.c0;have rF_1:=rF.c1
 exact bodyPost_ret (v:=.tuple #[.agg #[.int .i64 LO,.int .i64 HI,.int .i64 (Q:Nat)],.agg #[.slice A1 n1 c1,.int .i64 S.length],.agg #[.int .i64 0,.int .i64 0]]) (by simp[results,Tryz.results104,go_sem,rX_0,rX_1,rX_2,rY_0,rY_1,rF_0,rF_1]) rfl ⟨A1,n1,c1,rfl,Rd.own (kdr7 (kbf7 (kbf7 (kbf7 (kbf7 (kbf7 (kbf7 (kbf7 R_3 (p:=⟨w.heap.size+1,0,none⟩) (Nat.lt_of_le_of_lt (by simp) LT) (.int .i64 LO)) (p:=⟨w.heap.size+1,1,none⟩) (Nat.lt_of_le_of_lt (by simp) LT) (.int .i64 HI)) (p:=⟨w.heap.size+1,2,none⟩) (Nat.lt_of_le_of_lt (by simp) LT) (.int .i64 (Q:Nat))) (p:=⟨w.heap.size+2,0,none⟩) (Nat.lt_of_le_of_lt (by simp) LT) (.slice A1 n1 c1)) (p:=⟨w.heap.size+2,1,none⟩) (Nat.lt_of_le_of_lt (by simp) LT) (.int .i64 S.length)) (p:=⟨w.heap.size+3,0,none⟩) (Nat.lt_of_le_of_lt (by simp) LT) (.int .i64 0)) (p:=⟨w.heap.size+3,1,none⟩) (Nat.lt_of_le_of_lt (by simp) LT) (.int .i64 0))),(belowD (((((((Z3.setCell (p:=⟨w.heap.size+1,0,none⟩) (by simp) (.int .i64 LO)).setCell (p:=⟨w.heap.size+1,1,none⟩) (by simp) (.int .i64 HI)).setCell (p:=⟨w.heap.size+1,2,none⟩) (by simp) (.int .i64 (Q:Nat))).setCell (p:=⟨w.heap.size+2,0,none⟩) (by simp) (.slice A1 n1 c1)).setCell (p:=⟨w.heap.size+2,1,none⟩) (by simp) (.int .i64 S.length)).setCell (p:=⟨w.heap.size+3,0,none⟩) (by simp) (.int .i64 0)).setCell (p:=⟨w.heap.size+3,1,none⟩) (by simp) (.int .i64 0)))⟩
theorem put_ok1{lo hi p:Int}{b q:Nat}(hok:COk lo hi (q:Nat))(h1:1≤p)(h2:p≤4095)(hb:b=1)(LO HI:Int)(S:List Nat)(Q:Nat)(hLO:LO=(stp lo hi b p).1)(hHI:HI=(stp lo hi b p).2.1)(hS:S=(sentf (stp lo hi b p).2.2 q).1)(hQ:Q=(sentf (stp lo hi b p).2.2 q).2)(hbig:Q≤131056)(w:World) :
  Calls Tryz.prog 104 #[.agg #[.int .i64 lo,.int .i64 hi,.int .i64 (q:Nat)],.int .i64 (b:Nat),.int .i64 p] w fun e w'=>∃ A n c,e=.returned (.tuple #[.agg #[.int .i64 LO,.int .i64 HI,.int .i64 (Q:Nat)],.agg #[.slice A n c,.int .i64 S.length],.agg #[.int .i64 0,.int .i64 0]])∧Rd w' A n c (bcells (pack S))∧Below w.heap.size w w':=by
 have HOK:=Lib.hid (fun(W:World)=>kdb7 lo hi (q:Nat) true ⟨fun _=>hok,fun _=>rfl⟩ W);have HP:=Lib.hid (show decide (1≤p∧p≤4095)=true from decide_eq_true ⟨h1,h2⟩);have hqq:=hok.2.2;have HEN:=Lib.hid (fun(W:World)=>encode_any hok.1 h1 h2 (b:=b) (by omega) (q:=q) (by omega) LO HI S Q hLO hHI hS hQ W);have h01:Is01 S:=Is01.of_mem fun x hx=>by have:=sentf_le _ (kah7 b hok.1 h1 h2).2.2.1 q x (by rw[←hS];exact hx);omega
 have hlen:S.length+Q=(stp lo hi b p).2.2.length+q:=by rw[hS,hQ];exact kbr7 _ _
 have h14:=(kah7 b hok.1 h1 h2).2.1;have hSl:S.length≤131072:=by omega
 have HMK:=Lib.hid (fun(W:World)=>make_bt S h01 hSl W);clear hok h1 h2 hLO hHI hS hQ h01 hlen h14 hqq hSl;subst hb;have k0:(((1:Nat):Int) != 0)=true:=rfl;have k1:(((1:Nat):Int) != 1)=false:=rfl;have P_0:=((((Three.new w 141 (.int .i64 lo) (.int .i64 hi) (.int .i64 (q:Nat)))).alloc (.cells #[.int .i64 0,.int .i64 0,.int .i64 0] 141)).alloc (.cells #[.slice none 0 0,.int .i64 0] 70)).alloc (.cells #[.int .i64 0,.int .i64 0] 24);have X_0:=(((Three.new1 w (.cells #[.int .i64 lo,.int .i64 hi,.int .i64 (q:Nat)] 141) 141 (.int .i64 0) (.int .i64 0) (.int .i64 0))).alloc (.cells #[.slice none 0 0,.int .i64 0] 70)).alloc (.cells #[.int .i64 0,.int .i64 0] 24);have Y_0:=((Two.new2 w (.cells #[.int .i64 lo,.int .i64 hi,.int .i64 (q:Nat)] 141) (.cells #[.int .i64 0,.int .i64 0,.int .i64 0] 141) 70 (.slice none 0 0) (.int .i64 0))).alloc (.cells #[.int .i64 0,.int .i64 0] 24);have F_0:=(Two.new3 w (.cells #[.int .i64 lo,.int .i64 hi,.int .i64 (q:Nat)] 141) (.cells #[.int .i64 0,.int .i64 0,.int .i64 0] 141) (.cells #[.slice none 0 0,.int .i64 0] 70) 24 (.int .i64 0) (.int .i64 0))
 have Z0:=((((Below.refl w.heap.size w).alloc (by simp) (.cells #[.int .i64 lo,.int .i64 hi,.int .i64 (q:Nat)] 141)).alloc (by simp) (.cells #[.int .i64 0,.int .i64 0,.int .i64 0] 141)).alloc (by simp;omega) (.cells #[.slice none 0 0,.int .i64 0] 70)).alloc (by simp;omega) (.cells #[.int .i64 0,.int .i64 0] 24);have P_0_c0:=P_0.c0;have P_0_c1:=P_0.c1;have P_0_c2:=P_0.c2;have X_0_c0:=X_0.c0;have X_0_c1:=X_0.c1;have X_0_c2:=X_0.c2;have X_0_f0:=X_0.f0;have X_0_f1:=X_0.f1;have X_0_f2:=X_0.f2;have Y_0_c0:=Y_0.c0;have Y_0_c1:=Y_0.c1;have Y_0_f0:=Y_0.f0;have Y_0_f1:=Y_0.f1;have F_0_c0:=F_0.c0;have F_0_c1:=F_0.c1;have F_0_f0:=F_0.f0;have F_0_f1:=F_0.f1
 go_enter Tryz.func104,Tryz.ntmps104
 go_wp2_with fail
 refine(HOK.out _).mono ?_;rintro e w1 ⟨rfl,y1⟩;have P_1:=P_0.on y1;have X_1:=X_0.on y1;have Y_1:=Y_0.on y1;have F_1:=F_0.on y1;clear P_0 P_0_c0 P_0_c1 P_0_c2 X_0 X_0_c0 X_0_c1 X_0_c2 X_0_f0 X_0_f1 X_0_f2 Y_0 Y_0_c0 Y_0_c1 Y_0_f0 Y_0_f1 F_0 F_0_c0 F_0_c1 F_0_f0 F_0_f1;have z1:=Z0.trans (y1.mono Z0.size);have Z1:=z1;have P_1_c0:=P_1.c0;have P_1_c1:=P_1.c1;have P_1_c2:=P_1.c2;have X_1_c0:=X_1.c0;have X_1_c1:=X_1.c1;have X_1_c2:=X_1.c2;have X_1_f0:=X_1.f0;have X_1_f1:=X_1.f1;have X_1_f2:=X_1.f2;have Y_1_c0:=Y_1.c0;have Y_1_c1:=Y_1.c1;have Y_1_f0:=Y_1.f0;have Y_1_f1:=Y_1.f1;have F_1_c0:=F_1.c0;have F_1_c1:=F_1.c1;have F_1_f0:=F_1.f0;have F_1_f1:=F_1.f1
 go_wp2_with fail
 refine(kis7 _ HP.out _).mono ?_;rintro e w9_1 ⟨rfl,rfl⟩;have LT0:=F_1.lt
 go_wp2_with fail
 refine(HEN.out _).mono ?_;rintro e w2 ⟨rfl,y2⟩;have P_2:=(P_1.on y2).alloc (.cells #[.int .i64 LO,.int .i64 HI,.int .i64 (Q:Nat)] 141);have X_2:=(X_1.on y2).alloc (.cells #[.int .i64 LO,.int .i64 HI,.int .i64 (Q:Nat)] 141);have Y_2:=(Y_1.on y2).alloc (.cells #[.int .i64 LO,.int .i64 HI,.int .i64 (Q:Nat)] 141);have F_2:=(F_1.on y2).alloc (.cells #[.int .i64 LO,.int .i64 HI,.int .i64 (Q:Nat)] 141);have N_2:=(Three.new w2 141 (.int .i64 LO) (.int .i64 HI) (.int .i64 (Q:Nat)))
 clear P_1 P_1_c0 P_1_c1 P_1_c2 X_1 X_1_c0 X_1_c1 X_1_c2 X_1_f0 X_1_f1 X_1_f2 Y_1 Y_1_c0 Y_1_c1 Y_1_f0 Y_1_f1 F_1 F_1_c0 F_1_c1 F_1_f0 F_1_f1;have z2:=Z1.trans (y2.mono Z1.size);have Z2:=(z2).alloc (by have:=z2.size;omega) (.cells #[.int .i64 LO,.int .i64 HI,.int .i64 (Q:Nat)] 141);have P_2_c0:=P_2.c0;have P_2_c1:=P_2.c1;have P_2_c2:=P_2.c2;have X_2_c0:=X_2.c0;have X_2_c1:=X_2.c1;have X_2_c2:=X_2.c2;have X_2_f0:=X_2.f0;have X_2_f1:=X_2.f1;have X_2_f2:=X_2.f2;have Y_2_c0:=Y_2.c0;have Y_2_c1:=Y_2.c1;have Y_2_f0:=Y_2.f0;have Y_2_f1:=Y_2.f1;have F_2_c0:=F_2.c0;have F_2_c1:=F_2.c1;have F_2_f0:=F_2.f0;have F_2_f1:=F_2.f1;have N_2_c0:=N_2.c0;have N_2_c1:=N_2.c1;have N_2_c2:=N_2.c2;have LT:=F_2.lt
 go_wp2_with fail
 refine(HMK.out _).mono ?_;rintro e w3 ⟨A1,n1,c1,rfl,R1,y3⟩;have P_3:=((P_2.on y3).alloc (.cells #[.slice A1 n1 c1,.int .i64 S.length] 70)).alloc (.cells #[.int .i64 0,.int .i64 0] 24);have X_3:=((X_2.on y3).alloc (.cells #[.slice A1 n1 c1,.int .i64 S.length] 70)).alloc (.cells #[.int .i64 0,.int .i64 0] 24);have Y_3:=((Y_2.on y3).alloc (.cells #[.slice A1 n1 c1,.int .i64 S.length] 70)).alloc (.cells #[.int .i64 0,.int .i64 0] 24);have F_3:=((F_2.on y3).alloc (.cells #[.slice A1 n1 c1,.int .i64 S.length] 70)).alloc (.cells #[.int .i64 0,.int .i64 0] 24);have N_3:=((N_2.on y3).alloc (.cells #[.slice A1 n1 c1,.int .i64 S.length] 70)).alloc (.cells #[.int .i64 0,.int .i64 0] 24);have R_3:=((R1).alloc (.cells #[.slice A1 n1 c1,.int .i64 S.length] 70)).alloc (.cells #[.int .i64 0,.int .i64 0] 24);have G_3:=((Two.new w3 70 (.slice A1 n1 c1) (.int .i64 S.length))).alloc (.cells #[.int .i64 0,.int .i64 0] 24);have H_3:=(Two.new1 w3 (.cells #[.slice A1 n1 c1,.int .i64 S.length] 70) 24 (.int .i64 0) (.int .i64 0))
 clear P_2 P_2_c0 P_2_c1 P_2_c2 X_2 X_2_c0 X_2_c1 X_2_c2 X_2_f0 X_2_f1 X_2_f2 Y_2 Y_2_c0 Y_2_c1 Y_2_f0 Y_2_f1 F_2 F_2_c0 F_2_c1 F_2_f0 F_2_f1 N_2 N_2_c0 N_2_c1 N_2_c2;have z3:=Z2.trans (y3.mono Z2.size);have Z3:=((z3).alloc (by have:=z3.size;omega) (.cells #[.slice A1 n1 c1,.int .i64 S.length] 70)).alloc (by have:=z3.size;simp;omega) (.cells #[.int .i64 0,.int .i64 0] 24);have P_3_c0:=P_3.c0;have P_3_c1:=P_3.c1;have P_3_c2:=P_3.c2;have X_3_c0:=X_3.c0;have X_3_c1:=X_3.c1;have X_3_c2:=X_3.c2;have X_3_f0:=X_3.f0;have X_3_f1:=X_3.f1;have X_3_f2:=X_3.f2;have Y_3_c0:=Y_3.c0;have Y_3_c1:=Y_3.c1;have Y_3_f0:=Y_3.f0;have Y_3_f1:=Y_3.f1;have F_3_c0:=F_3.c0;have F_3_c1:=F_3.c1;have F_3_f0:=F_3.f0;have F_3_f1:=F_3.f1;have N_3_c0:=N_3.c0;have N_3_c1:=N_3.c1;have N_3_c2:=N_3.c2;have G_3_c0:=G_3.c0;have G_3_c1:=G_3.c1;have H_3_c0:=H_3.c0;have H_3_c1:=H_3.c1;have ap0:w.heap.size+3<w2.heap.size:=by have:=LT0;have:=y2.size;have:=y3.size;(try simp at *);omega
 have ap0_0:w2.heap.size≠w.heap.size:=by omega
 have ap0_0r:w.heap.size≠w2.heap.size:=by omega
 have ap0_1:w2.heap.size≠w.heap.size+1:=by omega
 have ap0_1r:w.heap.size+1≠w2.heap.size:=by omega
 have ap0_2:w2.heap.size≠w.heap.size+1+1:=by omega
 have ap0_2r:w.heap.size+1+1≠w2.heap.size:=by omega
 have ap0_3:w2.heap.size≠w.heap.size+1+1+1:=by omega
 have ap0_3r:w.heap.size+1+1+1≠w2.heap.size:=by omega
 have ap1:w.heap.size+3<w3.heap.size:=by have:=LT0;have:=y2.size;have:=y3.size;(try simp at *);omega
 have ap1_0:w3.heap.size≠w.heap.size:=by omega
 have ap1_0r:w.heap.size≠w3.heap.size:=by omega
 have ap1_1:w3.heap.size≠w.heap.size+1:=by omega
 have ap1_1r:w.heap.size+1≠w3.heap.size:=by omega
 have ap1_2:w3.heap.size≠w.heap.size+1+1:=by omega
 have ap1_2r:w.heap.size+1+1≠w3.heap.size:=by omega
 have ap1_3:w3.heap.size≠w.heap.size+1+1+1:=by omega
 have ap1_3r:w.heap.size+1+1+1≠w3.heap.size:=by omega
 have ap2:w.heap.size+3<w3.heap.size+1:=by have:=LT0;have:=y2.size;have:=y3.size;(try simp at *);omega
 have ap2_0:w3.heap.size+1≠w.heap.size:=by omega
 have ap2_0r:w.heap.size≠w3.heap.size+1:=by omega
 have ap2_1:w3.heap.size+1≠w.heap.size+1:=by omega
 have ap2_1r:w.heap.size+1≠w3.heap.size+1:=by omega
 have ap2_2:w3.heap.size+1≠w.heap.size+1+1:=by omega
 have ap2_2r:w.heap.size+1+1≠w3.heap.size+1:=by omega
 have ap2_3:w3.heap.size+1≠w.heap.size+1+1+1:=by omega
 have ap2_3r:w.heap.size+1+1+1≠w3.heap.size+1:=by omega
 go_wp2_with fail
 go_region
 go_wp2
 have rX:=((((((((X_3.set0 (.int .i64 LO)).set1 (.int .i64 HI)).set2 (.int .i64 (Q:Nat))).far (p:=⟨w.heap.size+2,0,none⟩) (by simp) (.slice A1 n1 c1)).far (p:=⟨w.heap.size+2,1,none⟩) (by simp) (.int .i64 S.length)).far (p:=⟨w.heap.size+3,0,none⟩) (by simp) (.int .i64 0)).far (p:=⟨w.heap.size+3,1,none⟩) (by simp) (.int .i64 0))).drew;have rX_0:=rX.c0;have rX_1:=rX.c1;have rX_2:=rX.c2;have rY:=((((((((Y_3.far (p:=⟨w.heap.size+1,0,none⟩) (by simp) (.int .i64 LO)).far (p:=⟨w.heap.size+1,1,none⟩) (by simp) (.int .i64 HI)).far (p:=⟨w.heap.size+1,2,none⟩) (by simp) (.int .i64 (Q:Nat))).set0 (.slice A1 n1 c1)).set1 (.int .i64 S.length)).far (p:=⟨w.heap.size+3,0,none⟩) (by simp) (.int .i64 0)).far (p:=⟨w.heap.size+3,1,none⟩) (by simp) (.int .i64 0))).drew;have rY_0:=rY.c0;have rY_1:=rY.c1;have rF:=((((((((F_3.far (p:=⟨w.heap.size+1,0,none⟩) (by simp) (.int .i64 LO)).far (p:=⟨w.heap.size+1,1,none⟩) (by simp) (.int .i64 HI)).far (p:=⟨w.heap.size+1,2,none⟩) (by simp) (.int .i64 (Q:Nat))).far (p:=⟨w.heap.size+2,0,none⟩) (by simp) (.slice A1 n1 c1)).far (p:=⟨w.heap.size+2,1,none⟩) (by simp) (.int .i64 S.length)).set0 (.int .i64 0)).set1 (.int .i64 0))).drew;have rF_0:=rF.c0;have rF_1:=rF.c1
 exact bodyPost_ret (v:=.tuple #[.agg #[.int .i64 LO,.int .i64 HI,.int .i64 (Q:Nat)],.agg #[.slice A1 n1 c1,.int .i64 S.length],.agg #[.int .i64 0,.int .i64 0]]) (by simp[results,Tryz.results104,go_sem,rX_0,rX_1,rX_2,rY_0,rY_1,rF_0,rF_1]) rfl ⟨A1,n1,c1,rfl,Rd.own (kdr7 (kbf7 (kbf7 (kbf7 (kbf7 (kbf7 (kbf7 (kbf7 R_3 (p:=⟨w.heap.size+1,0,none⟩) (Nat.lt_of_le_of_lt (by simp) LT) (.int .i64 LO)) (p:=⟨w.heap.size+1,1,none⟩) (Nat.lt_of_le_of_lt (by simp) LT) (.int .i64 HI)) (p:=⟨w.heap.size+1,2,none⟩) (Nat.lt_of_le_of_lt (by simp) LT) (.int .i64 (Q:Nat))) (p:=⟨w.heap.size+2,0,none⟩) (Nat.lt_of_le_of_lt (by simp) LT) (.slice A1 n1 c1)) (p:=⟨w.heap.size+2,1,none⟩) (Nat.lt_of_le_of_lt (by simp) LT) (.int .i64 S.length)) (p:=⟨w.heap.size+3,0,none⟩) (Nat.lt_of_le_of_lt (by simp) LT) (.int .i64 0)) (p:=⟨w.heap.size+3,1,none⟩) (Nat.lt_of_le_of_lt (by simp) LT) (.int .i64 0))),(belowD (((((((Z3.setCell (p:=⟨w.heap.size+1,0,none⟩) (by simp) (.int .i64 LO)).setCell (p:=⟨w.heap.size+1,1,none⟩) (by simp) (.int .i64 HI)).setCell (p:=⟨w.heap.size+1,2,none⟩) (by simp) (.int .i64 (Q:Nat))).setCell (p:=⟨w.heap.size+2,0,none⟩) (by simp) (.slice A1 n1 c1)).setCell (p:=⟨w.heap.size+2,1,none⟩) (by simp) (.int .i64 S.length)).setCell (p:=⟨w.heap.size+3,0,none⟩) (by simp) (.int .i64 0)).setCell (p:=⟨w.heap.size+3,1,none⟩) (by simp) (.int .i64 0)))⟩
theorem put_ok{lo hi p:Int}{b q:Nat}(hok:COk lo hi (q:Nat))(h1:1≤p)(h2:p≤4095)(hb:b≤1)(LO HI:Int)(S:List Nat)(Q:Nat)(hLO:LO=(stp lo hi b p).1)(hHI:HI=(stp lo hi b p).2.1)(hS:S=(sentf (stp lo hi b p).2.2 q).1)(hQ:Q=(sentf (stp lo hi b p).2.2 q).2)(hbig:Q≤131056)(w:World) :
  Calls Tryz.prog 104 #[.agg #[.int .i64 lo,.int .i64 hi,.int .i64 (q:Nat)],.int .i64 (b:Nat),.int .i64 p] w fun e w'=>∃ A n c,e=.returned (.tuple #[.agg #[.int .i64 LO,.int .i64 HI,.int .i64 (Q:Nat)],.agg #[.slice A n c,.int .i64 S.length],.agg #[.int .i64 0,.int .i64 0]])∧Rd w' A n c (bcells (pack S))∧Below w.heap.size w w':=by
 rcases(by omega:b=0∨b=1) with hb0|hb1
 ·exact put_ok0 hok h1 h2 hb0 LO HI S Q hLO hHI hS hQ hbig w
 ·exact put_ok1 hok h1 h2 hb1 LO HI S Q hLO hHI hS hQ hbig w
theorem finish_ok{lo hi:Int}{q:Nat}(hok:COk lo hi (q:Nat))(b:Nat)(hb:b=if lo<16384 then 0 else 1)(w:World) :
  Calls Tryz.prog 105 #[.agg #[.int .i64 lo,.int .i64 hi,.int .i64 (q:Nat)]] w fun e w'=>∃ A n c,e=.returned (.tuple #[.agg #[.slice A n c,.int .i64 (crt b (q+1)).length],.agg #[.int .i64 0,.int .i64 0]])∧Rd w' A n c (bcells (pack (crt b (q+1))))∧Below w.heap.size w w':=by
 have HOK:=Lib.hid (fun(W:World)=>kdb7 lo hi (q:Nat) true ⟨fun _=>hok,fun _=>rfl⟩ W);have hqq:=hok.2.2;have HFI:=Lib.hid (fun(W:World)=>finish_any (lo:=lo) (hi:=hi) (q:=q) (by omega) b hb W);have h01:Is01 (crt b (q+1)):=Is01.of_mem fun x hx=>by have:=crt_le (b:=b) (q:=q+1) (by rw[hb];split<;>omega) x hx;omega
 have HMK:=Lib.hid (fun(W:World)=>make_bt (crt b (q+1)) h01 (by simp[crt];omega) W);clear hok h01 hqq hb;have P_0:=(((Three.new w 141 (.int .i64 lo) (.int .i64 hi) (.int .i64 (q:Nat)))).alloc (.cells #[.slice none 0 0,.int .i64 0] 70)).alloc (.cells #[.int .i64 0,.int .i64 0] 24);have Y_0:=((Two.new1 w (.cells #[.int .i64 lo,.int .i64 hi,.int .i64 (q:Nat)] 141) 70 (.slice none 0 0) (.int .i64 0))).alloc (.cells #[.int .i64 0,.int .i64 0] 24);have F_0:=(Two.new2 w (.cells #[.int .i64 lo,.int .i64 hi,.int .i64 (q:Nat)] 141) (.cells #[.slice none 0 0,.int .i64 0] 70) 24 (.int .i64 0) (.int .i64 0))
 have Z0:=(((Below.refl w.heap.size w).alloc (by simp) (.cells #[.int .i64 lo,.int .i64 hi,.int .i64 (q:Nat)] 141)).alloc (by simp) (.cells #[.slice none 0 0,.int .i64 0] 70)).alloc (by simp;omega) (.cells #[.int .i64 0,.int .i64 0] 24);have P_0_c0:=P_0.c0;have P_0_c1:=P_0.c1;have P_0_c2:=P_0.c2;have Y_0_c0:=Y_0.c0;have Y_0_c1:=Y_0.c1;have Y_0_f0:=Y_0.f0;have Y_0_f1:=Y_0.f1;have F_0_c0:=F_0.c0;have F_0_c1:=F_0.c1;have F_0_f0:=F_0.f0;have F_0_f1:=F_0.f1
 go_enter Tryz.func105,Tryz.ntmps105
 go_wp2_with fail
 refine(HOK.out _).mono ?_;rintro e w1 ⟨rfl,y1⟩;have P_1:=P_0.on y1;have Y_1:=Y_0.on y1;have F_1:=F_0.on y1;clear P_0 P_0_c0 P_0_c1 P_0_c2 Y_0 Y_0_c0 Y_0_c1 Y_0_f0 Y_0_f1 F_0 F_0_c0 F_0_c1 F_0_f0 F_0_f1;have z1:=Z0.trans (y1.mono Z0.size);have Z1:=z1;have P_1_c0:=P_1.c0;have P_1_c1:=P_1.c1;have P_1_c2:=P_1.c2;have Y_1_c0:=Y_1.c0;have Y_1_c1:=Y_1.c1;have Y_1_f0:=Y_1.f0;have Y_1_f1:=Y_1.f1;have F_1_c0:=F_1.c0;have F_1_c1:=F_1.c1;have F_1_f0:=F_1.f0;have F_1_f1:=F_1.f1
 go_wp2_with fail
 refine(HFI.out _).mono ?_;rintro e w2 ⟨rfl,y2⟩;have P_2:=P_1.on y2;have Y_2:=Y_1.on y2;have F_2:=F_1.on y2;clear P_1 P_1_c0 P_1_c1 P_1_c2 Y_1 Y_1_c0 Y_1_c1 Y_1_f0 Y_1_f1 F_1 F_1_c0 F_1_c1 F_1_f0 F_1_f1;have z2:=Z1.trans (y2.mono Z1.size);have Z2:=z2;have P_2_c0:=P_2.c0;have P_2_c1:=P_2.c1;have P_2_c2:=P_2.c2;have Y_2_c0:=Y_2.c0;have Y_2_c1:=Y_2.c1;have Y_2_f0:=Y_2.f0;have Y_2_f1:=Y_2.f1;have F_2_c0:=F_2.c0;have F_2_c1:=F_2.c1;have F_2_f0:=F_2.f0;have F_2_f1:=F_2.f1;have LT:=F_2.lt
 go_wp2_with fail
 refine(HMK.out _).mono ?_;rintro e w3 ⟨A1,n1,c1,rfl,R1,y3⟩;have P_3:=P_2.on y3;have Y_3:=Y_2.on y3;have F_3:=F_2.on y3;have R_3:=R1;clear P_2 P_2_c0 P_2_c1 P_2_c2 Y_2 Y_2_c0 Y_2_c1 Y_2_f0 Y_2_f1 F_2 F_2_c0 F_2_c1 F_2_f0 F_2_f1;have z3:=Z2.trans (y3.mono Z2.size);have Z3:=z3;have P_3_c0:=P_3.c0;have P_3_c1:=P_3.c1;have P_3_c2:=P_3.c2;have Y_3_c0:=Y_3.c0;have Y_3_c1:=Y_3.c1;have Y_3_f0:=Y_3.f0;have Y_3_f1:=Y_3.f1;have F_3_c0:=F_3.c0;have F_3_c1:=F_3.c1;have F_3_f0:=F_3.f0;have F_3_f1:=F_3.f1
 go_wp2
 have rY:=(((((Y_3.set0 (.slice A1 n1 c1)).set1 (.int .i64 (crt b (q+1)).length)).far (p:=⟨w.heap.size+2,0,none⟩) (by simp) (.int .i64 0)).far (p:=⟨w.heap.size+2,1,none⟩) (by simp) (.int .i64 0)))
 have rY_0:=rY.c0;have rY_1:=rY.c1;have rF:=(((((F_3.far (p:=⟨w.heap.size+1,0,none⟩) (by simp) (.slice A1 n1 c1)).far (p:=⟨w.heap.size+1,1,none⟩) (by simp) (.int .i64 (crt b (q+1)).length)).set0 (.int .i64 0)).set1 (.int .i64 0)))
 have rF_0:=rF.c0;have rF_1:=rF.c1;exact bodyPost_ret (v:=.tuple #[.agg #[.slice A1 n1 c1,.int .i64 (crt b (q+1)).length],.agg #[.int .i64 0,.int .i64 0]]) (by simp[results,Tryz.results105,go_sem,rY_0,rY_1,rF_0,rF_1]) rfl ⟨A1,n1,c1,rfl,Rd.own (kbf7 (kbf7 (kbf7 (kbf7 R_3 (p:=⟨w.heap.size+1,0,none⟩) (Nat.lt_of_le_of_lt (by simp) LT) (.slice A1 n1 c1)) (p:=⟨w.heap.size+1,1,none⟩) (Nat.lt_of_le_of_lt (by simp) LT) (.int .i64 (crt b (q+1)).length)) (p:=⟨w.heap.size+2,0,none⟩) (Nat.lt_of_le_of_lt (by simp) LT) (.int .i64 0)) (p:=⟨w.heap.size+2,1,none⟩) (Nat.lt_of_le_of_lt (by simp) LT) (.int .i64 0)),((((Z3.setCell (p:=⟨w.heap.size+1,0,none⟩) (by simp) (.slice A1 n1 c1)).setCell (p:=⟨w.heap.size+1,1,none⟩) (by simp) (.int .i64 (crt b (q+1)).length)).setCell (p:=⟨w.heap.size+2,0,none⟩) (by simp) (.int .i64 0)).setCell (p:=⟨w.heap.size+2,1,none⟩) (by simp) (.int .i64 0))⟩
end PB
end
section
open Go.RowKit Go.Shelf
namespace PB
def Bld(w:World)(b:Nat)(l:List Nat):Prop:=Lib.IsBuilderF 145 5 b b (Lib.strCells (bt l)) w
def Oth(b:Nat)(w w':World):Prop:=Lib.OthersKept 5 (some b) w w'
theorem strCells_bt(a b:List Nat):Lib.strCells (bt (a++b))=Lib.strCells (bt a)++Lib.strCells (bt b):=by
 rw[kft7];simp[Lib.strCells]
theorem strCells_len(l:List Nat):(Lib.strCells (bt l)).length=l.length:=by rw[Lib.strCells_length,kej7]
theorem Bld.new(w:World):Bld (w.alloc (.cells #[.pointer none,.slice none 0 0] 145)) w.heap.size []:=by
 unfold Bld;exact Lib.IsBuilderF.of (Lib.fresh_isBuilder _ _ w)
theorem Bld.lt{w:World}{b:Nat}{l:List Nat}(h:Bld w b l):b<w.heap.size:=by
 rcases h with h|h
 ·exact h.lt
 ·exact h.lt
theorem Bld.on{w w':World}{b:Nat}{l:List Nat}(h:Bld w b l)(y:Below w.heap.size w w'):Bld w' b l:=by
 have key:∀ p,Lib.BuilderAtF 145 5 b b p (Lib.strCells (bt l)) w→Lib.BuilderAtF 145 5 b b p (Lib.strCells (bt l)) w':=by
  rintro p ⟨hB,v,hb,hown,hne⟩;have hlt:b<w.heap.size:=(Array.getElem?_eq_some_iff.1 hb).1;exact⟨hB,v,(y.block b hlt).trans hb,hown.kept (row:=none) (kgq7 y none) (Classical.em _),hne⟩
 rcases h with h|h
 ·exact .inl (key _ h)
 ·exact .inr (key _ h)
theorem Bld.alloc{w:World}{b:Nat}{l:List Nat}(h:Bld w b l)(o:Obj):Bld (w.alloc o) b l:=h.on ((Below.refl _ _).alloc (Nat.le_refl _) o)
theorem Bld.far{w:World}{b:Nat}{l:List Nat}(h:Bld w b l){s:Nat}{t:TypeId}{cs:Array Value}(hs:Blk w s t cs)(ht:t≠5)(hb:s≠b)(i:Nat)(u:Value):Bld (w.setCell ⟨s,i,none⟩ u) b l:=by
 have key:∀ p,Lib.BuilderAtF 145 5 b b p (Lib.strCells (bt l)) w→Lib.BuilderAtF 145 5 b b p (Lib.strCells (bt l)) (w.setCell ⟨s,i,none⟩ u):=by
  rintro p ⟨hB,v,hbk,hown,hne⟩;refine⟨hB,v,(Below.heap_setCell _ _ _ _ (Ne.symm hb)).trans hbk,?_,hne⟩;refine hown.kept (row:=some s) ⟨rfl,rfl,rfl,by simp[World.setCell],fun k _ hk=>Below.heap_setCell _ _ _ _ (fun e=>hk (by simp[e]))⟩ ?_;refine Or.inr ?_;exact Lib.ownBlock_neF hown hs ht
 rcases h with h|h
 ·exact .inl (key _ h)
 ·exact .inr (key _ h)
theorem Oth.blk{w w':World}{b s:Nat}{t:TypeId}{cs:Array Value}(h:Oth b w w')(hs:Blk w s t cs)(ht:t≠5)(hb:s≠b):Blk w' s t cs :=
 h s _ hs (fun e=>hb (Option.some.inj e)) (fun c fz e=>ht (by injection e))
theorem bld_add{w:World}{b:Nat}{l s:List Nat}(h:Bld w b l)(hl:l.length+s.length≤1000000) :
  Calls Tryz.prog 101 #[.pointer (some ⟨b,0,none⟩),.string (bt s)] w fun e w'=>e=.returned (.tuple #[.int .i64 (bt s).size,.nilIface])∧Bld w' b (l++s)∧Below b w w'∧Oth b w w':=by
 refine(Any.Builder_WriteString_k lays166 Tryz.Builder_Extra_105 b b _ (bt s) w h (by rw[strCells_len,kej7];omega) (Nat.le_of_lt h.lt)).mono ?_;rintro e w' ⟨rfl,hb,y,o⟩;refine⟨rfl,.inr ?_,y,o⟩;unfold PB.Bld at *;rw[strCells_bt];exact hb
theorem bld_str{w:World}{b:Nat}{l:List Nat}(h:Bld w b l) :
  Calls Tryz.prog 107 #[.pointer (some ⟨b,0,none⟩)] w fun e w'=>e=.returned (.string (bt l))∧Below b w w':=by
 refine(Tryz.Builder_String_any_f b b (bt l).data.toList w h (Nat.le_of_lt h.lt)).mono ?_;rintro e w' ⟨rfl,_,y⟩;exact⟨by simp,y⟩
end PB
end
section
open Go
namespace PB
section
variable {P:Program}{ops:Array Oper}{Q:Exit→Act→World→Prop}{md:Region.Mode}{S:World→Prop}{L:Nat}
def AnyL(P:Program)(md:Region.Mode)(ops:Array Oper)(Q:Exit→Act→World→Prop)(S:World→Prop)(L:Nat):Nat→Array Bool→Act→World→Prop
 | 0,listed,a,w=>Region.ready md ops listed=[]∧Q .normal a w
 | fuel+1,listed,a,w=>(Region.ready md ops listed=[]→Q .normal a w) ∧
  ∀ k∈Region.ready md ops listed,wpOp P ops Q k (fun b u=>(k≠L→S u)∧AnyL P md ops Q S L fuel (listed.setIfInBounds k true) b u) a w
theorem AnyL.any:∀ (fuel:Nat) (listed:Array Bool) (a:Act) (w:World),AnyL P md ops Q S L fuel listed a w→wpAny P md ops Q fuel listed a w:=by
 intro fuel
 induction fuel with
 | zero=>intro _ _ _ h;exact h
 | succ f ih=>intro listed a w h;exact⟨h.1,fun k hk=>wpOp_mono (fun b u h2=>ih _ b u h2.2) (h.2 k hk)⟩
def waits(md:Region.Mode)(ops:Array Oper)(L i:Nat):Bool :=
 match ops[L]? with
 | some o=>o.after.any fun e=>Region.binds md e && e.on == i
 | none=>true
theorem not_ready{listed:Array Bool}{i:Nat}(hw:waits md ops L i=true)(hi:i∈Region.ready md ops listed):L ∉ Region.ready md ops listed:=by
 intro hl;obtain⟨hl0,oL,hoL,hall⟩:=mem_ready.1 hl;unfold waits at hw;rw[hoL] at hw;have hw2:∃ e∈oL.after,(Region.binds md e && e.on == i)=true:=by
  first
   | exact List.any_eq_true.1 hw
   | (obtain⟨k,hk,h⟩:=Array.any_eq_true.1 hw;exact⟨_,Array.getElem_mem hk,h⟩)
 obtain⟨e,he,hb⟩:=hw2;rw[Bool.and_eq_true] at hb;have hon:e.on=i:=by simpa using hb.2
 have h3:=hall e he hb.1;rw[hon] at h3;have hi0:=(mem_ready.1 hi).1;rcases Nat.lt_or_ge i listed.size with h'|h'
 ·simp[h'] at hi0 h3;rw[hi0] at h3;cases h3
 ·simp[Array.getElem?_eq_none h'] at h3
theorem AnyL.first{i:Nat}{oi:Oper}{v:Value}(hi:ops[i]?=some oi)(hsel:∀ (j:Nat) (o:Oper) cs b,ops[j]?=some o→o.op≠.select cs b)
  (hQ:∀ c a w,Q (.panic c) (a.put oi.dst v) w→Q (.panic c) a w) (hw:waits md ops L i=true) (hiL:i≠L) :
  ∀ (fuel:Nat) (listed:Array Bool) (a:Act) (w:World),
   (∀ j oj,ops[j]?=some oj→j≠i→listed.getD j true=false→(∀ e∈oj.after,Region.binds md e=true→e.on≠i)→oi.apart ops oj=true) →
   i∈Region.ready md ops listed→YieldsIf P ops S oi v a→S w →
   AnyL P md ops Q S L fuel (listed.setIfInBounds i true) (a.put oi.dst v) w→AnyL P md ops Q S L (fuel+1) listed a w:=by
 intro fuel
 induction fuel with
 | zero =>
  intro listed a w _ hr hy hS H;refine⟨fun h=>absurd hr (by rw[h];simp),fun j hj=>?_⟩;by_cases hji:j=i
  ·subst hji;exact hy.wpOp hi hS ⟨fun _=>hS,H⟩
  ·have:=ready_mono hj hji;rw[H.1] at this;cases this
 | succ fuel ih =>
  intro listed a w hfree hr hy hS H;refine⟨fun h=>absurd hr (by rw[h];simp),fun j hj=>?_⟩;by_cases hji:j=i
  ·subst hji;exact hy.wpOp hi hS ⟨fun _=>hS,H⟩
  ·have hjL:j≠L:=fun e=>not_ready hw hr (e ▸ hj);have s1:=H.2 j (ready_mono hj hji);obtain⟨hun,oj,hoj,hall⟩:=mem_ready.1 hj;have hnot:∀ e∈oj.after,Region.binds md e=true→e.on≠i:=by
    intro e he hb hq;have s2:=hall e he hb;rw[hq] at s2;have s3:=(mem_ready.1 hr).1;rcases Nat.lt_or_ge i listed.size with h'|h'
    ·simp[h'] at s2 s3;rw[s3] at s2;cases s2
    ·simp[Array.getElem?_eq_none h'] at s2
   have s4:=wpOp_putIf hoj (hfree j oj hoj hji hun hnot) (fun cs b=>hsel i oi cs b hi) (fun cs b=>hsel j oj cs b hoj) hQ hy s1;refine wpOp_mono (fun b u h3=>⟨fun _=>h3.2.1 hjL,ih _ b u ?_ (ready_mono hr (Ne.symm hji)) h3.1 (h3.2.1 hjL) ?_⟩) s4
   ·intro k ok hk hki hku hno;refine hfree k ok hk hki ?_ hno;by_cases hjk:j=k
    ·rw[←hjk];exact hun
    ·rw[getD_set_ne true hjk] at hku;exact hku
   ·rw[Array.setIfInBounds_comm _ _ hji];exact h3.2.2
theorem kj7{i:Nat}{oi:Oper}{v:Value}{fuel:Nat}{listed:Array Bool}{a:Act}{w:World}(hi:ops[i]?=some oi)
  (hs:Region.noSelect ops=true) (hf:Region.free md ops listed i=true) (hr:(Region.ready md ops listed).contains i=true) (hw:waits md ops L i=true) (hiL:(i != L)=true)
  (hQ:∀ c a w,Q (.panic c) (a.put oi.dst v) w→Q (.panic c) a w) (hy:YieldsIf P ops S oi v a) (hS:S w)
  (h:AnyL P md ops Q S L fuel (listed.setIfInBounds i true) (a.put oi.dst v) w):AnyL P md ops Q S L (fuel+1) listed a w :=
 AnyL.first hi (Region.noSelect_spec hs) hQ hw (by simpa using hiL) fuel listed a w (Region.free_spec hi hf) (by simpa using hr) hy hS h
def AllL(P:Program)(md:Region.Mode)(ops:Array Oper)(Q:Exit→Act→World→Prop)(S:World→Prop)(L:Nat)(fuel:Nat)(listed:Array Bool)(a:Act)(w:World)(rs:List Nat):Prop :=
 ∀ i∈rs,wpOp P ops Q i (fun b u=>(i≠L→S u)∧AnyL P md ops Q S L fuel (listed.setIfInBounds i true) b u) a w
theorem AllL.nil{fuel:Nat}{listed:Array Bool}{a:Act}{w:World}:AllL P md ops Q S L fuel listed a w []:=fun _ h=>by cases h
theorem AllL.cons{fuel:Nat}{listed:Array Bool}{a:Act}{w:World}{i:Nat}{o:Oper}{rs:List Nat}(ho:ops[i]?=some o)(hiL:(i != L)=true)
  (h:∀ K':Act→World→Prop,Shut (∀ a w,S w→(S w→AnyL P md ops Q S L fuel (listed.setIfInBounds i true) a w)→K' a w)→if Region.wanted o (yielded ops a.tmps)=true then Oper.wp P o a w K' Q else K' (a.put o.dst undef) w)
  (hs:AllL P md ops Q S L fuel listed a w rs):AllL P md ops Q S L fuel listed a w (i::rs):=fun j hj=>by
 rcases List.mem_cons.1 hj with rfl|hj
 ·exact wpOp_step ho (fun K' hK=>h K' (fun a w hS hW=>hK a w ⟨fun _=>hS,hW hS⟩))
 ·exact hs j hj
theorem AllL.last{fuel:Nat}{listed:Array Bool}{a:Act}{w:World}{i:Nat}{o:Oper}{rs:List Nat}(ho:ops[i]?=some o)(hiL:(i == L)=true)
  (h:∀ K':Act→World→Prop,Shut (∀ a w,AnyL P md ops Q S L fuel (listed.setIfInBounds i true) a w→K' a w)→if Region.wanted o (yielded ops a.tmps)=true then Oper.wp P o a w K' Q else K' (a.put o.dst undef) w)
  (hs:AllL P md ops Q S L fuel listed a w rs):AllL P md ops Q S L fuel listed a w (i::rs):=fun j hj=>by
 rcases List.mem_cons.1 hj with rfl|hj
 ·exact wpOp_step ho (fun K' hK=>h K' (fun a w hW=>hK a w ⟨fun e=>absurd (by simpa using hiL) e,hW⟩))
 ·exact hs j hj
theorem kct7{rs:List Nat}{fuel:Nat}{listed:Array Bool}{a:Act}{w:World}(hr:Region.ready md ops listed=rs)(hne:rs≠[])
 (h:AllL P md ops Q S L fuel listed a w rs):AnyL P md ops Q S L (fuel+1) listed a w:=⟨fun h0=>absurd (hr ▸ h0) hne,hr ▸ h⟩
theorem anyL_done{listed:Array Bool}{a:Act}{w:World}(hr:Region.ready md ops listed=[])(h:Q .normal a w):∀ fuel,AnyL P md ops Q S L fuel listed a w:=by
 intro fuel;cases fuel with
 | zero=>exact⟨hr,h⟩
 | succ f=>exact⟨fun _=>h,by rw[hr];simp⟩
theorem kgf7(L:Nat){id:Nat}{a:Act}{w:World}(hm:P.follows .mixedOrders=true)(hS:S w.drew)
  (h:S w.drew→AnyL P .any ops Q S L ops.size (Array.replicate ops.size false) a w.drew):(Code.region id ops true).wp P Q a w :=
 wp_region_any hm (AnyL.any _ _ _ _ (h hS))
end
end PB
end
namespace PB
abbrev Ctx:=Nat×Nat×Nat×Nat
def cbeg(i:Nat):Nat:=i-i % 8
def mbeg(h:List Nat)(i:Nat):Nat:=num (1::(h.drop (cbeg i)).take (i-cbeg i))
def mlast(h:List Nat)(i:Nat):Nat:=if 8≤cbeg i then num ((h.drop (cbeg i-8)).take 8) % 32 else 0
def mbefore(h:List Nat)(i:Nat):Nat:=if 16≤cbeg i then num ((h.drop (cbeg i-16)).take 8) % 32 else 0
def ctx(h:List Nat)(i o:Nat):Ctx:=(o,if 1≤o then mlast h i else 0,if 2≤o then mbefore h i else 0,mbeg h i)
theorem mbeg_zero(h:List Nat):mbeg h 0=1:=by simp[mbeg,cbeg,num]
theorem mlast_zero(h:List Nat):mlast h 0=0:=by simp[mlast,cbeg]
theorem mbefore_zero(h:List Nat):mbefore h 0=0:=by simp[mbefore,cbeg]
theorem mbeg_pos{h:List Nat}(h01:Is01 h)(i:Nat):2 ^ (i % 8)≤mbeg h i∨h.length<i:=by
 rcases Nat.lt_or_ge h.length i with hl|hl
 ·exact .inr hl
 ·left;unfold mbeg;rw[keq7,List.length_take,List.length_drop];have e:min (i-cbeg i) (h.length-cbeg i)=i % 8:=by unfold cbeg;omega
  rw[e];omega
theorem mbeg_lt{h:List Nat}(h01:Is01 h)(i:Nat)(hi:i≤h.length):mbeg h i<2*2 ^ (i % 8):=by
 unfold mbeg;rw[keq7,List.length_take,List.length_drop];have e:min (i-cbeg i) (h.length-cbeg i)=i % 8:=by unfold cbeg;omega
 have:=kcy7 ((h01.drop (cbeg i)).take (i-cbeg i));rw[List.length_take,List.length_drop] at this;rw[e] at this ⊢;omega
theorem kfv7{h:List Nat}(h01:Is01 h)(i:Nat)(hi:i≤h.length):1≤mbeg h i∧mbeg h i<256:=by
 have a:=mbeg_lt h01 i hi;have b:2 ^ (i % 8)≤2 ^ 7:=Nat.pow_le_pow_right (by decide) (by omega);rcases mbeg_pos h01 i with c|c
 ·have:=Nat.two_pow_pos (i % 8);omega
 ·omega
theorem mlast_lt(h:List Nat)(i:Nat):mlast h i<32:=by unfold mlast;split<;>omega
theorem kit7(h:List Nat)(i:Nat):mbefore h i<32:=by unfold mbefore;split<;>omega
theorem mstep{h:List Nat}(i:Nat)(hi:i<h.length):2*mbeg h i+h.getD i 0=num (1::(h.drop (cbeg i)).take (i+1-cbeg i)):=by
 have e:(h.drop (cbeg i)).take (i+1-cbeg i)=(h.drop (cbeg i)).take (i-cbeg i)++[h.getD i 0]:=by
  have e1:i+1-cbeg i=(i-cbeg i)+1:=by unfold cbeg;omega
  rw[e1,List.take_succ_eq_append_getElem (by rw[List.length_drop];unfold cbeg;omega)]
  congr 2
  rw[List.getElem_drop,←kaf7]
  congr 1
  unfold cbeg;omega
 rw[e,←List.cons_append,kdm7];rfl
theorem mstep_in{h:List Nat}(h01:Is01 h)(i:Nat)(hi:i<h.length)(hm:(i+1) % 8≠0):mbeg h (i+1)=2*mbeg h i+h.getD i 0∧mlast h (i+1)=mlast h i∧mbefore h (i+1)=mbefore h i∧2*mbeg h i+h.getD i 0<256:=by
 have e:cbeg (i+1)=cbeg i:=by unfold cbeg;omega
 have s:=mstep i hi;have e1:mbeg h (i+1)=2*mbeg h i+h.getD i 0:=by rw[s];unfold mbeg;rw[e]
 refine⟨e1,by unfold mlast;rw[e],by unfold mbefore;rw[e],?_⟩;rw[←e1];exact(kfv7 h01 (i+1) (by omega)).2
theorem mstep_end{h:List Nat}(h01:Is01 h)(i:Nat)(hi:i<h.length)(hm:(i+1) % 8=0):mbeg h (i+1)=1∧mlast h (i+1)=(2*mbeg h i+h.getD i 0) % 32∧mbefore h (i+1)=mlast h i∧256≤2*mbeg h i+h.getD i 0∧2*mbeg h i+h.getD i 0<512:=by
 have e:cbeg (i+1)=cbeg i+8:=by unfold cbeg;omega
 have e2:cbeg i+8=i+1:=by unfold cbeg;omega
 have s:=mstep i hi;have e3:i+1-cbeg i=8:=by omega
 rw[e3,keq7,List.length_take,List.length_drop] at s;have e4:min 8 (h.length-cbeg i)=8:=by omega
 rw[e4] at s;have hn:=kcy7 ((h01.drop (cbeg i)).take 8);rw[List.length_take,List.length_drop,e4] at hn;refine⟨?_,?_,?_,by rw[s];omega,by rw[s];omega⟩
 ·unfold mbeg;rw[e,e2,Nat.sub_self,List.take_zero];rfl
 ·unfold mlast;rw[e,if_pos (by omega),s,Nat.add_sub_cancel];omega
 ·unfold mbefore mlast;rw[e];by_cases h8:8≤cbeg i
  ·rw[if_pos (by omega),if_pos h8,show cbeg i+8-16=cbeg i-8 by omega]
  ·rw[if_neg (by omega),if_neg h8]
def halve(z o:Nat):Nat×Nat:=if 255≤z+o then((z+1) / 2,(o+1) / 2) else(z,o)
def upd(k:Nat×Nat)(b:Nat):Nat×Nat:=if b=1 then halve k.1 (k.2+1) else halve (k.1+1) k.2
def cnts(h:List Nat)(o:Nat)(c:Ctx):Nat→Nat×Nat
 | 0=>(0,0)
 | k+1=>if ctx h k o=c then upd (cnts h o c k) (h.getD k 0) else cnts h o c k
theorem upd_le{k:Nat×Nat}(h:k.1+k.2≤254)(b:Nat):(upd k b).1+(upd k b).2≤254:=by
 unfold upd halve
 split<;>split<;>(dsimp only;omega)
theorem cnts_le(h:List Nat)(o:Nat)(c:Ctx):∀ i,(cnts h o c i).1+(cnts h o c i).2≤254:=by
 intro i
 induction i with
 | zero=>simp[cnts]
 | succ i ih =>
  rw[cnts]
  split
  ·exact upd_le ih _
  ·exact ih
def hcnt(h:List Nat)(i o:Nat):Nat×Nat:=cnts h o (ctx h i o) i
def mshare(k:Nat×Nat):Nat:=(2*k.2+1)*2048 / (k.1+k.2+1)
def wgt(k:Nat×Nat)(o:Nat):Nat:=min (k.1+k.2) 15*4 ^ o
def pacc2(h:List Nat)(i:Nat):Nat→Nat×Nat
 | 0=>(2048,1)
 | o+1=>((pacc2 h i o).1+wgt (hcnt h i o) o*mshare (hcnt h i o),(pacc2 h i o).2+wgt (hcnt h i o) o)
def predv(h:List Nat)(i ord:Nat):Nat:=(pacc2 h i (ord+1)).1 / (pacc2 h i (ord+1)).2
theorem khh7{k:Nat×Nat}(h:k.1+k.2≤254):8≤mshare k∧mshare k≤4087:=by
 obtain⟨z,o⟩:=k;dsimp only at h;unfold mshare;dsimp only;constructor
 ·rw[Nat.le_div_iff_mul_le (by omega)];omega
 ·rw[Nat.div_le_iff_le_mul_add_pred (by omega)];omega
theorem pacc2_in(h:List Nat)(i:Nat):∀ o,1≤(pacc2 h i o).2∧8*(pacc2 h i o).2≤(pacc2 h i o).1∧(pacc2 h i o).1≤4087*(pacc2 h i o).2:=by
 intro o
 induction o with
 | zero=>simp[pacc2]
 | succ o ih =>
  obtain⟨a,b,c⟩:=ih;obtain⟨s1,s2⟩:=khh7 (cnts_le h o (ctx h i o) i);rw[pacc2];dsimp only;have m1:wgt (hcnt h i o) o*8≤wgt (hcnt h i o) o*mshare (hcnt h i o):=Nat.mul_le_mul_left _ s1;have m2:wgt (hcnt h i o) o*mshare (hcnt h i o)≤wgt (hcnt h i o) o*4087:=Nat.mul_le_mul_left _ s2;generalize wgt (hcnt h i o) o*mshare (hcnt h i o)=x at *;generalize wgt (hcnt h i o) o=y at *;omega
theorem kiu7(h:List Nat)(i ord:Nat):8≤predv h i ord∧predv h i ord≤4087:=by
 obtain⟨a,b,c⟩:=pacc2_in h i (ord+1);unfold predv;constructor
 ·rw[Nat.le_div_iff_mul_le (by omega)];exact b
 ·refine Nat.div_le_of_le_mul ?_;rw[Nat.mul_comm];exact c
theorem kgg7(h m:List Nat)(a n:Nat)(hn:a+n≤h.length):((h++m).drop a).take n=(h.drop a).take n:=by
 rw[List.drop_append_of_le_length (by omega),List.take_append_of_le_length (by rw[List.length_drop];omega)]
theorem kiv7(h m:List Nat)(k o:Nat)(hk:k≤h.length):ctx (h++m) k o=ctx h k o:=by
 have e1:mbeg (h++m) k=mbeg h k:=by unfold mbeg;rw[kgg7 h m _ _ (by unfold cbeg;omega)]
 have e2:mlast (h++m) k=mlast h k:=by
  unfold mlast
  split
  ·rw[kgg7 h m _ _ (by unfold cbeg at *;omega)]
  ·rfl
 have e3:mbefore (h++m) k=mbefore h k:=by
  unfold mbefore
  split
  ·rw[kgg7 h m _ _ (by unfold cbeg at *;omega)]
  ·rfl
 unfold ctx;rw[e1,e2,e3]
theorem cnts_append(h m:List Nat)(o:Nat)(c:Ctx):∀ i,i≤h.length→cnts (h++m) o c i=cnts h o c i:=by
 intro i
 induction i with
 | zero=>intro _;rfl
 | succ i ih =>
  intro hi;rw[cnts,cnts,kiv7 h m i o (by omega),ih (by omega),kc7 (by omega)]
theorem pacc2_append(h m:List Nat)(i:Nat)(hi:i≤h.length):∀ o,pacc2 (h++m) i o=pacc2 h i o:=by
 intro o
 induction o with
 | zero=>rfl
 | succ o ih =>
  have e:hcnt (h++m) i o=hcnt h i o:=by unfold hcnt;rw[kiv7 h m i o hi,cnts_append h m o _ i hi]
  rw[pacc2,pacc2,ih,e]
theorem keu7(h m:List Nat)(i ord:Nat)(hi:i≤h.length):predv (h++m) i ord=predv h i ord:=by
 unfold predv;rw[pacc2_append h m i hi]
theorem predv_take(h:List Nat)(k i ord:Nat)(hi:i≤k)(hk:k≤h.length):predv (h.take k) i ord=predv h i ord:=by
 have:=keu7 (h.take k) (h.drop k) i ord (by rw[List.length_take];omega);rw[List.take_append_drop] at this;exact this.symm
end PB
section
open Go.RowKit
namespace PB
def cval(c:Ctx):Value:=.agg #[.int .i64 (c.1:Nat),.int .i64 (c.2.1:Nat),.int .i64 (c.2.2.1:Nat),.int .i64 (c.2.2.2:Nat)]
def kval(k:Nat×Nat):Value:=.agg #[.int .i64 (k.1:Nat),.int .i64 (k.2:Nat)]
def kdat(k:Nat×Nat):DataW Unit:=.agg [.lit (.int .i64 (k.1:Nat)),.lit (.int .i64 (k.2:Nat))]
def CtxOk(c:Ctx):Prop:=c.1<256∧c.2.1<256∧c.2.2.1<256∧c.2.2.2<256
def cntR(v:Value):Option (DataW Unit×List MemPlace) :=
 match v with
 | .agg cs=>match cs.toList with
  | [.int .i64 z,.int .i64 o]=>some (.agg [.lit (.int .i64 z),.lit (.int .i64 o)],[])
  | _=>none
 | _=>none
theorem cntR_mk(k:Nat×Nat):cntR (kval k)=some (kdat k,[]):=rfl
theorem cntR_inv{v:Value}{k:Nat×Nat}{ps:List MemPlace}(h:cntR v=some (kdat k,ps)):v=kval k:=by
 unfold cntR at h
 split at h
 ·rename_i cs
  split at h
  ·rename_i z o he
   simp only[kdat,Option.some.injEq,Prod.mk.injEq,DataW.agg.injEq,List.cons.injEq,DataW.lit.injEq,Lit.int.injEq,true_and,and_true] at h;obtain⟨⟨h1,h2⟩,h3⟩:=h;subst h1 h2;unfold kval
   congr 1
   exact Array.toList_inj.1 he
  ·cases h
 ·cases h
theorem ctx_row:(185:TypeId)<Tryz.prog.types.size:=of_decide_eq_true (by kernel_rfl)
theorem laid_out:laidOutB Tryz.prog=true:=by kernel_rfl
theorem ctx_law:Go.Maps.Keyed Tryz.prog 185 :=
 Go.Maps.Keyed.of_law (deep_law_laid laid_out (m:=2) (by omega) ctx_row (by kernel_rfl) (by kernel_rfl))
theorem ctx_cells:Tryz.prog.cellsOf 185=4:=by kernel_rfl
theorem khi7:Tryz.prog.cellsOf 3=1:=by kernel_rfl
theorem ctx_kt:Tryz.prog.keyType 185=true:=by kernel_rfl
theorem key_any{c:Ctx}(h:CtxOk c):∃ l,keyOf Tryz.prog 185 (cval c)=some l:=by
 obtain⟨ha,hb,hc,hd⟩:=h;have key:∀ x:Nat,x<256→(Lit.int .i64 (x:Nat)).wf=true:=by
  intro x hx;exact WalkArith.wf_i64 (by omega)
 have k1:=key _ ha;have k2:=key _ hb;have k3:=key _ hc;have k4:=key _ hd;obtain⟨m,hm⟩:∃ m,Tryz.prog.types.size=m+1:=⟨_,Tryz.types_size⟩
 unfold keyOf;simp only[Tryz.underlying185];rw[if_pos (by simp[ctx_kt,Value.formed,cval,Tryz.underlying185,ctx_cells]),hm];unfold Program.keyLits;simp only[Tryz.underlying185,cval,Value.cells,ctx_cells,khi7];simp[Program.keyLits,Tryz.underlying3,khi7,k1,k2,k3,k4]
def CM(w:World)(b n:Nat)(f:Ctx→Nat×Nat):Prop :=
 ∃ D,w.ownsMap Tryz.prog 185 cntR b n D∧∀ c,CtxOk c→∀ l,keyOf Tryz.prog 185 (cval c)=some l→D.atKey l (kdat (0,0))=kdat (f c)
theorem cval_inj{c c':Ctx}(h:cval c=cval c'):c=c':=by
 obtain⟨a1,a2,a3,a4⟩:=c;obtain⟨b1,b2,b3,b4⟩:=c';simp only[cval,Value.agg.injEq,Array.mk.injEq,List.cons.injEq,Value.int.injEq,true_and,and_true] at h;obtain⟨h1,h2,h3,h4⟩:=h
 congr 1
 ·omega
 congr 1
 ·omega
 congr 1
 ·omega
 ·omega
theorem zero_counts(w:World):(zeroValue 187).run Tryz.prog w=.ok (kval (0,0)) w:=by kernel_rfl
def fset(f:Ctx→Nat×Nat)(c:Ctx)(k:Nat×Nat)(c':Ctx):Nat×Nat:=if c'=c then k else f c'
section
variable {w w':World}{b n:Nat}{f:Ctx→Nat×Nat}
theorem CM.made(w:World):CM (w.alloc (.map #[] 0)) w.heap.size 0 (fun _=>(0,0)) :=
 ⟨_,World.ownsMap_made _ _ _ _,fun _ _ _ _=>rfl⟩
theorem CM.lt(h:CM w b n f):b<w.heap.size:=by obtain⟨D,h,_⟩:=h;exact h.lt
theorem CM.kept{row:Option Nat}(h:CM w b n f)(hg:w.grownBy w' row)(hne:some b≠row):CM w' b n f:=by obtain⟨D,h,r⟩:=h;exact⟨D,h.kept hg hne,r⟩
theorem CM.below{B:Nat}(h:CM w b n f)(hb:Below B w w')(hg:b<B):CM w' b n f:=by
 obtain⟨D,⟨es,clock,h1,h2⟩,r⟩:=h;exact⟨D,⟨es,clock,(hb.block b hg).trans h1,h2⟩,r⟩
theorem CM.on(h:CM w b n f)(hb:Below w.heap.size w w'):CM w' b n f:=h.below hb h.lt
theorem CM.alloc(h:CM w b n f)(o:Obj):CM (w.alloc o) b n f:=h.on ((Below.refl _ _).alloc (Nat.le_refl _) o)
theorem CM.drew(h:CM w b n f):CM w.drew b n f:=h
theorem CM.setCell(h:CM w b n f){a:Addr}(ha:b≠a.block)(u:Value):CM (w.setCell a u) b n f:=by obtain⟨D,h,r⟩:=h;exact⟨D,h.setCell ha u,r⟩
theorem CM.ne(h:CM w b n f){g:Nat}{t:TypeId}{cs:Array Value}(hg:Blk w g t cs):b≠g:=by
 rintro rfl;obtain⟨D,⟨es,clock,h1,h2⟩,r⟩:=h;unfold Blk at hg;rw[hg] at h1;cases h1
theorem CM.look(h:CM w b n f){c:Ctx}(hc:CtxOk c):(Instr.lookup 168 (.map (some b)) (cval c) false).run Tryz.prog w=.ok (kval (f c)) w:=by
 obtain⟨D,h,r⟩:=h;obtain⟨l,hl⟩:=key_any hc;obtain⟨v,ps,hrun,hv⟩:=h.lookup (z:=kval (0,0)) ctx_law Tryz.underlying168 (zero_counts w) (cntR_mk (0,0)) hl;rw[r c hc l hl] at hv;rw[hrun,cntR_inv hv]
theorem CM.store(h:CM w b n f){c:Ctx}(hc:CtxOk c)(hn:n<maxLen)(k:Nat×Nat) :
  ∃ w',(Instr.mapUpdate 168 (.map (some b)) (cval c) (kval k)).run Tryz.prog w=.ok () w'∧CM w' b (n+1) (fset f c k)∧w.grownBy w' (some b):=by
 obtain⟨D,h,r⟩:=h;obtain⟨l,hl⟩:=key_any hc;obtain⟨w',h1,h2,h3⟩:=h.update ctx_law Tryz.underlying168 hn hl (cntR_mk k);refine⟨w',h1,⟨_,h2,fun c' hc' l' hl'=>?_⟩,h3⟩;by_cases e:c'=c
 ·subst e;rw[hl] at hl';cases hl';unfold fset;rw[if_pos rfl,Go.Maps.atKey_put_same h.isMap (ctx_law.key hl)]
 ·unfold fset;rw[if_neg e,Go.Maps.atKey_put_other (fun(e2:l'=l)=>e (cval_inj (ctx_law.inj (show keyOf _ _ (cval c')=some l by rw[←e2];exact hl') hl)))];exact r c' hc' l' hl'
end
structure Pm(w:World)(s b n:Nat)(ord la be bg:Nat)(f:Ctx→Nat×Nat):Prop where
 blk:Blk w s 170 #[.int .i64 (ord:Nat),.map (some b),.int .i64 (la:Nat),.int .i64 (be:Nat),.int .i64 (bg:Nat)]
 cm:CM w b n f
section
variable {w w':World}{s b n ord la be bg:Nat}{f:Ctx→Nat×Nat}
theorem Pm.c0(h:Pm w s b n ord la be bg f):w.cell? ⟨s,0,none⟩=some (.int .i64 (ord:Nat)):=by simpa using Blk.cell h.blk 0
theorem Pm.c1(h:Pm w s b n ord la be bg f):w.cell? ⟨s,1,none⟩=some (.map (some b)):=by simpa using Blk.cell h.blk 1
theorem Pm.c2(h:Pm w s b n ord la be bg f):w.cell? ⟨s,2,none⟩=some (.int .i64 (la:Nat)):=by simpa using Blk.cell h.blk 2
theorem Pm.c3(h:Pm w s b n ord la be bg f):w.cell? ⟨s,3,none⟩=some (.int .i64 (be:Nat)):=by simpa using Blk.cell h.blk 3
theorem Pm.c4(h:Pm w s b n ord la be bg f):w.cell? ⟨s,4,none⟩=some (.int .i64 (bg:Nat)):=by simpa using Blk.cell h.blk 4
theorem Pm.on(h:Pm w s b n ord la be bg f)(hb:Below w.heap.size w w'):Pm w' s b n ord la be bg f:=⟨Blk.on h.blk hb,h.cm.on hb⟩
theorem Pm.alloc(h:Pm w s b n ord la be bg f)(o:Obj):Pm (w.alloc o) s b n ord la be bg f:=h.on ((Below.refl _ _).alloc (Nat.le_refl _) o)
theorem Pm.drew(h:Pm w s b n ord la be bg f):Pm w.drew s b n ord la be bg f:=⟨h.blk,h.cm⟩
theorem Pm.far(h:Pm w s b n ord la be bg f){p:Addr}(h1:s≠p.block)(h2:b≠p.block)(u:Value):Pm (w.setCell p u) s b n ord la be bg f:=⟨Blk.far h.blk h1 u,h.cm.setCell h2 u⟩
theorem Pm.lt(h:Pm w s b n ord la be bg f):s<w.heap.size:=Blk.lt h.blk
theorem Pm.ltb(h:Pm w s b n ord la be bg f):b<w.heap.size:=h.cm.lt
theorem Pm.ne(h:Pm w s b n ord la be bg f):b≠s:=h.cm.ne h.blk
theorem Pm.grown{row:Option Nat}(h:Pm w s b n ord la be bg f)(hg:w.grownBy w' row)(h1:some s≠row)(h2:some b≠row):Pm w' s b n ord la be bg f:=⟨Blk.grown h.blk hg h1,h.cm.kept hg h2⟩
end
end PB
end
section
open Go.RowKit
attribute [local go_sem ↓] Go.wp_at_zero Go.wp_at_succ
namespace PB
def ctxs(ord la be bg:Nat):List Ctx :=
 match ord with
 | 0=>[(0,0,0,bg)]
 | 1=>[(0,0,0,bg),(1,la,0,bg)]
 | _=>[(0,0,0,bg),(1,la,0,bg),(2,la,be,bg)]
def xcell(c:Ctx):List Value:=[.int .i64 (c.1:Nat),.int .i64 (c.2.1:Nat),.int .i64 (c.2.2.1:Nat),.int .i64 (c.2.2.2:Nat)]
def xcells(l:List Ctx):List Value:=l.flatMap xcell
theorem xcells_length(l:List Ctx):(xcells l).length=l.length*4:=by
 induction l with
 | nil=>rfl
 | cons t l ih=>simp only[xcells,List.flatMap_cons,List.length_append,List.length_cons] at ih ⊢;simp only[xcell,List.length_cons,List.length_nil] at ih ⊢;omega
theorem xcells_get(l:List Ctx)(i:Nat)(t:Ctx)(h:l[i]?=some t):(xcells l)[i*4]?=some (.int .i64 (t.1:Nat))∧(xcells l)[i*4+1]?=some (.int .i64 (t.2.1:Nat))∧(xcells l)[i*4+2]?=some (.int .i64 (t.2.2.1:Nat))∧(xcells l)[i*4+3]?=some (.int .i64 (t.2.2.2:Nat)):=by
 induction l generalizing i with
 | nil=>simp at h
 | cons x l ih =>
  have e:xcells (x::l)=xcell x++xcells l:=by simp[xcells]
  rw[e];cases i with
  | zero =>
   obtain rfl:x=t:=by simpa using h
   simp[xcell]
  | succ i =>
   have:=ih i (by simpa using h);have hl:(xcell x).length=4:=rfl;rw[List.getElem?_append_right (by omega),List.getElem?_append_right (by omega),List.getElem?_append_right (by omega),List.getElem?_append_right (by omega),hl];rw[show(i+1)*4-4=i*4 by omega,show(i+1)*4+1-4=i*4+1 by omega,show(i+1)*4+2-4=i*4+2 by omega,show(i+1)*4+3-4=i*4+3 by omega];exact this
def RdX(w:World)(A:Option Addr)(n c:Nat)(xs:List Ctx):Prop :=
 xs.length=n∧n≤c∧c≤maxLen∧(0<n→∃ b off,A=some ⟨b,off,none⟩∧b<w.heap.size∧∀ i x,xs[i]?=some x →
  w.cell? ⟨b,off+i*4,none⟩=some (.int .i64 (x.1:Nat))∧w.cell? ⟨b,off+i*4+1,none⟩=some (.int .i64 (x.2.1:Nat))∧w.cell? ⟨b,off+i*4+2,none⟩=some (.int .i64 (x.2.2.1:Nat))∧w.cell? ⟨b,off+i*4+3,none⟩=some (.int .i64 (x.2.2.2:Nat)))
section
variable {w w':World}{A:Option Addr}{n c:Nat}{xs:List Ctx}
theorem RdX.grown{row:Option Nat}(h:RdX w A n c xs)(hg:w.grownBy w' row)(hA:∀ b off,A=some ⟨b,off,none⟩→some b≠row):RdX w' A n c xs:=by
 obtain⟨h1,h2,h3,h4⟩:=h;refine⟨h1,h2,h3,fun hn=>?_⟩;obtain⟨b,off,e,hlt,hc⟩:=h4 hn;refine⟨b,off,e,Nat.lt_of_lt_of_le hlt hg.size,fun i x hx=>?_⟩;obtain⟨q1,q2,q3,q4⟩:=hc i x hx;have hb:=hg.block b hlt (hA b off e);exact⟨(World.cell?_of_block hb).trans q1,(World.cell?_of_block hb).trans q2,(World.cell?_of_block hb).trans q3,(World.cell?_of_block hb).trans q4⟩
theorem RdX.on(h:RdX w A n c xs)(hb:Below w.heap.size w w'):RdX w' A n c xs:=h.grown (kgq7 hb none) (fun _ _ _=>by simp)
theorem RdX.at(h:RdX w A n c xs)(k:Nat)(hk:k<xs.length):∃ b off,A=some ⟨b,off,none⟩∧b<w.heap.size ∧
  w.cell? ⟨b,off+k*4,none⟩=some (.int .i64 (xs[k].1:Nat))∧w.cell? ⟨b,off+k*4+1,none⟩=some (.int .i64 (xs[k].2.1:Nat))∧w.cell? ⟨b,off+k*4+2,none⟩=some (.int .i64 (xs[k].2.2.1:Nat))∧w.cell? ⟨b,off+k*4+3,none⟩=some (.int .i64 (xs[k].2.2.2:Nat)):=by
 obtain⟨h1,h2,h3,h4⟩:=h;obtain⟨b,off,e,hlt,hc⟩:=h4 (by omega);exact⟨b,off,e,hlt,hc k _ (List.getElem?_eq_getElem hk)⟩
theorem RdX.own{base:Nat}{e:TypeId}(h:w.ownsRow base e 4 (.slice A n c) n (xcells xs)):RdX w A n c xs:=by
 have hl:=h.1;rw[xcells_length] at hl;have hl2:xs.length=n:=by omega
 rcases h.2 with⟨h1,h2⟩|⟨g,cap,cur,h1,h2,h3,h4,h5,h6,h7⟩
 ·injection h1 with e1 e2 e3;subst e1 e2 e3;exact⟨hl2,Nat.le_refl _,Nat.zero_le _,fun h=>absurd h (by decide)⟩
 ·injection h1 with e1 e2 e3;subst e1 e3;refine⟨hl2,h4,h5,fun hn=>?_⟩;have hcells:=World.ownsRow.cells h (g:=g) rfl;have key:∀ j u,(xcells xs)[j]?=some u→w.cell? ⟨g,j,none⟩=some u:=by
   intro j u hu;have:=hcells j u hu;have e:(⟨g,0,none⟩:Addr).add j=⟨g,j,none⟩:=by
    unfold Addr.add;by_cases hj:j=0<;>simp[hj]
   rwa [e] at this
  refine⟨g,0,rfl,?_,fun i x hx=>?_⟩
  ·rcases Nat.lt_or_ge g w.heap.size with h|h
   ·exact h
   ·rw[Array.getElem?_eq_none h] at h3;cases h3
  ·obtain⟨q1,q2,q3,q4⟩:=xcells_get xs i x hx;rw[show 0+i*4=i*4 by omega];exact⟨key _ _ q1,key _ _ q2,key _ _ q3,key _ _ q4⟩
end
section
variable {P:Program}
theorem kcn7{w:World}(c:Ctx)(e:TypeId){o:Oper}{a:Act}{K:Act→World→Prop}{Q:Exit→Act→World→Prop}{E:Prop}{ops:Array Oper}(hw:Region.wanted o (yielded ops a.tmps)=true)(W:World)(hW:w=W.alloc (.cells (xcell c).toArray e))(s x:Operand)(t:TypeId)
  (ho:o.op=.call { callee:=.builtin .append,args:=#[s,x],argTypes:=#[t,t] })
  (base:Nat) (i:TypeInfo) (z:Value) (bytes:Nat) (ht:P.underlying t=some (.slice e)) (hi:P.info? e=some i) (hz:i.zero=some z)
  (hsize:i.size=4) (hby:i.bytes=bytes) (hzs:z.cells.size=4)
  (v:Value) (n:Nat) (l:List Ctx) (hs:a.eval s=v) (hown:W.ownsRow base e 4 v n (xcells l)) (hx:a.eval x=.slice (some ⟨W.heap.size,0,none⟩) 1 1)
  (h63:n+1≤maxLen) (hbytes:(n+1)*bytes≤140737488355328) (hbase:base≤W.heap.size)
  (h:∀ A' c' w',w'.ownsRow base e 4 (.slice A' (n+1) c') (n+1) (xcells (l++[c]))→W.grownBy w' v.ownBlock→K (a.put o.dst (.slice A' (n+1) c')) w') :
  if Region.wanted o (yielded ops a.tmps)=true then Oper.wp P o a w K Q else E:=by
 rw[if_pos hw];subst hW;have hB:=Blk.new W e (xcell c).toArray;obtain⟨v',w',hrun,h2,h3,h4,h5⟩:=run_append_own_at (P:=P) (W.alloc (.cells (xcell c).toArray e)) base t o.type e i z 4 bytes ht hi hz hsize hby hzs (by decide) v n (xcells l) (hown.alloc _) ⟨W.heap.size,0,none⟩ 1 1 (xcell c) rfl
  (fun j u hj=>by
   have e:(⟨W.heap.size,0,none⟩:Addr).add j=⟨W.heap.size,j,none⟩:=by
    unfold Addr.add;by_cases hj:j=0<;>simp[hj]
   rw[e,hB.cell j];rw[List.getElem?_toArray];exact hj)
  (by intro u hu;simp only[xcell,List.mem_cons,List.not_mem_nil,or_false] at hu;rcases hu with rfl|rfl|rfl|rfl<;>rfl) h63 hbytes (by simp;omega)
 obtain⟨A',c',rfl⟩:=own_shape h2;unfold Oper.wp execOp;simp only[ho,resolve,invoke,builtin,Sem.run_bind,Sem.run_pure,Result.andThen_ok,List.map_toArray,List.map_cons,List.map_nil,hs,hx,hrun];refine h A' c' w' ?_ ?_
 ·have e1:xcells (l++[c])=xcells l++xcell c:=by simp[xcells]
  rw[e1];exact h2
 ·exact⟨h3.os,h3.tape,h3.output,Nat.le_trans (by simp) h3.size,fun k hk hne=>(h3.block k (by simp;omega) hne).trans (Below.heap_alloc W _ k hk)⟩
end
theorem ctx_info:(Tryz.prog.info? 185).map (fun i=>(i.zero,i.size,i.bytes))=some (some (.agg #[.int .i64 0,.int .i64 0,.int .i64 0,.int .i64 0]),4,32):=by kernel_rfl
theorem kcc7{w:World}{base:Nat}{e:TypeId}{size n g:Nat}{v:Value}{xs:List Value}(h:w.ownsRow base e size v n xs)(hg:g<base):some g≠v.ownBlock:=by
 intro he;have:=(h.lt g he.symm).1;omega
theorem contexts_0{w:World}{s b n la be bg:Nat}{f:Ctx→Nat×Nat}(h:Pm w s b n 0 la be bg f) :
  Calls Tryz.prog 128 #[.pointer (some ⟨s,0,none⟩)] w fun e w'=>∃ A c,e=.returned (.slice A 1 c)∧w'.ownsRow w.heap.size 185 4 (.slice A 1 c) 1 (xcells (ctxs 0 la be bg))∧Below w.heap.size w w':=by
 obtain⟨i0,hi,hz0,hz1,hz2⟩:=info_parts ctx_info;have p0:=h.c0;have p2:=h.c2;have p3:=h.c3;have p4:=h.c4;have hA:=h.alloc (.cells #[.int .i64 0,.int .i64 0,.int .i64 0,.int .i64 (bg:Nat)] 185);have q0:=hA.c0;have q2:=hA.c2;have q3:=hA.c3;have q4:=hA.c4;have HO0:(w.alloc (.cells #[.int .i64 0,.int .i64 0,.int .i64 0,.int .i64 (bg:Nat)] 185)).ownsRow w.heap.size 185 4 (.slice (some ⟨w.heap.size,0,none⟩) 1 1) 1 (xcells [(0,0,0,bg)]):=World.ownsRow_lit w #[.int .i64 0,.int .i64 0,.int .i64 0,.int .i64 (bg:Nat)] 1 (Nat.le_refl _) (by simp[maxLen]) rfl;have y0:Below w.heap.size w (w.alloc (.cells #[.int .i64 0,.int .i64 0,.int .i64 0,.int .i64 (bg:Nat)] 185)):=(Below.refl _ _).alloc (Nat.le_refl _) _;have H:=Lib.hid h;have HA:=Lib.hid hA;have HO:=Lib.hid HO0;have hs1:=h.lt;have hs2:=h.ltb;clear h hA HO0
 go_enter Tryz.func128,Tryz.ntmps128
 go_wp2
 go_ret
 exact⟨_,_,rfl,HO.out,y0⟩
theorem contexts_1{w:World}{s b n la be bg:Nat}{f:Ctx→Nat×Nat}(h:Pm w s b n 1 la be bg f) :
  Calls Tryz.prog 128 #[.pointer (some ⟨s,0,none⟩)] w fun e w'=>∃ A c,e=.returned (.slice A 2 c)∧w'.ownsRow w.heap.size 185 4 (.slice A 2 c) 2 (xcells (ctxs 1 la be bg))∧Below w.heap.size w w':=by
 obtain⟨i0,hi,hz0,hz1,hz2⟩:=info_parts ctx_info;have p0:=h.c0;have p2:=h.c2;have p3:=h.c3;have p4:=h.c4;have hA:=h.alloc (.cells #[.int .i64 0,.int .i64 0,.int .i64 0,.int .i64 (bg:Nat)] 185);have q0:=hA.c0;have q2:=hA.c2;have q3:=hA.c3;have q4:=hA.c4;have HO0:(w.alloc (.cells #[.int .i64 0,.int .i64 0,.int .i64 0,.int .i64 (bg:Nat)] 185)).ownsRow w.heap.size 185 4 (.slice (some ⟨w.heap.size,0,none⟩) 1 1) 1 (xcells [(0,0,0,bg)]):=World.ownsRow_lit w #[.int .i64 0,.int .i64 0,.int .i64 0,.int .i64 (bg:Nat)] 1 (Nat.le_refl _) (by simp[maxLen]) rfl;have y0:Below w.heap.size w (w.alloc (.cells #[.int .i64 0,.int .i64 0,.int .i64 0,.int .i64 (bg:Nat)] 185)):=(Below.refl _ _).alloc (Nat.le_refl _) _;have H:=Lib.hid h;have HA:=Lib.hid hA;have HO:=Lib.hid HO0;have hs1:=h.lt;have hs2:=h.ltb;clear h hA HO0
 go_enter Tryz.func128,Tryz.ntmps128
 go_upto_region 3 with(fail)
 generalize (w.alloc (.cells #[.int .i64 0,.int .i64 0,.int .i64 0,.int .i64 (bg:Nat)] 185))=w1 at HO HA q0 q2 q3 q4 y0 ⊢;have ys1:=y0.size
 go_region_held3 (fun w'=>w'.cell? ⟨s,2,none⟩=some (.int .i64 (la:Nat))∧w'.cell? ⟨s,4,none⟩=some (.int .i64 (bg:Nat))) (go_keep) ((refine kcn7 (1,la,0,bg) 185 (by rfl) w1.drew rfl _ _ _ (by rfl) w.heap.size i0 _ 32 Tryz.underlying182 hi hz0 hz1 hz2 (by rfl) _ 1 [(0,0,0,bg)] (by rfl) (kdr7 HO.out) (by rfl) (by simp[maxLen]) (by omega) ys1 ?_;intro A1 c1 v1 ho1 hg1;have Y1:=kx7 (belowD y0) (kdr7 HO.out) hg1 (Nat.le_refl _) ys1;have HP1:=Lib.hid ((Pm.drew HA.out).grown hg1 (kcc7 HO.out hs1) (kcc7 HO.out hs2));have r10:=HP1.out.c0;have r12:=HP1.out.c2;have r13:=HP1.out.c3;have r14:=HP1.out.c4;have HO1:=Lib.hid ho1;clear ho1 hg1))
 go_wp2
 go_ret
 exact⟨_,_,rfl,HO1.out,Y1⟩
theorem contexts_2{w:World}{s b n la be bg:Nat}{f:Ctx→Nat×Nat}(h:Pm w s b n 2 la be bg f) :
  Calls Tryz.prog 128 #[.pointer (some ⟨s,0,none⟩)] w fun e w'=>∃ A c,e=.returned (.slice A 3 c)∧w'.ownsRow w.heap.size 185 4 (.slice A 3 c) 3 (xcells (ctxs 2 la be bg))∧Below w.heap.size w w':=by
 obtain⟨i0,hi,hz0,hz1,hz2⟩:=info_parts ctx_info;have p0:=h.c0;have p2:=h.c2;have p3:=h.c3;have p4:=h.c4;have hA:=h.alloc (.cells #[.int .i64 0,.int .i64 0,.int .i64 0,.int .i64 (bg:Nat)] 185);have q0:=hA.c0;have q2:=hA.c2;have q3:=hA.c3;have q4:=hA.c4;have HO0:(w.alloc (.cells #[.int .i64 0,.int .i64 0,.int .i64 0,.int .i64 (bg:Nat)] 185)).ownsRow w.heap.size 185 4 (.slice (some ⟨w.heap.size,0,none⟩) 1 1) 1 (xcells [(0,0,0,bg)]):=World.ownsRow_lit w #[.int .i64 0,.int .i64 0,.int .i64 0,.int .i64 (bg:Nat)] 1 (Nat.le_refl _) (by simp[maxLen]) rfl;have y0:Below w.heap.size w (w.alloc (.cells #[.int .i64 0,.int .i64 0,.int .i64 0,.int .i64 (bg:Nat)] 185)):=(Below.refl _ _).alloc (Nat.le_refl _) _;have H:=Lib.hid h;have HA:=Lib.hid hA;have HO:=Lib.hid HO0;have hs1:=h.lt;have hs2:=h.ltb;clear h hA HO0
 go_enter Tryz.func128,Tryz.ntmps128
 go_upto_region 3 with(fail)
 generalize (w.alloc (.cells #[.int .i64 0,.int .i64 0,.int .i64 0,.int .i64 (bg:Nat)] 185))=w1 at HO HA q0 q2 q3 q4 y0 ⊢;have ys1:=y0.size
 go_region_held3 (fun w'=>w'.cell? ⟨s,2,none⟩=some (.int .i64 (la:Nat))∧w'.cell? ⟨s,4,none⟩=some (.int .i64 (bg:Nat))) (go_keep) ((refine kcn7 (1,la,0,bg) 185 (by rfl) w1.drew rfl _ _ _ (by rfl) w.heap.size i0 _ 32 Tryz.underlying182 hi hz0 hz1 hz2 (by rfl) _ 1 [(0,0,0,bg)] (by rfl) (kdr7 HO.out) (by rfl) (by simp[maxLen]) (by omega) ys1 ?_;intro A1 c1 v1 ho1 hg1;have Y1:=kx7 (belowD y0) (kdr7 HO.out) hg1 (Nat.le_refl _) ys1;have HP1:=Lib.hid ((Pm.drew HA.out).grown hg1 (kcc7 HO.out hs1) (kcc7 HO.out hs2));have r10:=HP1.out.c0;have r12:=HP1.out.c2;have r13:=HP1.out.c3;have r14:=HP1.out.c4;have HO1:=Lib.hid ho1;clear ho1 hg1))
 go_upto_region 5 with(fail)
 have ys2:=Y1.size
 go_region_held3 (fun w'=>w'.cell? ⟨s,2,none⟩=some (.int .i64 (la:Nat))∧w'.cell? ⟨s,3,none⟩=some (.int .i64 (be:Nat))∧w'.cell? ⟨s,4,none⟩=some (.int .i64 (bg:Nat))) (go_keep) ((refine kcn7 (2,la,be,bg) 185 (by rfl) v1.drew rfl _ _ _ (by rfl) w.heap.size i0 _ 32 Tryz.underlying182 hi hz0 hz1 hz2 (by rfl) _ 2 [(0,0,0,bg),(1,la,0,bg)] (by rfl) (kdr7 HO1.out) (by rfl) (by simp[maxLen]) (by omega) ys2 ?_;intro A2 c2 v2 ho2 hg2;have Y2:=kx7 (belowD Y1) (kdr7 HO1.out) hg2 (Nat.le_refl _) ys2;have HP2:=Lib.hid ((Pm.drew HP1.out).grown hg2 (kcc7 HO1.out hs1) (kcc7 HO1.out hs2));have r20:=HP2.out.c0;have r22:=HP2.out.c2;have r23:=HP2.out.c3;have r24:=HP2.out.c4;have HO2:=Lib.hid ho2;clear ho2 hg2))
 go_wp2
 go_ret
 exact⟨_,_,rfl,HO2.out,Y2⟩
theorem kiw7{w:World}{s b n ord la be bg:Nat}{f:Ctx→Nat×Nat}(h:Pm w s b n ord la be bg f)(ho:ord≤2) :
  Calls Tryz.prog 128 #[.pointer (some ⟨s,0,none⟩)] w fun e w'=>∃ A c,e=.returned (.slice A (ord+1) c)∧w'.ownsRow w.heap.size 185 4 (.slice A (ord+1) c) (ord+1) (xcells (ctxs ord la be bg))∧Below w.heap.size w w':=by
 rcases(by omega:ord=0∨ord=1∨ord=2) with rfl|rfl|rfl
 ·exact contexts_0 h
 ·exact contexts_1 h
 ·exact contexts_2 h
theorem ctxs_length(ord la be bg:Nat)(ho:ord≤2):(ctxs ord la be bg).length=ord+1:=by
 rcases(by omega:ord=0∨ord=1∨ord=2) with rfl|rfl|rfl<;>rfl
theorem ctxs_ok{ord la be bg:Nat}(ho:ord≤2)(h1:la<256)(h2:be<256)(h3:bg<256):∀ c∈ctxs ord la be bg,CtxOk c∧c.1≤2:=by
 unfold CtxOk;rcases(by omega:ord=0∨ord=1∨ord=2) with rfl|rfl|rfl<;>intro c hc<;>simp only[ctxs,List.mem_cons,List.not_mem_nil,or_false] at hc
 ·subst hc;dsimp only;omega
 ·rcases hc with rfl|rfl<;>dsimp only<;>omega
 ·rcases hc with rfl|rfl|rfl<;>dsimp only<;>omega
end PB
end
section
open Go.RowKit
attribute [local go_sem ↓] Go.wp_at_zero Go.wp_at_succ
namespace PB
def accf(f:Ctx→Nat×Nat):List Ctx→Nat×Nat→Nat×Nat
 | [],a=>a
 | c::l,a=>accf f l (a.1+wgt (f c) c.1*mshare (f c),a.2+wgt (f c) c.1)
def pvf(f:Ctx→Nat×Nat)(l:List Ctx):Nat:=(accf f l (2048,1)).1 / (accf f l (2048,1)).2
theorem accf_snoc(f:Ctx→Nat×Nat)(c:Ctx):∀ (l:List Ctx) (a:Nat×Nat),accf f (l++[c]) a=((accf f l a).1+wgt (f c) c.1*mshare (f c),(accf f l a).2+wgt (f c) c.1):=by
 intro l
 induction l with
 | nil=>intro a;rfl
 | cons x l ih=>intro a;exact ih _
theorem accf_take{f:Ctx→Nat×Nat}{l:List Ctx}{k:Nat}(hk:k<l.length)(a:Nat×Nat):accf f (l.take (k+1)) a=((accf f (l.take k) a).1+wgt (f l[k]) (l[k]).1*mshare (f l[k]),(accf f (l.take k) a).2+wgt (f l[k]) (l[k]).1):=by
 rw[List.take_succ_eq_append_getElem hk,accf_snoc]
theorem wgt_le(k:Nat×Nat){o:Nat}(h:o≤2):wgt k o≤240:=by
 unfold wgt;rcases(by omega:o=0∨o=1∨o=2) with rfl|rfl|rfl<;>simp<;>omega
theorem predict_any{w:World}{s b n ord la be bg:Nat}{f:Ctx→Nat×Nat}(h:Pm w s b n ord la be bg f)(ho:ord≤2)(h1:la<256)(h2:be<256)(h3:bg<256)(hf:∀ c,(f c).1+(f c).2≤254)(V:Nat)(hV:V=pvf f (ctxs ord la be bg)) :
  Calls Tryz.prog 116 #[.pointer (some ⟨s,0,none⟩)] w fun e w'=>e=.returned (.int .i64 (V:Nat))∧Below w.heap.size w w':=by
 have hL:=ctxs_length ord la be bg ho;have hok:=ctxs_ok (ord:=ord) (la:=la) (be:=be) (bg:=bg) ho h1 h2 h3;obtain⟨l,hl⟩:∃ l,l=ctxs ord la be bg:=⟨_,rfl⟩
 have HC:=Lib.hid (kiw7 h ho);rw[←hl] at hL hok HC hV;have HP:=Lib.hid h;have HV:=Lib.hid hV;have HF:=Lib.hid hf;have HOK:=Lib.hid hok;obtain⟨m,hm⟩:∃ m,m=ord+1:=⟨_,rfl⟩
 have hm3:m≤3:=by omega
 rw[←hm] at hL HC;clear h hV hf hok hl ho hm h1 h2 h3
 go_enter Tryz.func116,Tryz.ntmps116
 go_wp2_with fail
 refine HC.out.mono ?_;rintro e w1 ⟨A,c,rfl,ho1,y1⟩;have HX:=Lib.hid (RdX.own ho1);have HP1:=Lib.hid (HP.out.on y1);clear ho1
 go_wp2_with fail
 go_loopw [3,4,14] (fun sv wv i wr=>∃ (k S1 W1:Nat),k≤m∧i=.int .i64 (k:Nat)∧sv=.int .i64 (S1:Nat)∧wv=.int .i64 (W1:Nat)∧accf f (l.take k) (2048,1)=(S1,W1)∧1≤W1∧W1≤1+240*k∧S1≤2048+1000000*k∧Below w1.heap.size w1 wr) (fun _ _ i _=>m-(intOf i).toNat)
 case atStart=>exact⟨0,2048,1,by omega,rfl,rfl,rfl,rfl,by omega,by omega,by omega,Below.refl _ _⟩
 case round =>
  obtain⟨k,S1,W1,hk,rfl,rfl,rfl,hacc,hw1,hw2,hs1,yr⟩:=hrel;have HA:=Lib.hid hacc;clear hacc;by_cases hlt:k<m
  ·obtain⟨g,off,rfl,hg,c0,c1,c2,c3⟩:=(HX.out.on yr).at k (by omega);have HT:=Lib.hid (accf_take (f:=f) (l:=l) (k:=k) (by omega) (2048,1));obtain⟨hcx,hc2⟩:=HOK.out l[k] (List.getElem_mem _);have hcnt:=HF.out l[k];generalize l[k]'(by omega)=cx at c0 c1 c2 c3 HT hcx hc2 hcnt;obtain⟨o,la',be',bg'⟩:=cx;dsimp only at c0 c1 c2 c3 HT hc2 hcnt;have HPr:=Lib.hid (HP1.out.on yr);obtain⟨z,on,hzo⟩:∃ z on,f (o,la',be',bg')=(z,on):=⟨_,_,rfl⟩
   rw[hzo] at HT hcnt;dsimp only at hcnt;have HA1:=HPr.out.alloc (.cells #[.int .i64 (o:Nat),.int .i64 (la':Nat),.int .i64 (be':Nat),.int .i64 (bg':Nat)] 185);have HF1:=Four.new wr 185 (.int .i64 (o:Nat)) (.int .i64 (la':Nat)) (.int .i64 (be':Nat)) (.int .i64 (bg':Nat));have y2:=yr.alloc yr.size (.cells #[.int .i64 (o:Nat),.int .i64 (la':Nat),.int .i64 (be':Nat),.int .i64 (bg':Nat)] 185)
   go_upto_region 5 with(fail)
   generalize wr.alloc (.cells #[.int .i64 (o:Nat),.int .i64 (la':Nat),.int .i64 (be':Nat),.int .i64 (bg':Nat)] 185)=w2 at HA1 HF1 y2 ⊢;have l1:(Instr.lookup 168 (.map (some b)) (.agg #[.int .i64 (o:Nat),.int .i64 (la':Nat),.int .i64 (be':Nat),.int .i64 (bg':Nat)]) false).run Tryz.prog w2.drew=.ok (.agg #[.int .i64 (z:Nat),.int .i64 (on:Nat)]) w2.drew:=by
    have:=HA1.drew.cm.look hcx;rw[hzo] at this;exact this
   have l2:(Instr.lookup 168 (.map (some b)) (.agg #[.int .i64 (o:Nat),.int .i64 (la':Nat),.int .i64 (be':Nat),.int .i64 (bg':Nat)]) false).run Tryz.prog (w2.alloc (.cells #[.int .i64 0,.int .i64 0] 187)).drew=.ok (.agg #[.int .i64 (z:Nat),.int .i64 (on:Nat)]) (w2.alloc (.cells #[.int .i64 0,.int .i64 0] 187)).drew:=by
    have:=(HA1.alloc (.cells #[.int .i64 0,.int .i64 0] 187)).drew.cm.look hcx;rw[hzo] at this;exact this
   have f0:=HF1.c0;have f1:=HF1.c1;have f2:=HF1.c2;have f3:=HF1.c3;have t1:=HA1.c1;clear c0 c1 c2 c3;apply share
   ·intro key
    go_region_held3 (fun w'=>w'.cell? ⟨wr.heap.size,0,none⟩=some (.int .i64 (o:Nat))∧w'.cell? ⟨wr.heap.size,1,none⟩=some (.int .i64 (la':Nat))∧w'.cell? ⟨wr.heap.size,2,none⟩=some (.int .i64 (be':Nat))∧w'.cell? ⟨wr.heap.size,3,none⟩=some (.int .i64 (bg':Nat))∧w'.cell? ⟨s,1,none⟩=some (.map (some b))) (go_keep) (fail)
    all_goals (try simp only[Act.put,List.setIfInBounds_toArray,List.set_cons_zero,List.set_cons_succ])
    all_goals exact key
   have HK3:=Two.new w2 187 (.int .i64 (z:Nat)) (.int .i64 (on:Nat));have HF3:=(HF1.alloc (.cells #[.int .i64 (z:Nat),.int .i64 (on:Nat)] 187)).drew;have y3:=belowD (y2.alloc y2.size (.cells #[.int .i64 (z:Nat),.int .i64 (on:Nat)] 187));have HK4:=HK3.drew;clear HK3 HF1 y2 l1 l2 f0 f1 f2 f3 t1 HA1;generalize (w2.alloc (.cells #[.int .i64 (z:Nat),.int .i64 (on:Nat)] 187)).drew=w3 at HK4 HF3 y3 ⊢;have k0:=HK4.c0;have k1:=HK4.c1;have k2:=HF3.c0;by_cases hz0:z=0∧on=0
   ·obtain⟨rfl,rfl⟩:=hz0;have k0':w3.cell? ⟨w2.heap.size,0,none⟩=some (.int .i64 0):=k0;have k1':w3.cell? ⟨w2.heap.size,1,none⟩=some (.int .i64 0):=k1;clear k0 k1
    go_wp2
    go_roundw
    case rel =>
     have hT:=HT.out;have e0:wgt (0,0) o=0:=by simp[wgt]
     rw[e0,HA.out] at hT;dsimp only at hT;rw[Nat.zero_mul] at hT;exact⟨k+1,S1,W1,by omega,by go_num,rfl,rfl,hT,by omega,by omega,by omega,y3⟩
    case measure=>simp[intOf]<;>omega
   ·rcases(by omega:z≠0∨(z=0∧on≠0)) with hz|⟨hz,hz'⟩
    ·have hd:¬(z:Int)=0:=by omega
     clear hz0 hz;have hsh:(2*(on:Int)+1)*2048 / (((z:Int)+(on:Int))+1)=((mshare (z,on):Nat):Int):=by
      unfold mshare;simp
     have HSH:=Lib.hid hsh;obtain⟨hsh1,hsh2⟩:=khh7 (k:=(z,on)) hcnt;obtain⟨ww,hww⟩:∃ ww,ww=wgt (z,on) o:=⟨_,rfl⟩
     have hww2:ww≤240:=by rw[hww];exact wgt_le _ hc2
     rw[←hww] at HT;clear hsh
     go_upto_region 9 with(fail)
     rw[HSH.out];clear HSH;generalize mshare (z,on)=sh at *;have HO2:=Lib.hid (show((z:Int)+(on:Int))=((z+on:Nat):Int) by omega);rw[HO2.out];clear HO2;obtain⟨nn,hnn⟩:∃ nn,nn=z+on:=⟨_,rfl⟩
     rw[←hnn] at hcnt ⊢;have HWW:=Lib.hid (show ww=min nn 15*4 ^ o by rw[hww,hnn];rfl);clear hnn hww;have hsw:ww*sh≤240*4087:=Nat.mul_le_mul hww2 hsh2;have hsw1:(ww:Int)*(sh:Int)=((ww*sh:Nat):Int):=by push_cast;rfl
     obtain⟨ws,hws⟩:∃ ws,ws=ww*sh:=⟨_,rfl⟩
     rw[←hws] at hsw hsw1 HT;have HSW:=Lib.hid hsw1;clear hsw1 hws;rcases(by omega:o=0∨o=1∨o=2) with e|e|e
     ·have k3:w3.cell? ⟨wr.heap.size,0,none⟩=some (.int .i64 0):=by rw[k2,e];rfl
      clear k2;have HI:=Lib.hid (show(if (15:Int)<(nn:Int) then(15:Int) else(nn:Int))=((ww:Nat):Int) by rw[HWW.out,e];split<;>omega);have HI2:=Lib.hid (show min (nn:Int) 15=((ww:Nat):Int) by rw[HWW.out,e];simp only[Int.min_def];split<;>omega);clear e
      go_upto_region 10 with(fail)
      first
       | rw[HI.out]
       | rw[HI2.out]
      clear HI HI2;have hm1:IntKind.i64.wrap ((ww:Int)*(sh:Int))=(ws:Int):=by rw[HSW.out];exact IntWalk.i64_in _ (by omega)
      go_wp2
      go_roundw
      case rel=>exact⟨k+1,S1+ws,W1+ww,by omega,by go_num,by go_num,by go_num,by rw[HT.out,HA.out],by omega,by omega,by omega,y3⟩
      case measure=>simp[intOf]<;>omega
     ·have k3:w3.cell? ⟨wr.heap.size,0,none⟩=some (.int .i64 1):=by rw[k2,e];rfl
      clear k2;have HI:=Lib.hid (show(if (15:Int)<(nn:Int) then(15:Int) else(nn:Int))*4=((ww:Nat):Int) by rw[HWW.out,e];split<;>omega);have HI2:=Lib.hid (show min (nn:Int) 15*4=((ww:Nat):Int) by rw[HWW.out,e];simp only[Int.min_def];split<;>omega);clear e
      go_upto_region 10 with(fail)
      first
       | rw[HI.out]
       | rw[HI2.out]
      clear HI HI2;have hm1:IntKind.i64.wrap ((ww:Int)*(sh:Int))=(ws:Int):=by rw[HSW.out];exact IntWalk.i64_in _ (by omega)
      go_wp2
      go_roundw
      case rel=>exact⟨k+1,S1+ws,W1+ww,by omega,by go_num,by go_num,by go_num,by rw[HT.out,HA.out],by omega,by omega,by omega,y3⟩
      case measure=>simp[intOf]<;>omega
     ·have k3:w3.cell? ⟨wr.heap.size,0,none⟩=some (.int .i64 2):=by rw[k2,e];rfl
      clear k2;have HI:=Lib.hid (show(if (15:Int)<(nn:Int) then(15:Int) else(nn:Int))*16=((ww:Nat):Int) by rw[HWW.out,e];split<;>omega);have HI2:=Lib.hid (show min (nn:Int) 15*16=((ww:Nat):Int) by rw[HWW.out,e];simp only[Int.min_def];split<;>omega);clear e
      go_upto_region 10 with(fail)
      first
       | rw[HI.out]
       | rw[HI2.out]
      clear HI HI2;have hm1:IntKind.i64.wrap ((ww:Int)*(sh:Int))=(ws:Int):=by rw[HSW.out];exact IntWalk.i64_in _ (by omega)
      go_wp2
      go_roundw
      case rel=>exact⟨k+1,S1+ws,W1+ww,by omega,by go_num,by go_num,by go_num,by rw[HT.out,HA.out],by omega,by omega,by omega,y3⟩
      case measure=>simp[intOf]<;>omega
    ·subst hz;have hd:¬(on:Int)=0:=by omega
     clear hz0 hz';have hsh:(2*(on:Int)+1)*2048 / ((on:Int)+1)=((mshare (0,on):Nat):Int):=by
      unfold mshare;simp
     have HSH:=Lib.hid hsh;obtain⟨hsh1,hsh2⟩:=khh7 (k:=(0,on)) hcnt;obtain⟨ww,hww⟩:∃ ww,ww=wgt (0,on) o:=⟨_,rfl⟩
     have hww2:ww≤240:=by rw[hww];exact wgt_le _ hc2
     rw[←hww] at HT;clear hsh
     go_upto_region 9 with(fail)
     rw[HSH.out];clear HSH;generalize mshare (0,on)=sh at *;have HO2:=Lib.hid (show(on:Int)=((0+on:Nat):Int) by omega);rw[HO2.out];clear HO2;obtain⟨nn,hnn⟩:∃ nn,nn=0+on:=⟨_,rfl⟩
     rw[←hnn] at hcnt ⊢;have HWW:=Lib.hid (show ww=min nn 15*4 ^ o by rw[hww,hnn];rfl);clear hnn hww;have hsw:ww*sh≤240*4087:=Nat.mul_le_mul hww2 hsh2;have hsw1:(ww:Int)*(sh:Int)=((ww*sh:Nat):Int):=by push_cast;rfl
     obtain⟨ws,hws⟩:∃ ws,ws=ww*sh:=⟨_,rfl⟩
     rw[←hws] at hsw hsw1 HT;have HSW:=Lib.hid hsw1;clear hsw1 hws;rcases(by omega:o=0∨o=1∨o=2) with e|e|e
     ·have k3:w3.cell? ⟨wr.heap.size,0,none⟩=some (.int .i64 0):=by rw[k2,e];rfl
      clear k2;have HI:=Lib.hid (show(if (15:Int)<(nn:Int) then(15:Int) else(nn:Int))=((ww:Nat):Int) by rw[HWW.out,e];split<;>omega);have HI2:=Lib.hid (show min (nn:Int) 15=((ww:Nat):Int) by rw[HWW.out,e];simp only[Int.min_def];split<;>omega);clear e
      go_upto_region 10 with(fail)
      first
       | rw[HI.out]
       | rw[HI2.out]
      clear HI HI2;have hm1:IntKind.i64.wrap ((ww:Int)*(sh:Int))=(ws:Int):=by rw[HSW.out];exact IntWalk.i64_in _ (by omega)
      go_wp2
      go_roundw
      case rel=>exact⟨k+1,S1+ws,W1+ww,by omega,by go_num,by go_num,by go_num,by rw[HT.out,HA.out],by omega,by omega,by omega,y3⟩
      case measure=>simp[intOf]<;>omega
     ·have k3:w3.cell? ⟨wr.heap.size,0,none⟩=some (.int .i64 1):=by rw[k2,e];rfl
      clear k2;have HI:=Lib.hid (show(if (15:Int)<(nn:Int) then(15:Int) else(nn:Int))*4=((ww:Nat):Int) by rw[HWW.out,e];split<;>omega);have HI2:=Lib.hid (show min (nn:Int) 15*4=((ww:Nat):Int) by rw[HWW.out,e];simp only[Int.min_def];split<;>omega);clear e
      go_upto_region 10 with(fail)
      first
       | rw[HI.out]
       | rw[HI2.out]
      clear HI HI2;have hm1:IntKind.i64.wrap ((ww:Int)*(sh:Int))=(ws:Int):=by rw[HSW.out];exact IntWalk.i64_in _ (by omega)
      go_wp2
      go_roundw
      case rel=>exact⟨k+1,S1+ws,W1+ww,by omega,by go_num,by go_num,by go_num,by rw[HT.out,HA.out],by omega,by omega,by omega,y3⟩
      case measure=>simp[intOf]<;>omega
     ·have k3:w3.cell? ⟨wr.heap.size,0,none⟩=some (.int .i64 2):=by rw[k2,e];rfl
      clear k2;have HI:=Lib.hid (show(if (15:Int)<(nn:Int) then(15:Int) else(nn:Int))*16=((ww:Nat):Int) by rw[HWW.out,e];split<;>omega);have HI2:=Lib.hid (show min (nn:Int) 15*16=((ww:Nat):Int) by rw[HWW.out,e];simp only[Int.min_def];split<;>omega);clear e
      go_upto_region 10 with(fail)
      first
       | rw[HI.out]
       | rw[HI2.out]
      clear HI HI2;have hm1:IntKind.i64.wrap ((ww:Int)*(sh:Int))=(ws:Int):=by rw[HSW.out];exact IntWalk.i64_in _ (by omega)
      go_wp2
      go_roundw
      case rel=>exact⟨k+1,S1+ws,W1+ww,by omega,by go_num,by go_num,by go_num,by rw[HT.out,HA.out],by omega,by omega,by omega,y3⟩
      case measure=>simp[intOf]<;>omega
  ·obtain rfl:k=m:=by omega
   have hend:S1 / W1=V:=by
    have e:=HA.out;rw[←hL,List.take_length] at e;rw[HV.out];unfold pvf;rw[e]
   have hle:S1 / W1≤S1:=Nat.div_le_self _ _;have HE:=Lib.hid (show wrap64 ((S1:Int) / (W1:Int))=((V:Nat):Int) by
    have e1:(S1:Int) / (W1:Int)=((S1 / W1:Nat):Int):=rfl;rw[e1,←hend];generalize S1 / W1=q at hle;exact IntWalk.wrap64_in _ (by omega))
   clear hend hle
   go_wp2
   rw[HE.out]
   go_ret
   exact⟨rfl,y1.trans (yr.mono y1.size)⟩
end PB
end
end Go.Proofs.YtnpcandaehejbaaGreat
