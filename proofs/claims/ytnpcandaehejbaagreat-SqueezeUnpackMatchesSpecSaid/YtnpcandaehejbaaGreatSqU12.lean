/-
  arith.bit, arith.open, arith.decode.
-/
import Derived.Deep.RegionWith
import Derived.Laws.CopyOwn
import Derived.Test.YtnpcandaehejbaaGreatSqU8
import Derived.Test.YtnpcandaehejbaaGreatSqU10
import Derived.Test.YtnpcandaehejbaaGreatSqU11
set_option linter.unusedVariables false
set_option linter.unusedSimpArgs false
set_option linter.unusedSectionVars false
set_option maxHeartbeats 6400000
set_option maxRecDepth 100000
namespace Go.Proofs.YtnpcandaehejbaaGreat
section
open Go.RowKit
attribute [local go_sem ↓] Go.wp_at_zero Go.wp_at_succ
namespace PB
theorem arbit_any{A:Option Addr}{n c:Nat}{l:List Nat}{w:World}(h:Rd w A n c (bcells (pack l)))(h01:Is01 l)(hl:l.length≤131072)(i:Nat)(ii:Int)(hii:ii=(i:Nat))(hi:i≤1000000) :
  Calls Tryz.prog 132 #[.agg #[.slice A n c,.int .i64 l.length],.int .i64 ii] w fun e w'=>e=.returned (.int .i64 (l.getD i 0:Nat))∧Below w.heap.size w w':=by
 subst hii;have hn:=h.len;rw[ka7,kd7] at hn;rcases Nat.lt_or_ge i l.length with hlt|hge
 ·obtain⟨b,off,rfl,hb,hc⟩:=Reads.byte h (by omega);have hcell:=hc (i / 8) (by omega);have hcm:=Reads.capMax h;have hcap:=Reads.cap h;unfold maxLen at hcm;have hcell':∀ o,(w.alloc o).cell? ⟨b,off+i / 8,none⟩=some (.int .u8 (((pack l).getD (i / 8) 0:Nat):Int)):=fun o=>(World.cell?_alloc_lt _ _ _ (by simp;omega)).trans hcell;have hx:=pack_lt h01 (i / 8);have HBI:=Lib.hid (kfm7 h01 i);have k1:decide ((l.length:Int)≤(i:Int))=false:=by simp;omega
  have k3:decide (l.length≤i)=false:=by simp;omega
  have k2:i<8*n:=by omega
  clear hc h hcell h01
  go_enter Tryz.func132,Tryz.ntmps132
  go_wp2
  go_ret
  refine⟨kgr7 ?_,(Below.refl _ _).alloc (Nat.le_refl _) _⟩;rw[List.getD_eq_getElem?_getD] at hx;rw[ker7 _ _ hx];have:=HBI.out;unfold bitAt at this;rw[←this,List.getD_eq_getElem?_getD]
 ·have HBI:=Lib.hid (kaa7 hge);have k1:decide ((l.length:Int)≤(i:Int))=true:=by simp;omega
  have k3:decide (l.length≤i)=true:=by simp;omega
  clear hn h h01
  go_enter Tryz.func132,Tryz.ntmps132
  go_wp2
  go_ret
  exact⟨kgr7 (by rw[HBI.out];rfl),(Below.refl _ _).alloc (Nat.le_refl _) _⟩
theorem num16_succ(l:List Nat)(k:Nat):num ((List.range (k+1)).map fun i=>l.getD i 0)=2*num ((List.range k).map fun i=>l.getD i 0)+l.getD k 0:=by
 rw[List.range_succ,List.map_append,List.map_singleton,kdm7]
theorem num16_le{l:List Nat}(h01:Is01 l)(k:Nat):num ((List.range k).map fun i=>l.getD i 0)<2 ^ k:=by
 have:Is01 ((List.range k).map fun i=>l.getD i 0):=Is01.of_mem fun x hx=>by
  obtain⟨i,_,rfl⟩:=List.mem_map.1 hx;exact h01 i
 have h:=kcy7 this
 simpa using h
theorem aropen_any{A:Option Addr}{n c:Nat}{l:List Nat}{w:World}(h:Rd w A n c (bcells (pack l)))(h01:Is01 l)(hl:l.length≤131072)(V:Nat)(hV:V=num ((List.range 16).map fun i=>l.getD i 0)) :
  Calls Tryz.prog 124 #[.agg #[.slice A n c,.int .i64 l.length]] w fun e w'=>e=.returned (.agg #[.int .i64 0,.int .i64 65535,.int .i64 (V:Nat),.int .i64 16])∧Below w.heap.size w w':=by
 have HV:=Lib.hid hV;have HN:=Lib.hid (fun k=>num16_le h01 k);have H01:=Lib.hid h01;have HBT:=Lib.hid (fun(i:Nat) (hi:i≤1000000) (ii:Int) (hii:ii=(i:Nat)) (W:World) (hW:Rd W A n c (bcells (pack l)))=>arbit_any hW h01 hl i ii hii hi);clear hV h01;have C0:=(((Two.new w 70 (.slice A n c) (.int .i64 l.length)).alloc (.cells #[.int .i64 0,.int .i64 0,.int .i64 0,.int .i64 0] 161))).alloc (.cells #[.int .i64 0,.int .i64 65535,.int .i64 0,.int .i64 16] 161);have R0:=(Four.new1 w (.cells #[.slice A n c,.int .i64 l.length] 70) 161 (.int .i64 0) (.int .i64 0) (.int .i64 0) (.int .i64 0)).alloc (.cells #[.int .i64 0,.int .i64 65535,.int .i64 0,.int .i64 16] 161);have D0:=Four.new2 w (.cells #[.slice A n c,.int .i64 l.length] 70) (.cells #[.int .i64 0,.int .i64 0,.int .i64 0,.int .i64 0] 161) 161 (.int .i64 0) (.int .i64 65535) (.int .i64 0) (.int .i64 16);have y0:Below w.heap.size w (((w.alloc (.cells #[.slice A n c,.int .i64 l.length] 70)).alloc (.cells #[.int .i64 0,.int .i64 0,.int .i64 0,.int .i64 0] 161)).alloc (.cells #[.int .i64 0,.int .i64 65535,.int .i64 0,.int .i64 16] 161)):=(((Below.refl _ _).alloc (Nat.le_refl _) _).alloc (by simp) _).alloc (by simp;omega) _
 go_enter Tryz.func124,Tryz.ntmps124
 go_wp2_with fail
 generalize (((w.alloc (.cells #[.slice A n c,.int .i64 l.length] 70)).alloc (.cells #[.int .i64 0,.int .i64 0,.int .i64 0,.int .i64 0] 161)).alloc (.cells #[.int .i64 0,.int .i64 65535,.int .i64 0,.int .i64 16] 161))=W at C0 R0 D0 y0 ⊢
 go_loopw [4,6] (fun _ i wr=>∃ (k v:Nat),k≤16∧i=.int .i64 (k:Nat)∧v=num ((List.range k).map fun i=>l.getD i 0)∧v<65536∧Two wr w.heap.size 70 (.slice A n c) (.int .i64 l.length) ∧
   Four wr (w.heap.size+1) 161 (.int .i64 0) (.int .i64 0) (.int .i64 0) (.int .i64 0)∧Four wr (w.heap.size+2) 161 (.int .i64 0) (.int .i64 65535) (.int .i64 (v:Nat)) (.int .i64 16)∧Below w.heap.size w wr) (fun _ i _=>16-(intOf i).toNat)
 case atStart=>exact⟨0,0,by omega,rfl,rfl,by omega,C0,R0,D0,y0⟩
 case round =>
  obtain⟨k,v,hk,rfl,hv,hvl,C1,R1,D1,yr⟩:=hrel;have HVV:=Lib.hid hv;clear C0 R0 D0 y0 hv;by_cases hlt:k<16
  ·have hR:=h.on yr;have c0:=C1.c0;have c1:=C1.c1;have d2:=D1.c2;have d3:=D1.f2;have hvb:2*v<65536:=by
    have:=HN.out k;rw[←HVV.out] at this;have:2 ^ k≤2 ^ 15:=Nat.pow_le_pow_right (by decide) (by omega);omega
   go_wp2_with fail
   obtain⟨x,hx⟩:∃ x,x=l.getD k 0:=⟨_,rfl⟩
   have HBX:=Lib.hid (fun(W:World) (hW:Rd W A n c (bcells (pack l)))=>HBT.out k (by omega) (k:Nat) rfl W hW);rw[←hx] at HBX;have hb1:x<2:=by rw[hx];exact H01.out k
   have HX:=Lib.hid hx;clear hx;have q1:IntKind.i64.wrap (2*(v:Int))=2*(v:Int):=IntWalk.i64_in _ (by omega);have q2:IntKind.i64.wrap (2*(v:Int)+(x:Int))=2*(v:Int)+(x:Int):=IntWalk.i64_in _ (by omega);refine wp_region_noPanic ?_;refine kgf7 (S:=fun w'=>w'.cell? ⟨w.heap.size,0,none⟩=some (.slice A n c)∧w'.cell? ⟨w.heap.size,1,none⟩=some (.int .i64 l.length)∧w'.cell? ⟨w.heap.size+2,2,none⟩=some (.int .i64 (v:Nat))) 8 (by kernel_rfl) (by first|trivial|(dsimp only;go_keep)) (fun hR1=>?_);refine kj7 (i:=0) (v:=?_) rfl (by kernel_rfl) (by kernel_rfl) (by kernel_rfl) (by kernel_rfl) (by rfl) (fun _ _ _ h=>h) (Or.inl ⟨by rfl,?_⟩) (by assumption) ?_
   rotate_left 1
   focus (intro wS hSw;(try dsimp only at hSw);go_simp;try with_reducible rfl)
   (try simp only[Act.put,List.setIfInBounds_toArray,List.set_cons_zero,List.set_cons_succ])
   refine kj7 (i:=1) (v:=?_) rfl (by kernel_rfl) (by kernel_rfl) (by kernel_rfl) (by kernel_rfl) (by rfl) (fun _ _ _ h=>h) (Or.inl ⟨by rfl,?_⟩) (by assumption) ?_
   rotate_left 1
   focus (intro wS hSw;(try dsimp only at hSw);go_simp;try with_reducible rfl)
   (try simp only[Act.put,List.setIfInBounds_toArray,List.set_cons_zero,List.set_cons_succ])
   refine kj7 (i:=2) (v:=?_) rfl (by kernel_rfl) (by kernel_rfl) (by kernel_rfl) (by kernel_rfl) (by rfl) (fun _ _ _ h=>h) (Or.inl ⟨by rfl,?_⟩) (by assumption) ?_
   rotate_left 1
   focus (intro wS hSw;(try dsimp only at hSw);go_simp;try with_reducible rfl)
   (try simp only[Act.put,List.setIfInBounds_toArray,List.set_cons_zero,List.set_cons_succ])
   refine kj7 (i:=3) (v:=?_) rfl (by kernel_rfl) (by kernel_rfl) (by kernel_rfl) (by kernel_rfl) (by rfl) (fun _ _ _ h=>h) (Or.inl ⟨by rfl,?_⟩) (by assumption) ?_
   rotate_left 1
   focus (intro wS hSw;(try dsimp only at hSw);go_simp;try with_reducible rfl)
   (try simp only[Act.put,List.setIfInBounds_toArray,List.set_cons_zero,List.set_cons_succ])
   refine kj7 (i:=4) (v:=?_) rfl (by kernel_rfl) (by kernel_rfl) (by kernel_rfl) (by kernel_rfl) (by rfl) (fun _ _ _ h=>h) (Or.inl ⟨by rfl,?_⟩) (by assumption) ?_
   rotate_left 1
   focus (intro wS hSw;(try dsimp only at hSw);go_simp;try with_reducible rfl)
   (try simp only[Act.put,List.setIfInBounds_toArray,List.set_cons_zero,List.set_cons_succ])
   refine kct7 (rs:=[5]) (by kernel_rfl) (by simp) ?_;refine(AllL.cons rfl rfl (fun K hK=>?_) AllL.nil)
   go_simp
   refine(HBX.out _ hR.drew).mono ?_;rintro e w1 ⟨rfl,y1⟩;have C2:=Two.on (w:=wr.drew) C1.drew y1;have R2:=Four.on (w:=wr.drew) R1.drew y1;have D2:=Four.on (w:=wr.drew) D1.drew y1;have Y2:=(belowD yr).trans (Below.mono (w:=wr.drew) y1 yr.size);have a0:=C2.c0;have a1:=C2.c1;have e2:=D2.c2;have e3:=D2.f2
   (try go_wp2_with fail)
   refine hK.out _ _ ?_ (fun hR2=>?_)
   ·first|trivial|((try dsimp only);go_keep)
   clear hK K hR1
   (try simp only[Act.put,List.setIfInBounds_toArray,List.set_cons_zero,List.set_cons_succ])
   refine kj7 (i:=6) (v:=?_) rfl (by kernel_rfl) (by kernel_rfl) (by kernel_rfl) (by kernel_rfl) (by rfl) (fun _ _ _ h=>h) (Or.inl ⟨by rfl,?_⟩) (by assumption) ?_
   rotate_left 1
   focus (intro wS hSw;(try dsimp only at hSw);go_simp;try with_reducible rfl)
   (try simp only[Act.put,List.setIfInBounds_toArray,List.set_cons_zero,List.set_cons_succ])
   refine kj7 (i:=7) (v:=?_) rfl (by kernel_rfl) (by kernel_rfl) (by kernel_rfl) (by kernel_rfl) (by rfl) (fun _ _ _ h=>h) (Or.inl ⟨by rfl,?_⟩) (by assumption) ?_
   rotate_left 1
   focus (intro wS hSw;(try dsimp only at hSw);go_simp;try with_reducible rfl)
   (try simp only[Act.put,List.setIfInBounds_toArray,List.set_cons_zero,List.set_cons_succ])
   refine kct7 (rs:=[8]) (by kernel_rfl) (by simp) ?_;refine(AllL.last rfl rfl (fun K hK=>?_) AllL.nil)
   go_simp
   refine hK.out _ _ ?_;clear hK K hR2
   (try simp only[Act.put,List.setIfInBounds_toArray,List.set_cons_zero,List.set_cons_succ])
   refine anyL_done (by kernel_rfl) ?_ _;refine NoPanic.normal ?_;have C3:=C2.far (p:=⟨w.heap.size+2,2,none⟩) (by simp) (.int .i64 (2*(v:Int)+(x:Nat)));have R3:=R2.far (p:=⟨w.heap.size+2,2,none⟩) (by simp) (.int .i64 (2*(v:Int)+(x:Nat)));have D3:=D2.set2 (.int .i64 (2*(v:Int)+(x:Nat)));have Y3:=Y2.setCell (p:=⟨w.heap.size+2,2,none⟩) (by simp) (.int .i64 (2*(v:Int)+(x:Nat)));clear q1 q2
   go_wp2_with fail
   go_roundw
   case rel=>exact⟨k+1,2*v+x,by omega,by go_num,by rw[num16_succ,HVV.out,HX.out],by omega,C3,R3,by simpa using D3,Y3⟩
   case measure=>simp[intOf]<;>omega
  ·obtain rfl:k=16:=by omega
   have d0:=D1.c0;have d1:=D1.c1;have d2:=D1.c2;have d3:=D1.c3;have r0:=R1.c0;have r1:=R1.c1;have r2:=R1.c2;have r3:=R1.c3;have r4:=R1.f0;have r5:=R1.f1;have r6:=R1.f2;have r7:=R1.f3;have HE:=Lib.hid (show v=V by rw[HV.out,HVV.out])
   go_wp2
   have q:=(((R1.set0 (.int .i64 0)).set1 (.int .i64 65535)).set2 (.int .i64 (v:Nat))).set3 (.int .i64 16);have q0:=q.c0;have q1:=q.c1;have q2:=q.c2;have q3:=q.c3;exact bodyPost_ret (v:=.agg #[.int .i64 0,.int .i64 65535,.int .i64 (v:Nat),.int .i64 16]) (by simp[results,Tryz.results124,go_sem,q0,q1,q2,q3]) rfl ⟨by rw[HE.out],(((yr.setCell (p:=⟨w.heap.size+1,0,none⟩) (by simp) _).setCell (p:=⟨w.heap.size+1,1,none⟩) (by simp) _).setCell (p:=⟨w.heap.size+1,2,none⟩) (by simp) _).setCell (p:=⟨w.heap.size+1,3,none⟩) (by simp) _⟩
theorem part_int{lo hi p:Int}{b:Nat}(bi:Int)(hbi:bi=(b:Nat))(hb:b≤1)(h:Wid lo hi)(h1:1≤p)(h2:p≤4095)(l2 u2:Int)(hl:l2=(partOf lo hi b p).1)(hu:u2=(partOf lo hi b p).2)(w:World) :
  Calls Tryz.prog 129 #[.int .i64 lo,.int .i64 hi,.int .i64 bi,.int .i64 p] w fun e w'=>e=.returned (.tuple #[.int .i64 l2,.int .i64 u2])∧w=w':=by
 subst hbi;exact part_any hb h h1 h2 l2 u2 hl hu w
theorem fuel_pos'{l u:Int}{f:Nat}(h:Rng l u)(hf:65536<(u-l+1)*2 ^ f):∃ g,f=g+1:=by
 obtain⟨h1,h2,h3⟩:=h;cases f with
 | zero=>exfalso;rw[Int.pow_zero] at hf;omega
 | succ g=>exact⟨g,rfl⟩
theorem fuel_next'{l u:Int}{k f:Nat}(hf:65536<(u-l+1)*2 ^ (f+1)):65536<(2*(u-16384*(k:Int))+1-2*(l-16384*(k:Int))+1)*(2:Int) ^ f:=by
 have e:2*(u-16384*(k:Int))+1-2*(l-16384*(k:Int))+1=(u-l+1)*2:=by omega
 rw[e,Int.mul_assoc,Int.mul_comm 2];exact hf
theorem double_int'{lo hi:Int}{k:Nat}(h:Rng lo hi)(ht:twc lo hi=some k)(l2 u2 o2:Int)(hl:l2=2*(lo-16384*k))(hu:u2=2*(hi-16384*k)+1)(ho:o2=16384*k)(w:World) :
  Calls Tryz.prog 130 #[.int .i64 lo,.int .i64 hi] w fun e w'=>e=.returned (.tuple #[.int .i64 l2,.int .i64 u2,.int .i64 o2,.bool true])∧w=w':=by
 subst hl hu ho;exact double_some h ht w
theorem decode_any{A:Option Addr}{n c:Nat}{l:List Nat}{w:World}(h:Rd w A n c (bcells (pack l)))(h01:Is01 l)(hl:l.length≤131072){lo hi V p:Int}{t:Nat}(hW:Wid lo hi)(hV1:lo≤V)(hV2:V≤hi)(ht:t≤400000)(h1:1≤p)(h2:p≤4095)(b:Nat)(LO HI VV:Int)(TT:Nat)
  (hb:b=pickb ⟨lo,hi,V,t⟩ p) (hLO:LO=(stp lo hi b p).1) (hHI:HI=(stp lo hi b p).2.1) (hVV:VV=dv l (stp lo hi b p).2.2 V t) (hTT:TT=t+(stp lo hi b p).2.2.length) :
  Calls Tryz.prog 126 #[.agg #[.int .i64 lo,.int .i64 hi,.int .i64 V,.int .i64 (t:Nat)],.agg #[.slice A n c,.int .i64 l.length],.int .i64 p] w fun e w'=>e=.returned (.tuple #[.int .i64 (b:Nat),.agg #[.int .i64 LO,.int .i64 HI,.int .i64 VV,.int .i64 (TT:Nat)]])∧Below w.heap.size w w':=by
 have hb1:b≤1:=by rw[hb];unfold pickb;split<;>omega
 have hpk:=pick_part (d:=⟨lo,hi,V,t⟩) ⟨hW,hV1,hV2⟩ (p:=p);rw[←hb] at hpk;dsimp only at hpk;have hr0:=part_rng b hW h1 h2;obtain⟨st1,st2,st3,st4⟩:=kah7 b hW h1 h2;obtain⟨l2,hl2⟩:∃ l2,l2=(partOf lo hi b p).1:=⟨_,rfl⟩
 obtain⟨u2,hu2⟩:∃ u2,u2=(partOf lo hi b p).2:=⟨_,rfl⟩
 obtain⟨R,hR⟩:∃ R,R=(stp lo hi b p).2.2:=⟨_,rfl⟩
 have hD0:dbl 20 l2 u2=(LO,HI,R):=by rw[hl2,hu2,hLO,hHI,hR];rfl
 rw[←hR] at hVV hTT st2 st3;rw[←hl2,←hu2] at hpk;obtain⟨sp,hsp⟩:∃ sp,sp=splitOf lo hi p:=⟨_,rfl⟩
 have HB:=Lib.hid (show b=if V≤sp then 1 else 0 by rw[hb,hsp];rfl);have HD0:=Lib.hid hD0;have HVV:=Lib.hid hVV;have HTT:=Lib.hid hTT;have HR0:=Lib.hid (show Rng l2 u2 by rw[hl2,hu2];exact hr0);have HF0:=Lib.hid (show 65536<(u2-l2+1)*(2:Int) ^ 20 by
  obtain⟨r1,r2,r3⟩:=hr0;have e:(2:Int) ^ 20=1048576:=by decide
  rw[e,hl2,hu2];omega)
 have HP1:=Lib.hid (fun(W:World)=>part_int 1 rfl (by decide) hW h1 h2 lo sp rfl (by rw[hsp];rfl) W);have HP2:=Lib.hid (fun(bi:Int) (hbi:bi=(b:Nat)) (W:World)=>part_int bi hbi hb1 hW h1 h2 l2 u2 hl2 hu2 W);have H01:=Lib.hid h01;have HBT:=Lib.hid (fun(i:Nat) (hi:i≤1000000) (ii:Int) (hii:ii=(i:Nat)) (W:World) (hW:Rd W A n c (bcells (pack l)))=>arbit_any hW h01 hl i ii hii hi);have HRL:=Lib.hid st2;obtain⟨hpk1,hpk2⟩:=hpk;have HK1:=Lib.hid hpk1;have HK2:=Lib.hid hpk2;clear hl2 hu2 hD0 hR hVV hTT hLO hHI st1 st2 st3 st4 hr0 hsp hb h01 hpk1 hpk2 hW h1 h2 hV1 hV2;have P0:=(((Four.new w 161 (.int .i64 lo) (.int .i64 hi) (.int .i64 V) (.int .i64 (t:Nat))).alloc (.cells #[.slice A n c,.int .i64 l.length] 70))).alloc (.cells #[.int .i64 0,.int .i64 0,.int .i64 0,.int .i64 0] 161);have C0:=(Two.new1 w (.cells #[.int .i64 lo,.int .i64 hi,.int .i64 V,.int .i64 (t:Nat)] 161) 70 (.slice A n c) (.int .i64 l.length)).alloc (.cells #[.int .i64 0,.int .i64 0,.int .i64 0,.int .i64 0] 161);have R0:=Four.new2 w (.cells #[.int .i64 lo,.int .i64 hi,.int .i64 V,.int .i64 (t:Nat)] 161) (.cells #[.slice A n c,.int .i64 l.length] 70) 161 (.int .i64 0) (.int .i64 0) (.int .i64 0) (.int .i64 0)
 have y0:Below w.heap.size w (((w.alloc (.cells #[.int .i64 lo,.int .i64 hi,.int .i64 V,.int .i64 (t:Nat)] 161)).alloc (.cells #[.slice A n c,.int .i64 l.length] 70)).alloc (.cells #[.int .i64 0,.int .i64 0,.int .i64 0,.int .i64 0] 161)):=(((Below.refl _ _).alloc (Nat.le_refl _) _).alloc (by simp) _).alloc (by simp;omega) _;have p0:=P0.c0;have p1:=P0.c1;have p2:=P0.c2;have p3:=P0.c3;have p4:=P0.f0;have p5:=P0.f1;have hcase:(V≤sp∧b=1)∨(¬V≤sp∧b=0):=by
  have:=HB.out;by_cases hv:V≤sp
  ·rw[if_pos hv] at this;exact .inl ⟨hv,this⟩
  ·rw[if_neg hv] at this;exact .inr ⟨hv,this⟩
 clear HB hb1;obtain⟨dk,hdk,hbd⟩:∃ dk:Bool,decide (V≤sp)=dk∧b=dk.toNat:=by
  rcases hcase with⟨a1,a2⟩|⟨a1,a2⟩
  ·exact⟨true,by simpa using a1,a2⟩
  ·exact⟨false,by simpa using a1,a2⟩
 clear hcase;cases dk
 ·simp only[Bool.toNat_true,Bool.toNat_false] at hbd;subst hbd
  go_enter Tryz.func126,Tryz.ntmps126
  go_wp2_with fail
  refine(HP1.out _).mono ?_;rintro e w9 ⟨rfl,rfl⟩
  go_wp2_with fail
  refine(HP2.out _ rfl _).mono ?_;rintro e w9 ⟨rfl,rfl⟩
  go_wp2_with fail
  have P1:=(((Four.new w 161 (.int .i64 l2) (.int .i64 u2) (.int .i64 V) (.int .i64 (t:Nat))).alloc (.cells #[.slice A n c,.int .i64 l.length] 70))).alloc (.cells #[.int .i64 0,.int .i64 0,.int .i64 0,.int .i64 0] 161);have C1:=(Two.new1 w (.cells #[.int .i64 l2,.int .i64 u2,.int .i64 V,.int .i64 (t:Nat)] 161) 70 (.slice A n c) (.int .i64 l.length)).alloc (.cells #[.int .i64 0,.int .i64 0,.int .i64 0,.int .i64 0] 161);have R1:=Four.new2 w (.cells #[.int .i64 l2,.int .i64 u2,.int .i64 V,.int .i64 (t:Nat)] 161) (.cells #[.slice A n c,.int .i64 l.length] 70) 161 (.int .i64 0) (.int .i64 0) (.int .i64 0) (.int .i64 0);have y1:Below w.heap.size w (((w.alloc (.cells #[.int .i64 l2,.int .i64 u2,.int .i64 V,.int .i64 (t:Nat)] 161)).alloc (.cells #[.slice A n c,.int .i64 l.length] 70)).alloc (.cells #[.int .i64 0,.int .i64 0,.int .i64 0,.int .i64 0] 161)):=(((Below.refl _ _).alloc (Nat.le_refl _) _).alloc (by simp) _).alloc (by simp;omega) _;generalize (((w.alloc (.cells #[.int .i64 l2,.int .i64 u2,.int .i64 V,.int .i64 (t:Nat)] 161)).alloc (.cells #[.slice A n c,.int .i64 l.length] 70)).alloc (.cells #[.int .i64 0,.int .i64 0,.int .i64 0,.int .i64 0] 161))=W at P1 C1 R1 y1 ⊢;clear P0 C0 R0 y0 p0 p1 p2 p3 p4 p5
  go_loopw [11,12,13,14] (fun _ _ _ _ wr=>∃ (a u v:Int) (s f:Nat) (rest:List Nat),Rng a u∧dbl f a u=(LO,HI,rest)∧65536<(u-a+1)*(2:Int) ^ f∧a≤v∧v≤u∧dv l rest v s=VV∧s+rest.length=TT∧s+rest.length≤400020 ∧
    Four wr w.heap.size 161 (.int .i64 a) (.int .i64 u) (.int .i64 v) (.int .i64 (s:Nat))∧Two wr (w.heap.size+1) 70 (.slice A n c) (.int .i64 l.length)∧Four wr (w.heap.size+2) 161 (.int .i64 0) (.int .i64 0) (.int .i64 0) (.int .i64 0)∧Below w.heap.size w wr)
    (fun _ _ _ _ wr=>(65536-(intOf ((wr.cell? ⟨w.heap.size,1,none⟩).getD undef)-intOf ((wr.cell? ⟨w.heap.size,0,none⟩).getD undef))).toNat)
  case atStart=>exact⟨l2,u2,V,t,20,R,HR0.out,HD0.out,HF0.out,HK1.out,HK2.out,HVV.out.symm,HTT.out.symm,by have:=HRL.out;omega,P1,C1,R1,y1⟩
  case round =>
   obtain⟨a,u,v,s,f,rest,hrg,hd,hf,hv1,hv2,hvv,htt,hst,P2,C2,R2,yr⟩:=hrel;clear P1 C1 R1 y1;have HD:=Lib.hid hd;have HF:=Lib.hid hf;have HRG:=Lib.hid hrg;have HV2:=Lib.hid hvv;have HT2:=Lib.hid htt;obtain⟨rg1,rg2,rg3⟩:=hrg;clear hd hf hvv htt;have p0:=P2.c0;have p1:=P2.c1;have p2:=P2.c2;have p3:=P2.c3;rcases kdy7 HRG.out with⟨hn,hW⟩|⟨k,hk,hk2,hR'⟩
   ·have HN:=Lib.hid hn;have e1:=HD.out;rw[kes7 hn] at e1;injection e1 with e1 e2;injection e2 with e2 e3;subst e1 e2 e3;have HA:=Lib.hid (show v=VV from HV2.out);have HB:=Lib.hid (show s=TT from HT2.out);clear hn hW;have r0:=R2.c0;have r1:=R2.c1;have r2:=R2.c2;have r3:=R2.c3;have r4:=R2.f0;have r5:=R2.f1;have r6:=R2.f2;have r7:=R2.f3
    go_wp2_with fail
    refine(kge7 HRG.out HN.out _).mono ?_;rintro e w9 ⟨rfl,rfl⟩
    go_wp2_with fail
    go_region
    go_wp2_with fail
    have q:=((((R2.set0 (.int .i64 a)).set1 (.int .i64 u)).set2 (.int .i64 v)).set3 (.int .i64 (s:Nat))).drew;have q0:=q.c0;have q1:=q.c1;have q2:=q.c2;have q3:=q.c3;exact bodyPost_ret (v:=.tuple #[.int .i64 (0:Nat),.agg #[.int .i64 a,.int .i64 u,.int .i64 v,.int .i64 (s:Nat)]]) (by simp[results,Tryz.results126,go_sem,q0,q1,q2,q3]) rfl ⟨by rw[HA.out,HB.out],belowD ((((yr.setCell (p:=⟨w.heap.size+2,0,none⟩) (by simp) _).setCell (p:=⟨w.heap.size+2,1,none⟩) (by simp) _).setCell (p:=⟨w.heap.size+2,2,none⟩) (by simp) _).setCell (p:=⟨w.heap.size+2,3,none⟩) (by simp) _)⟩
   ·obtain⟨g,rfl⟩:=fuel_pos' HRG.out HF.out;have hd1:=HD.out;rw[ket7 hk] at hd1;injection hd1 with e1 e2;injection e2 with e2 e3;obtain⟨a',ha'⟩:∃ a',a'=2*(a-16384*(k:Int)):=⟨_,rfl⟩
    obtain⟨u',hu'⟩:∃ u',u'=2*(u-16384*(k:Int))+1:=⟨_,rfl⟩
    obtain⟨o2,ho2⟩:∃ o2,o2=16384*(k:Int):=⟨_,rfl⟩
    rw[←ha',←hu'] at e1 e2 e3 hR';obtain⟨rest',hrest⟩:∃ r,r=(dbl g a' u').2.2:=⟨_,rfl⟩
    have HD2:=Lib.hid (show dbl g a' u'=(LO,HI,rest') by rw[←e1,←e2,hrest]);rw[←hrest] at e3;subst e3;have HF2:=Lib.hid (show 65536<(u'-a'+1)*(2:Int) ^ g by have:=fuel_next' (k:=k) HF.out;rwa [←ha',←hu'] at this);have HL2:=Lib.hid hR';have HDB:=Lib.hid (fun(W:World)=>double_int' HRG.out hk a' u' o2 ha' hu' ho2 W);have hmm:u'-a'=2*(u-a)+1:=by rw[hu',ha'];omega
    obtain⟨n1,n2,n3⟩:=hR';obtain⟨x,hx⟩:∃ x,x=l.getD s 0:=⟨_,rfl⟩
    have hs4:s≤400020:=by omega
    have HBX:=Lib.hid (fun(W:World) (hW:Rd W A n c (bcells (pack l)))=>HBT.out s (by omega) (s:Nat) rfl W hW);rw[←hx] at HBX;have hx1:x<2:=by rw[hx];exact H01.out s
    have HV3:=Lib.hid (show dv l rest' (2*(v-o2)+(x:Nat)) (s+1)=VV by have:=HV2.out;rw[dv,←hx,←ho2] at this;exact this);have HT3:=Lib.hid (show s+1+rest'.length=TT by have:=HT2.out;rw[List.length_cons] at this;omega);rw[List.length_cons] at hst;have b1:a'≤2*(v-o2)+(x:Int):=by rw[ha',ho2];omega
    have b2:2*(v-o2)+(x:Int)≤u':=by rw[hu',ho2];omega
    have b3:0≤v-o2:=by rw[ha'] at n1;omega
    have q1:IntKind.i64.wrap (v-o2)=v-o2:=IntWalk.i64_in _ (by omega);have q2:IntKind.i64.wrap (2*(v-o2))=2*(v-o2):=IntWalk.i64_in _ (by omega);have q3:IntKind.i64.wrap (2*(v-o2)+(x:Int))=2*(v-o2)+(x:Int):=IntWalk.i64_in _ (by omega);have q4:IntKind.i64.wrap ((s:Int)+1)=(s:Int)+1:=IntWalk.i64_in _ (by omega);clear hk e1 e2 hrest ha' hu' ho2 hx;have hR:=h.on yr;have c0:=C2.c0;have c1:=C2.c1;have MC0:=Lib.hid p0;have MC1:=Lib.hid p1
    go_wp2_with fail
    refine(HDB.out _).mono ?_;rintro e w9 ⟨rfl,rfl⟩
    go_wp2_with fail
    refine wp_region_noPanic ?_;refine kgf7 (S:=fun w'=>w'.cell? ⟨w.heap.size+1,0,none⟩=some (.slice A n c)∧w'.cell? ⟨w.heap.size+1,1,none⟩=some (.int .i64 l.length)∧w'.cell? ⟨w.heap.size,2,none⟩=some (.int .i64 v)∧w'.cell? ⟨w.heap.size,3,none⟩=some (.int .i64 (s:Nat))) 16 (by kernel_rfl) (by first|trivial|(dsimp only;go_keep)) (fun hR4=>?_);refine kj7 (i:=0) (v:=?_) rfl (by kernel_rfl) (by kernel_rfl) (by kernel_rfl) (by kernel_rfl) (by rfl) (fun _ _ _ h=>h) (Or.inl ⟨by rfl,?_⟩) (by assumption) ?_
    rotate_left 1
    focus (intro wS hSw;(try dsimp only at hSw);go_simp;try with_reducible rfl)
    (try simp only[Act.put,List.setIfInBounds_toArray,List.set_cons_zero,List.set_cons_succ])
    refine kj7 (i:=1) (v:=?_) rfl (by kernel_rfl) (by kernel_rfl) (by kernel_rfl) (by kernel_rfl) (by rfl) (fun _ _ _ h=>h) (Or.inl ⟨by rfl,?_⟩) (by assumption) ?_
    rotate_left 1
    focus (intro wS hSw;(try dsimp only at hSw);go_simp;try with_reducible rfl)
    (try simp only[Act.put,List.setIfInBounds_toArray,List.set_cons_zero,List.set_cons_succ])
    refine kj7 (i:=2) (v:=?_) rfl (by kernel_rfl) (by kernel_rfl) (by kernel_rfl) (by kernel_rfl) (by rfl) (fun _ _ _ h=>h) (Or.inl ⟨by rfl,?_⟩) (by assumption) ?_
    rotate_left 1
    focus (intro wS hSw;(try dsimp only at hSw);go_simp;try with_reducible rfl)
    (try simp only[Act.put,List.setIfInBounds_toArray,List.set_cons_zero,List.set_cons_succ])
    refine kj7 (i:=3) (v:=?_) rfl (by kernel_rfl) (by kernel_rfl) (by kernel_rfl) (by kernel_rfl) (by rfl) (fun _ _ _ h=>h) (Or.inl ⟨by rfl,?_⟩) (by assumption) ?_
    rotate_left 1
    focus (intro wS hSw;(try dsimp only at hSw);go_simp;try with_reducible rfl)
    (try simp only[Act.put,List.setIfInBounds_toArray,List.set_cons_zero,List.set_cons_succ])
    refine kj7 (i:=4) (v:=?_) rfl (by kernel_rfl) (by kernel_rfl) (by kernel_rfl) (by kernel_rfl) (by rfl) (fun _ _ _ h=>h) (Or.inl ⟨by rfl,?_⟩) (by assumption) ?_
    rotate_left 1
    focus (intro wS hSw;(try dsimp only at hSw);go_simp;try with_reducible rfl)
    (try simp only[Act.put,List.setIfInBounds_toArray,List.set_cons_zero,List.set_cons_succ])
    refine kj7 (i:=5) (v:=?_) rfl (by kernel_rfl) (by kernel_rfl) (by kernel_rfl) (by kernel_rfl) (by rfl) (fun _ _ _ h=>h) (Or.inl ⟨by rfl,?_⟩) (by assumption) ?_
    rotate_left 1
    focus (intro wS hSw;(try dsimp only at hSw);go_simp;try with_reducible rfl)
    (try simp only[Act.put,List.setIfInBounds_toArray,List.set_cons_zero,List.set_cons_succ])
    refine kj7 (i:=6) (v:=?_) rfl (by kernel_rfl) (by kernel_rfl) (by kernel_rfl) (by kernel_rfl) (by rfl) (fun _ _ _ h=>h) (Or.inl ⟨by rfl,?_⟩) (by assumption) ?_
    rotate_left 1
    focus (intro wS hSw;(try dsimp only at hSw);go_simp;try with_reducible rfl)
    (try simp only[Act.put,List.setIfInBounds_toArray,List.set_cons_zero,List.set_cons_succ])
    refine kj7 (i:=7) (v:=?_) rfl (by kernel_rfl) (by kernel_rfl) (by kernel_rfl) (by kernel_rfl) (by rfl) (fun _ _ _ h=>h) (Or.inl ⟨by rfl,?_⟩) (by assumption) ?_
    rotate_left 1
    focus (intro wS hSw;(try dsimp only at hSw);go_simp;try with_reducible rfl)
    (try simp only[Act.put,List.setIfInBounds_toArray,List.set_cons_zero,List.set_cons_succ])
    refine kj7 (i:=8) (v:=?_) rfl (by kernel_rfl) (by kernel_rfl) (by kernel_rfl) (by kernel_rfl) (by rfl) (fun _ _ _ h=>h) (Or.inl ⟨by rfl,?_⟩) (by assumption) ?_
    rotate_left 1
    focus (intro wS hSw;(try dsimp only at hSw);go_simp;try with_reducible rfl)
    (try simp only[Act.put,List.setIfInBounds_toArray,List.set_cons_zero,List.set_cons_succ])
    refine kj7 (i:=9) (v:=?_) rfl (by kernel_rfl) (by kernel_rfl) (by kernel_rfl) (by kernel_rfl) (by rfl) (fun _ _ _ h=>h) (Or.inl ⟨by rfl,?_⟩) (by assumption) ?_
    rotate_left 1
    focus (intro wS hSw;(try dsimp only at hSw);go_simp;try with_reducible rfl)
    (try simp only[Act.put,List.setIfInBounds_toArray,List.set_cons_zero,List.set_cons_succ])
    refine kj7 (i:=12) (v:=?_) rfl (by kernel_rfl) (by kernel_rfl) (by kernel_rfl) (by kernel_rfl) (by rfl) (fun _ _ _ h=>h) (Or.inl ⟨by rfl,?_⟩) (by assumption) ?_
    rotate_left 1
    focus (intro wS hSw;(try dsimp only at hSw);go_simp;try with_reducible rfl)
    (try simp only[Act.put,List.setIfInBounds_toArray,List.set_cons_zero,List.set_cons_succ])
    refine kj7 (i:=13) (v:=?_) rfl (by kernel_rfl) (by kernel_rfl) (by kernel_rfl) (by kernel_rfl) (by rfl) (fun _ _ _ h=>h) (Or.inl ⟨by rfl,?_⟩) (by assumption) ?_
    rotate_left 1
    focus (intro wS hSw;(try dsimp only at hSw);go_simp;try with_reducible rfl)
    (try simp only[Act.put,List.setIfInBounds_toArray,List.set_cons_zero,List.set_cons_succ])
    refine kj7 (i:=14) (v:=?_) rfl (by kernel_rfl) (by kernel_rfl) (by kernel_rfl) (by kernel_rfl) (by rfl) (fun _ _ _ h=>h) (Or.inl ⟨by rfl,?_⟩) (by assumption) ?_
    rotate_left 1
    focus (intro wS hSw;(try dsimp only at hSw);go_simp;try with_reducible rfl)
    (try simp only[Act.put,List.setIfInBounds_toArray,List.set_cons_zero,List.set_cons_succ])
    refine kct7 (rs:=[10]) (by kernel_rfl) (by simp) ?_;refine(AllL.cons rfl rfl (fun K hK=>?_) AllL.nil)
    go_simp
    refine(HBX.out _ hR.drew).mono ?_;rintro e w1 ⟨rfl,y1⟩;have C3:=Two.on (w:=wr.drew) C2.drew y1;have R3:=Four.on (w:=wr.drew) R2.drew y1;have P3:=Four.on (w:=wr.drew) P2.drew y1;have Y3:=(belowD yr).trans (Below.mono (w:=wr.drew) y1 yr.size);have a0:=C3.c0;have a1:=C3.c1;have e0:=P3.c0;have e1:=P3.c1;have e2:=P3.c2;have e3:=P3.c3;have e4:=P3.f0;have e5:=P3.f1;have e6:=P3.f2;have e7:=P3.f3
    (try go_wp2_with fail)
    refine hK.out _ _ ?_ (fun hR5=>?_)
    ·first|trivial|((try dsimp only);go_keep)
    clear hK K hR4
    (try simp only[Act.put,List.setIfInBounds_toArray,List.set_cons_zero,List.set_cons_succ])
    refine kj7 (i:=11) (v:=?_) rfl (by kernel_rfl) (by kernel_rfl) (by kernel_rfl) (by kernel_rfl) (by rfl) (fun _ _ _ h=>h) (Or.inl ⟨by rfl,?_⟩) (by assumption) ?_
    rotate_left 1
    focus (intro wS hSw;(try dsimp only at hSw);go_simp;try with_reducible rfl)
    (try simp only[Act.put,List.setIfInBounds_toArray,List.set_cons_zero,List.set_cons_succ])
    refine kj7 (i:=15) (v:=?_) rfl (by kernel_rfl) (by kernel_rfl) (by kernel_rfl) (by kernel_rfl) (by rfl) (fun _ _ _ h=>h) (Or.inl ⟨by rfl,?_⟩) (by assumption) ?_
    rotate_left 1
    focus (intro wS hSw;(try dsimp only at hSw);go_simp;try with_reducible rfl)
    (try simp only[Act.put,List.setIfInBounds_toArray,List.set_cons_zero,List.set_cons_succ])
    refine kct7 (rs:=[16]) (by kernel_rfl) (by simp) ?_;refine(AllL.last rfl rfl (fun K hK=>?_) AllL.nil)
    go_simp
    refine hK.out _ _ ?_;clear hK K hR5
    (try simp only[Act.put,List.setIfInBounds_toArray,List.set_cons_zero,List.set_cons_succ])
    refine anyL_done (by kernel_rfl) ?_ _;refine NoPanic.normal ?_;have P4:=((((P3.set0 (.int .i64 a')).set1 (.int .i64 u')).set2 (.int .i64 (2*(v-o2)+(x:Int)))).set3 (.int .i64 ((s:Int)+1)))
    have C4:=((((C3.far (p:=⟨w.heap.size,0,none⟩) (by simp) (.int .i64 a')).far (p:=⟨w.heap.size,1,none⟩) (by simp) (.int .i64 u')).far (p:=⟨w.heap.size,2,none⟩) (by simp) (.int .i64 (2*(v-o2)+(x:Int)))).far (p:=⟨w.heap.size,3,none⟩) (by simp) (.int .i64 ((s:Int)+1)))
    have R4:=((((R3.far (p:=⟨w.heap.size,0,none⟩) (by simp) (.int .i64 a')).far (p:=⟨w.heap.size,1,none⟩) (by simp) (.int .i64 u')).far (p:=⟨w.heap.size,2,none⟩) (by simp) (.int .i64 (2*(v-o2)+(x:Int)))).far (p:=⟨w.heap.size,3,none⟩) (by simp) (.int .i64 ((s:Int)+1)))
    have Y4:=((((Y3.setCell (p:=⟨w.heap.size,0,none⟩) (by simp) (.int .i64 a')).setCell (p:=⟨w.heap.size,1,none⟩) (by simp) (.int .i64 u')).setCell (p:=⟨w.heap.size,2,none⟩) (by simp) (.int .i64 (2*(v-o2)+(x:Int)))).setCell (p:=⟨w.heap.size,3,none⟩) (by simp) (.int .i64 ((s:Int)+1)))
    have m0:=P4.c0;have m1:=P4.c1;clear q1 q2 q3 q4 e0 e1 e2 e3 e4 e5 e6 e7
    go_wp2_with fail
    go_roundw
    case rel=>exact⟨a',u',2*(v-o2)+(x:Int),s+1,g,rest',HL2.out,HD2.out,HF2.out,b1,b2,HV3.out,HT3.out,by omega,P4,C4,R4,Y4⟩
    case measure=>simp[m0,m1,MC0.out,MC1.out,intOf]<;>omega
 ·simp only[Bool.toNat_true,Bool.toNat_false] at hbd;subst hbd
  go_enter Tryz.func126,Tryz.ntmps126
  go_wp2_with fail
  refine(HP1.out _).mono ?_;rintro e w9 ⟨rfl,rfl⟩
  go_wp2_with fail
  refine(HP2.out _ rfl _).mono ?_;rintro e w9 ⟨rfl,rfl⟩
  go_wp2_with fail
  have P1:=(((Four.new w 161 (.int .i64 l2) (.int .i64 u2) (.int .i64 V) (.int .i64 (t:Nat))).alloc (.cells #[.slice A n c,.int .i64 l.length] 70))).alloc (.cells #[.int .i64 0,.int .i64 0,.int .i64 0,.int .i64 0] 161);have C1:=(Two.new1 w (.cells #[.int .i64 l2,.int .i64 u2,.int .i64 V,.int .i64 (t:Nat)] 161) 70 (.slice A n c) (.int .i64 l.length)).alloc (.cells #[.int .i64 0,.int .i64 0,.int .i64 0,.int .i64 0] 161);have R1:=Four.new2 w (.cells #[.int .i64 l2,.int .i64 u2,.int .i64 V,.int .i64 (t:Nat)] 161) (.cells #[.slice A n c,.int .i64 l.length] 70) 161 (.int .i64 0) (.int .i64 0) (.int .i64 0) (.int .i64 0);have y1:Below w.heap.size w (((w.alloc (.cells #[.int .i64 l2,.int .i64 u2,.int .i64 V,.int .i64 (t:Nat)] 161)).alloc (.cells #[.slice A n c,.int .i64 l.length] 70)).alloc (.cells #[.int .i64 0,.int .i64 0,.int .i64 0,.int .i64 0] 161)):=(((Below.refl _ _).alloc (Nat.le_refl _) _).alloc (by simp) _).alloc (by simp;omega) _;generalize (((w.alloc (.cells #[.int .i64 l2,.int .i64 u2,.int .i64 V,.int .i64 (t:Nat)] 161)).alloc (.cells #[.slice A n c,.int .i64 l.length] 70)).alloc (.cells #[.int .i64 0,.int .i64 0,.int .i64 0,.int .i64 0] 161))=W at P1 C1 R1 y1 ⊢;clear P0 C0 R0 y0 p0 p1 p2 p3 p4 p5
  go_loopw [11,12,13,14] (fun _ _ _ _ wr=>∃ (a u v:Int) (s f:Nat) (rest:List Nat),Rng a u∧dbl f a u=(LO,HI,rest)∧65536<(u-a+1)*(2:Int) ^ f∧a≤v∧v≤u∧dv l rest v s=VV∧s+rest.length=TT∧s+rest.length≤400020 ∧
    Four wr w.heap.size 161 (.int .i64 a) (.int .i64 u) (.int .i64 v) (.int .i64 (s:Nat))∧Two wr (w.heap.size+1) 70 (.slice A n c) (.int .i64 l.length)∧Four wr (w.heap.size+2) 161 (.int .i64 0) (.int .i64 0) (.int .i64 0) (.int .i64 0)∧Below w.heap.size w wr)
    (fun _ _ _ _ wr=>(65536-(intOf ((wr.cell? ⟨w.heap.size,1,none⟩).getD undef)-intOf ((wr.cell? ⟨w.heap.size,0,none⟩).getD undef))).toNat)
  case atStart=>exact⟨l2,u2,V,t,20,R,HR0.out,HD0.out,HF0.out,HK1.out,HK2.out,HVV.out.symm,HTT.out.symm,by have:=HRL.out;omega,P1,C1,R1,y1⟩
  case round =>
   obtain⟨a,u,v,s,f,rest,hrg,hd,hf,hv1,hv2,hvv,htt,hst,P2,C2,R2,yr⟩:=hrel;clear P1 C1 R1 y1;have HD:=Lib.hid hd;have HF:=Lib.hid hf;have HRG:=Lib.hid hrg;have HV2:=Lib.hid hvv;have HT2:=Lib.hid htt;obtain⟨rg1,rg2,rg3⟩:=hrg;clear hd hf hvv htt;have p0:=P2.c0;have p1:=P2.c1;have p2:=P2.c2;have p3:=P2.c3;rcases kdy7 HRG.out with⟨hn,hW⟩|⟨k,hk,hk2,hR'⟩
   ·have HN:=Lib.hid hn;have e1:=HD.out;rw[kes7 hn] at e1;injection e1 with e1 e2;injection e2 with e2 e3;subst e1 e2 e3;have HA:=Lib.hid (show v=VV from HV2.out);have HB:=Lib.hid (show s=TT from HT2.out);clear hn hW;have r0:=R2.c0;have r1:=R2.c1;have r2:=R2.c2;have r3:=R2.c3;have r4:=R2.f0;have r5:=R2.f1;have r6:=R2.f2;have r7:=R2.f3
    go_wp2_with fail
    refine(kge7 HRG.out HN.out _).mono ?_;rintro e w9 ⟨rfl,rfl⟩
    go_wp2_with fail
    go_region
    go_wp2_with fail
    have q:=((((R2.set0 (.int .i64 a)).set1 (.int .i64 u)).set2 (.int .i64 v)).set3 (.int .i64 (s:Nat))).drew;have q0:=q.c0;have q1:=q.c1;have q2:=q.c2;have q3:=q.c3;exact bodyPost_ret (v:=.tuple #[.int .i64 (1:Nat),.agg #[.int .i64 a,.int .i64 u,.int .i64 v,.int .i64 (s:Nat)]]) (by simp[results,Tryz.results126,go_sem,q0,q1,q2,q3]) rfl ⟨by rw[HA.out,HB.out],belowD ((((yr.setCell (p:=⟨w.heap.size+2,0,none⟩) (by simp) _).setCell (p:=⟨w.heap.size+2,1,none⟩) (by simp) _).setCell (p:=⟨w.heap.size+2,2,none⟩) (by simp) _).setCell (p:=⟨w.heap.size+2,3,none⟩) (by simp) _)⟩
   ·obtain⟨g,rfl⟩:=fuel_pos' HRG.out HF.out;have hd1:=HD.out;rw[ket7 hk] at hd1;injection hd1 with e1 e2;injection e2 with e2 e3;obtain⟨a',ha'⟩:∃ a',a'=2*(a-16384*(k:Int)):=⟨_,rfl⟩
    obtain⟨u',hu'⟩:∃ u',u'=2*(u-16384*(k:Int))+1:=⟨_,rfl⟩
    obtain⟨o2,ho2⟩:∃ o2,o2=16384*(k:Int):=⟨_,rfl⟩
    rw[←ha',←hu'] at e1 e2 e3 hR';obtain⟨rest',hrest⟩:∃ r,r=(dbl g a' u').2.2:=⟨_,rfl⟩
    have HD2:=Lib.hid (show dbl g a' u'=(LO,HI,rest') by rw[←e1,←e2,hrest]);rw[←hrest] at e3;subst e3;have HF2:=Lib.hid (show 65536<(u'-a'+1)*(2:Int) ^ g by have:=fuel_next' (k:=k) HF.out;rwa [←ha',←hu'] at this);have HL2:=Lib.hid hR';have HDB:=Lib.hid (fun(W:World)=>double_int' HRG.out hk a' u' o2 ha' hu' ho2 W);have hmm:u'-a'=2*(u-a)+1:=by rw[hu',ha'];omega
    obtain⟨n1,n2,n3⟩:=hR';obtain⟨x,hx⟩:∃ x,x=l.getD s 0:=⟨_,rfl⟩
    have hs4:s≤400020:=by omega
    have HBX:=Lib.hid (fun(W:World) (hW:Rd W A n c (bcells (pack l)))=>HBT.out s (by omega) (s:Nat) rfl W hW);rw[←hx] at HBX;have hx1:x<2:=by rw[hx];exact H01.out s
    have HV3:=Lib.hid (show dv l rest' (2*(v-o2)+(x:Nat)) (s+1)=VV by have:=HV2.out;rw[dv,←hx,←ho2] at this;exact this);have HT3:=Lib.hid (show s+1+rest'.length=TT by have:=HT2.out;rw[List.length_cons] at this;omega);rw[List.length_cons] at hst;have b1:a'≤2*(v-o2)+(x:Int):=by rw[ha',ho2];omega
    have b2:2*(v-o2)+(x:Int)≤u':=by rw[hu',ho2];omega
    have b3:0≤v-o2:=by rw[ha'] at n1;omega
    have q1:IntKind.i64.wrap (v-o2)=v-o2:=IntWalk.i64_in _ (by omega);have q2:IntKind.i64.wrap (2*(v-o2))=2*(v-o2):=IntWalk.i64_in _ (by omega);have q3:IntKind.i64.wrap (2*(v-o2)+(x:Int))=2*(v-o2)+(x:Int):=IntWalk.i64_in _ (by omega);have q4:IntKind.i64.wrap ((s:Int)+1)=(s:Int)+1:=IntWalk.i64_in _ (by omega);clear hk e1 e2 hrest ha' hu' ho2 hx;have hR:=h.on yr;have c0:=C2.c0;have c1:=C2.c1;have MC0:=Lib.hid p0;have MC1:=Lib.hid p1
    go_wp2_with fail
    refine(HDB.out _).mono ?_;rintro e w9 ⟨rfl,rfl⟩
    go_wp2_with fail
    refine wp_region_noPanic ?_;refine kgf7 (S:=fun w'=>w'.cell? ⟨w.heap.size+1,0,none⟩=some (.slice A n c)∧w'.cell? ⟨w.heap.size+1,1,none⟩=some (.int .i64 l.length)∧w'.cell? ⟨w.heap.size,2,none⟩=some (.int .i64 v)∧w'.cell? ⟨w.heap.size,3,none⟩=some (.int .i64 (s:Nat))) 16 (by kernel_rfl) (by first|trivial|(dsimp only;go_keep)) (fun hR4=>?_);refine kj7 (i:=0) (v:=?_) rfl (by kernel_rfl) (by kernel_rfl) (by kernel_rfl) (by kernel_rfl) (by rfl) (fun _ _ _ h=>h) (Or.inl ⟨by rfl,?_⟩) (by assumption) ?_
    rotate_left 1
    focus (intro wS hSw;(try dsimp only at hSw);go_simp;try with_reducible rfl)
    (try simp only[Act.put,List.setIfInBounds_toArray,List.set_cons_zero,List.set_cons_succ])
    refine kj7 (i:=1) (v:=?_) rfl (by kernel_rfl) (by kernel_rfl) (by kernel_rfl) (by kernel_rfl) (by rfl) (fun _ _ _ h=>h) (Or.inl ⟨by rfl,?_⟩) (by assumption) ?_
    rotate_left 1
    focus (intro wS hSw;(try dsimp only at hSw);go_simp;try with_reducible rfl)
    (try simp only[Act.put,List.setIfInBounds_toArray,List.set_cons_zero,List.set_cons_succ])
    refine kj7 (i:=2) (v:=?_) rfl (by kernel_rfl) (by kernel_rfl) (by kernel_rfl) (by kernel_rfl) (by rfl) (fun _ _ _ h=>h) (Or.inl ⟨by rfl,?_⟩) (by assumption) ?_
    rotate_left 1
    focus (intro wS hSw;(try dsimp only at hSw);go_simp;try with_reducible rfl)
    (try simp only[Act.put,List.setIfInBounds_toArray,List.set_cons_zero,List.set_cons_succ])
    refine kj7 (i:=3) (v:=?_) rfl (by kernel_rfl) (by kernel_rfl) (by kernel_rfl) (by kernel_rfl) (by rfl) (fun _ _ _ h=>h) (Or.inl ⟨by rfl,?_⟩) (by assumption) ?_
    rotate_left 1
    focus (intro wS hSw;(try dsimp only at hSw);go_simp;try with_reducible rfl)
    (try simp only[Act.put,List.setIfInBounds_toArray,List.set_cons_zero,List.set_cons_succ])
    refine kj7 (i:=4) (v:=?_) rfl (by kernel_rfl) (by kernel_rfl) (by kernel_rfl) (by kernel_rfl) (by rfl) (fun _ _ _ h=>h) (Or.inl ⟨by rfl,?_⟩) (by assumption) ?_
    rotate_left 1
    focus (intro wS hSw;(try dsimp only at hSw);go_simp;try with_reducible rfl)
    (try simp only[Act.put,List.setIfInBounds_toArray,List.set_cons_zero,List.set_cons_succ])
    refine kj7 (i:=5) (v:=?_) rfl (by kernel_rfl) (by kernel_rfl) (by kernel_rfl) (by kernel_rfl) (by rfl) (fun _ _ _ h=>h) (Or.inl ⟨by rfl,?_⟩) (by assumption) ?_
    rotate_left 1
    focus (intro wS hSw;(try dsimp only at hSw);go_simp;try with_reducible rfl)
    (try simp only[Act.put,List.setIfInBounds_toArray,List.set_cons_zero,List.set_cons_succ])
    refine kj7 (i:=6) (v:=?_) rfl (by kernel_rfl) (by kernel_rfl) (by kernel_rfl) (by kernel_rfl) (by rfl) (fun _ _ _ h=>h) (Or.inl ⟨by rfl,?_⟩) (by assumption) ?_
    rotate_left 1
    focus (intro wS hSw;(try dsimp only at hSw);go_simp;try with_reducible rfl)
    (try simp only[Act.put,List.setIfInBounds_toArray,List.set_cons_zero,List.set_cons_succ])
    refine kj7 (i:=7) (v:=?_) rfl (by kernel_rfl) (by kernel_rfl) (by kernel_rfl) (by kernel_rfl) (by rfl) (fun _ _ _ h=>h) (Or.inl ⟨by rfl,?_⟩) (by assumption) ?_
    rotate_left 1
    focus (intro wS hSw;(try dsimp only at hSw);go_simp;try with_reducible rfl)
    (try simp only[Act.put,List.setIfInBounds_toArray,List.set_cons_zero,List.set_cons_succ])
    refine kj7 (i:=8) (v:=?_) rfl (by kernel_rfl) (by kernel_rfl) (by kernel_rfl) (by kernel_rfl) (by rfl) (fun _ _ _ h=>h) (Or.inl ⟨by rfl,?_⟩) (by assumption) ?_
    rotate_left 1
    focus (intro wS hSw;(try dsimp only at hSw);go_simp;try with_reducible rfl)
    (try simp only[Act.put,List.setIfInBounds_toArray,List.set_cons_zero,List.set_cons_succ])
    refine kj7 (i:=9) (v:=?_) rfl (by kernel_rfl) (by kernel_rfl) (by kernel_rfl) (by kernel_rfl) (by rfl) (fun _ _ _ h=>h) (Or.inl ⟨by rfl,?_⟩) (by assumption) ?_
    rotate_left 1
    focus (intro wS hSw;(try dsimp only at hSw);go_simp;try with_reducible rfl)
    (try simp only[Act.put,List.setIfInBounds_toArray,List.set_cons_zero,List.set_cons_succ])
    refine kj7 (i:=12) (v:=?_) rfl (by kernel_rfl) (by kernel_rfl) (by kernel_rfl) (by kernel_rfl) (by rfl) (fun _ _ _ h=>h) (Or.inl ⟨by rfl,?_⟩) (by assumption) ?_
    rotate_left 1
    focus (intro wS hSw;(try dsimp only at hSw);go_simp;try with_reducible rfl)
    (try simp only[Act.put,List.setIfInBounds_toArray,List.set_cons_zero,List.set_cons_succ])
    refine kj7 (i:=13) (v:=?_) rfl (by kernel_rfl) (by kernel_rfl) (by kernel_rfl) (by kernel_rfl) (by rfl) (fun _ _ _ h=>h) (Or.inl ⟨by rfl,?_⟩) (by assumption) ?_
    rotate_left 1
    focus (intro wS hSw;(try dsimp only at hSw);go_simp;try with_reducible rfl)
    (try simp only[Act.put,List.setIfInBounds_toArray,List.set_cons_zero,List.set_cons_succ])
    refine kj7 (i:=14) (v:=?_) rfl (by kernel_rfl) (by kernel_rfl) (by kernel_rfl) (by kernel_rfl) (by rfl) (fun _ _ _ h=>h) (Or.inl ⟨by rfl,?_⟩) (by assumption) ?_
    rotate_left 1
    focus (intro wS hSw;(try dsimp only at hSw);go_simp;try with_reducible rfl)
    (try simp only[Act.put,List.setIfInBounds_toArray,List.set_cons_zero,List.set_cons_succ])
    refine kct7 (rs:=[10]) (by kernel_rfl) (by simp) ?_;refine(AllL.cons rfl rfl (fun K hK=>?_) AllL.nil)
    go_simp
    refine(HBX.out _ hR.drew).mono ?_;rintro e w1 ⟨rfl,y1⟩;have C3:=Two.on (w:=wr.drew) C2.drew y1;have R3:=Four.on (w:=wr.drew) R2.drew y1;have P3:=Four.on (w:=wr.drew) P2.drew y1;have Y3:=(belowD yr).trans (Below.mono (w:=wr.drew) y1 yr.size);have a0:=C3.c0;have a1:=C3.c1;have e0:=P3.c0;have e1:=P3.c1;have e2:=P3.c2;have e3:=P3.c3;have e4:=P3.f0;have e5:=P3.f1;have e6:=P3.f2;have e7:=P3.f3
    (try go_wp2_with fail)
    refine hK.out _ _ ?_ (fun hR5=>?_)
    ·first|trivial|((try dsimp only);go_keep)
    clear hK K hR4
    (try simp only[Act.put,List.setIfInBounds_toArray,List.set_cons_zero,List.set_cons_succ])
    refine kj7 (i:=11) (v:=?_) rfl (by kernel_rfl) (by kernel_rfl) (by kernel_rfl) (by kernel_rfl) (by rfl) (fun _ _ _ h=>h) (Or.inl ⟨by rfl,?_⟩) (by assumption) ?_
    rotate_left 1
    focus (intro wS hSw;(try dsimp only at hSw);go_simp;try with_reducible rfl)
    (try simp only[Act.put,List.setIfInBounds_toArray,List.set_cons_zero,List.set_cons_succ])
    refine kj7 (i:=15) (v:=?_) rfl (by kernel_rfl) (by kernel_rfl) (by kernel_rfl) (by kernel_rfl) (by rfl) (fun _ _ _ h=>h) (Or.inl ⟨by rfl,?_⟩) (by assumption) ?_
    rotate_left 1
    focus (intro wS hSw;(try dsimp only at hSw);go_simp;try with_reducible rfl)
    (try simp only[Act.put,List.setIfInBounds_toArray,List.set_cons_zero,List.set_cons_succ])
    refine kct7 (rs:=[16]) (by kernel_rfl) (by simp) ?_;refine(AllL.last rfl rfl (fun K hK=>?_) AllL.nil)
    go_simp
    refine hK.out _ _ ?_;clear hK K hR5
    (try simp only[Act.put,List.setIfInBounds_toArray,List.set_cons_zero,List.set_cons_succ])
    refine anyL_done (by kernel_rfl) ?_ _;refine NoPanic.normal ?_;have P4:=((((P3.set0 (.int .i64 a')).set1 (.int .i64 u')).set2 (.int .i64 (2*(v-o2)+(x:Int)))).set3 (.int .i64 ((s:Int)+1)))
    have C4:=((((C3.far (p:=⟨w.heap.size,0,none⟩) (by simp) (.int .i64 a')).far (p:=⟨w.heap.size,1,none⟩) (by simp) (.int .i64 u')).far (p:=⟨w.heap.size,2,none⟩) (by simp) (.int .i64 (2*(v-o2)+(x:Int)))).far (p:=⟨w.heap.size,3,none⟩) (by simp) (.int .i64 ((s:Int)+1)))
    have R4:=((((R3.far (p:=⟨w.heap.size,0,none⟩) (by simp) (.int .i64 a')).far (p:=⟨w.heap.size,1,none⟩) (by simp) (.int .i64 u')).far (p:=⟨w.heap.size,2,none⟩) (by simp) (.int .i64 (2*(v-o2)+(x:Int)))).far (p:=⟨w.heap.size,3,none⟩) (by simp) (.int .i64 ((s:Int)+1)))
    have Y4:=((((Y3.setCell (p:=⟨w.heap.size,0,none⟩) (by simp) (.int .i64 a')).setCell (p:=⟨w.heap.size,1,none⟩) (by simp) (.int .i64 u')).setCell (p:=⟨w.heap.size,2,none⟩) (by simp) (.int .i64 (2*(v-o2)+(x:Int)))).setCell (p:=⟨w.heap.size,3,none⟩) (by simp) (.int .i64 ((s:Int)+1)))
    have m0:=P4.c0;have m1:=P4.c1;clear q1 q2 q3 q4 e0 e1 e2 e3 e4 e5 e6 e7
    go_wp2_with fail
    go_roundw
    case rel=>exact⟨a',u',2*(v-o2)+(x:Int),s+1,g,rest',HL2.out,HD2.out,HF2.out,b1,b2,HV3.out,HT3.out,by omega,P4,C4,R4,Y4⟩
    case measure=>simp[m0,m1,MC0.out,MC1.out,intOf]<;>omega
theorem ar_open_ok{A:Option Addr}{n c:Nat}{l:List Nat}{w:World}(h:Rd w A n c (bcells (pack l)))(h01:Is01 l)(hl:l.length≤131072)(h2:2≤l.length)(V:Nat)(hV:V=num ((List.range 16).map fun i=>l.getD i 0)) :
  Calls Tryz.prog 109 #[.agg #[.slice A n c,.int .i64 l.length]] w fun e w'=>e=.returned (.tuple #[.agg #[.int .i64 0,.int .i64 65535,.int .i64 (V:Nat),.int .i64 16],.agg #[.int .i64 0,.int .i64 0]])∧Below w.heap.size w w':=by
 have HV:=Lib.hid (fun(W:World) (hW:Rd W A n c (bcells (pack l)))=>kai7 A n c l _ W hW (Nat.le_refl _) h01 hl);have k1:decide ((l.length:Int)<2)=false:=by simp;omega
 have k2:decide (l.length<2)=false:=by simp;omega
 have HOP:=Lib.hid (fun(W:World) (hW:Rd W A n c (bcells (pack l)))=>aropen_any hW h01 hl V hV);clear h01 h2 hV;have R_0:=(((h).alloc (.cells #[.slice A n c,.int .i64 l.length] 70)).alloc (.cells #[.int .i64 0,.int .i64 0,.int .i64 0,.int .i64 0] 161)).alloc (.cells #[.int .i64 0,.int .i64 0] 24);have B_0:=(((Two.new w 70 (.slice A n c) (.int .i64 l.length))).alloc (.cells #[.int .i64 0,.int .i64 0,.int .i64 0,.int .i64 0] 161)).alloc (.cells #[.int .i64 0,.int .i64 0] 24);have X_0:=((Four.new1 w (.cells #[.slice A n c,.int .i64 l.length] 70) 161 (.int .i64 0) (.int .i64 0) (.int .i64 0) (.int .i64 0))).alloc (.cells #[.int .i64 0,.int .i64 0] 24);have F_0:=(Two.new2 w (.cells #[.slice A n c,.int .i64 l.length] 70) (.cells #[.int .i64 0,.int .i64 0,.int .i64 0,.int .i64 0] 161) 24 (.int .i64 0) (.int .i64 0))
 have Z0:=(((Below.refl w.heap.size w).alloc (by simp) (.cells #[.slice A n c,.int .i64 l.length] 70)).alloc (by simp) (.cells #[.int .i64 0,.int .i64 0,.int .i64 0,.int .i64 0] 161)).alloc (by simp;omega) (.cells #[.int .i64 0,.int .i64 0] 24);have B_0_c0:=B_0.c0;have B_0_c1:=B_0.c1;have X_0_c0:=X_0.c0;have X_0_c1:=X_0.c1;have X_0_c2:=X_0.c2;have X_0_c3:=X_0.c3;have X_0_f0:=X_0.f0;have X_0_f1:=X_0.f1;have X_0_f2:=X_0.f2;have X_0_f3:=X_0.f3;have F_0_c0:=F_0.c0;have F_0_c1:=F_0.c1;have F_0_f0:=F_0.f0;have F_0_f1:=F_0.f1
 go_enter Tryz.func109,Tryz.ntmps109
 go_wp2_with fail
 refine(HV.out _ R_0).mono ?_;rintro e w1 ⟨rfl,y1⟩;have R_1:=R_0.on y1;have B_1:=B_0.on y1;have X_1:=X_0.on y1;have F_1:=F_0.on y1;clear R_0 B_0 B_0_c0 B_0_c1 X_0 X_0_c0 X_0_c1 X_0_c2 X_0_c3 X_0_f0 X_0_f1 X_0_f2 X_0_f3 F_0 F_0_c0 F_0_c1 F_0_f0 F_0_f1;have z1:=Z0.trans (y1.mono Z0.size);have Z1:=z1;have B_1_c0:=B_1.c0;have B_1_c1:=B_1.c1;have X_1_c0:=X_1.c0;have X_1_c1:=X_1.c1;have X_1_c2:=X_1.c2;have X_1_c3:=X_1.c3;have X_1_f0:=X_1.f0;have X_1_f1:=X_1.f1;have X_1_f2:=X_1.f2;have X_1_f3:=X_1.f3;have F_1_c0:=F_1.c0;have F_1_c1:=F_1.c1;have F_1_f0:=F_1.f0;have F_1_f1:=F_1.f1
 go_wp2_with fail
 refine(HOP.out _ R_1).mono ?_;rintro e w2 ⟨rfl,y2⟩;have R_2:=R_1.on y2;have B_2:=B_1.on y2;have X_2:=X_1.on y2;have F_2:=F_1.on y2;clear R_1 B_1 B_1_c0 B_1_c1 X_1 X_1_c0 X_1_c1 X_1_c2 X_1_c3 X_1_f0 X_1_f1 X_1_f2 X_1_f3 F_1 F_1_c0 F_1_c1 F_1_f0 F_1_f1;have z2:=Z1.trans (y2.mono Z1.size);have Z2:=z2;have B_2_c0:=B_2.c0;have B_2_c1:=B_2.c1;have X_2_c0:=X_2.c0;have X_2_c1:=X_2.c1;have X_2_c2:=X_2.c2;have X_2_c3:=X_2.c3;have X_2_f0:=X_2.f0;have X_2_f1:=X_2.f1;have X_2_f2:=X_2.f2;have X_2_f3:=X_2.f3;have F_2_c0:=F_2.c0;have F_2_c1:=F_2.c1;have F_2_f0:=F_2.f0;have F_2_f1:=F_2.f1
 go_wp2
 have rX:=(((((((X_2.set0 (.int .i64 0)).set1 (.int .i64 65535)).set2 (.int .i64 (V:Nat))).set3 (.int .i64 16)).far (p:=⟨w.heap.size+2,0,none⟩) (by simp) (.int .i64 0)).far (p:=⟨w.heap.size+2,1,none⟩) (by simp) (.int .i64 0)))
 have rX_0:=rX.c0;have rX_1:=rX.c1;have rX_2:=rX.c2;have rX_3:=rX.c3;have rF:=(((((((F_2.far (p:=⟨w.heap.size+1,0,none⟩) (by simp) (.int .i64 0)).far (p:=⟨w.heap.size+1,1,none⟩) (by simp) (.int .i64 65535)).far (p:=⟨w.heap.size+1,2,none⟩) (by simp) (.int .i64 (V:Nat))).far (p:=⟨w.heap.size+1,3,none⟩) (by simp) (.int .i64 16)).set0 (.int .i64 0)).set1 (.int .i64 0)))
 have rF_0:=rF.c0;have rF_1:=rF.c1;exact bodyPost_ret (v:=.tuple #[.agg #[.int .i64 0,.int .i64 65535,.int .i64 (V:Nat),.int .i64 16],.agg #[.int .i64 0,.int .i64 0]]) (by simp[results,Tryz.results109,go_sem,rX_0,rX_1,rX_2,rX_3,rF_0,rF_1]) rfl ⟨rfl,((((((Z2.setCell (p:=⟨w.heap.size+1,0,none⟩) (by simp) (.int .i64 0)).setCell (p:=⟨w.heap.size+1,1,none⟩) (by simp) (.int .i64 65535)).setCell (p:=⟨w.heap.size+1,2,none⟩) (by simp) (.int .i64 (V:Nat))).setCell (p:=⟨w.heap.size+1,3,none⟩) (by simp) (.int .i64 16)).setCell (p:=⟨w.heap.size+2,0,none⟩) (by simp) (.int .i64 0)).setCell (p:=⟨w.heap.size+2,1,none⟩) (by simp) (.int .i64 0))⟩
theorem get_ok{A:Option Addr}{n c:Nat}{l:List Nat}{lo hi V p:Int}{t:Nat}{w:World}(h:Rd w A n c (bcells (pack l)))(h01:Is01 l)(hl:l.length≤131072)(hok:DecOk lo hi V (t:Nat))(hp1:1≤p)(hp2:p≤4095)(b:Nat)(LO HI VV:Int)(TT:Nat)(hb:b=pickb ⟨lo,hi,V,t⟩ p)(hLO:LO=(stp lo hi b p).1)(hHI:HI=(stp lo hi b p).2.1)(hVV:VV=dv l (stp lo hi b p).2.2 V t)(hTT:TT=t+(stp lo hi b p).2.2.length)(hbig:TT≤l.length+14) :
  Calls Tryz.prog 111 #[.agg #[.int .i64 lo,.int .i64 hi,.int .i64 V,.int .i64 (t:Nat)],.agg #[.slice A n c,.int .i64 l.length],.int .i64 p] w fun e w'=>e=.returned (.tuple #[.int .i64 (b:Nat),.agg #[.int .i64 LO,.int .i64 HI,.int .i64 VV,.int .i64 (TT:Nat)],.agg #[.int .i64 0,.int .i64 0]])∧Below w.heap.size w w':=by
 obtain⟨hw,⟨h1,h2⟩,h3,h4⟩:=hok;have HW:=Lib.hid (fun(W:World)=>kip7 lo hi true (by simp[hw]) W);have k1:decide (V<lo)=false:=by simp;omega
 have k2:decide (hi<V)=false:=by simp;omega
 have k3:decide ((t:Int)<16)=false:=by simp;omega
 have k4:decide (131086<(t:Int))=false:=by simp;omega
 have HV:=Lib.hid (fun(W:World) (hW:Rd W A n c (bcells (pack l)))=>kai7 A n c l _ W hW (Nat.le_refl _) h01 hl);have HP:=Lib.hid (show decide (1≤p∧p≤4095)=true from decide_eq_true ⟨hp1,hp2⟩);have hTb:TT≤200000:=by rw[hTT];have:=(kah7 b hw hp1 hp2).2.1;omega
 have HDC:=Lib.hid (fun(W:World) (hW:Rd W A n c (bcells (pack l)))=>decode_any hW h01 hl hw h1 h2 (by omega) hp1 hp2 b LO HI VV TT hb hLO hHI hVV hTT);have k5:decide ((l.length:Int)+14<(TT:Int))=false:=by simp;omega
 clear hp1 hp2 hw h1 h2 h3 h4 h01 hb hLO hHI hVV hTT hbig;have R_0:=((((h).alloc (.cells #[.int .i64 lo,.int .i64 hi,.int .i64 V,.int .i64 (t:Nat)] 161)).alloc (.cells #[.slice A n c,.int .i64 l.length] 70)).alloc (.cells #[.int .i64 0,.int .i64 0,.int .i64 0,.int .i64 0] 161)).alloc (.cells #[.int .i64 0,.int .i64 0] 24);have D_0:=((((Four.new w 161 (.int .i64 lo) (.int .i64 hi) (.int .i64 V) (.int .i64 (t:Nat)))).alloc (.cells #[.slice A n c,.int .i64 l.length] 70)).alloc (.cells #[.int .i64 0,.int .i64 0,.int .i64 0,.int .i64 0] 161)).alloc (.cells #[.int .i64 0,.int .i64 0] 24);have B_0:=(((Two.new1 w (.cells #[.int .i64 lo,.int .i64 hi,.int .i64 V,.int .i64 (t:Nat)] 161) 70 (.slice A n c) (.int .i64 l.length))).alloc (.cells #[.int .i64 0,.int .i64 0,.int .i64 0,.int .i64 0] 161)).alloc (.cells #[.int .i64 0,.int .i64 0] 24);have X_0:=((Four.new2 w (.cells #[.int .i64 lo,.int .i64 hi,.int .i64 V,.int .i64 (t:Nat)] 161) (.cells #[.slice A n c,.int .i64 l.length] 70) 161 (.int .i64 0) (.int .i64 0) (.int .i64 0) (.int .i64 0))).alloc (.cells #[.int .i64 0,.int .i64 0] 24)
 have F_0:=(Two.new3 w (.cells #[.int .i64 lo,.int .i64 hi,.int .i64 V,.int .i64 (t:Nat)] 161) (.cells #[.slice A n c,.int .i64 l.length] 70) (.cells #[.int .i64 0,.int .i64 0,.int .i64 0,.int .i64 0] 161) 24 (.int .i64 0) (.int .i64 0))
 have Z0:=((((Below.refl w.heap.size w).alloc (by simp) (.cells #[.int .i64 lo,.int .i64 hi,.int .i64 V,.int .i64 (t:Nat)] 161)).alloc (by simp) (.cells #[.slice A n c,.int .i64 l.length] 70)).alloc (by simp;omega) (.cells #[.int .i64 0,.int .i64 0,.int .i64 0,.int .i64 0] 161)).alloc (by simp;omega) (.cells #[.int .i64 0,.int .i64 0] 24);have D_0_c0:=D_0.c0;have D_0_c1:=D_0.c1;have D_0_c2:=D_0.c2;have D_0_c3:=D_0.c3;have B_0_c0:=B_0.c0;have B_0_c1:=B_0.c1;have X_0_c0:=X_0.c0;have X_0_c1:=X_0.c1;have X_0_c2:=X_0.c2;have X_0_c3:=X_0.c3;have X_0_f0:=X_0.f0;have X_0_f1:=X_0.f1;have X_0_f2:=X_0.f2;have X_0_f3:=X_0.f3;have F_0_c0:=F_0.c0;have F_0_c1:=F_0.c1;have F_0_f0:=F_0.f0;have F_0_f1:=F_0.f1
 go_enter Tryz.func111,Tryz.ntmps111
 go_wp2_with fail
 refine(HW.out _).mono ?_;rintro e w9_1 ⟨rfl,rfl⟩
 go_wp2_with fail
 refine(HV.out _ R_0).mono ?_;rintro e w1 ⟨rfl,y1⟩;have R_1:=R_0.on y1;have D_1:=D_0.on y1;have B_1:=B_0.on y1;have X_1:=X_0.on y1;have F_1:=F_0.on y1;clear R_0 D_0 D_0_c0 D_0_c1 D_0_c2 D_0_c3 B_0 B_0_c0 B_0_c1 X_0 X_0_c0 X_0_c1 X_0_c2 X_0_c3 X_0_f0 X_0_f1 X_0_f2 X_0_f3 F_0 F_0_c0 F_0_c1 F_0_f0 F_0_f1;have z1:=Z0.trans (y1.mono Z0.size);have Z1:=z1;have D_1_c0:=D_1.c0;have D_1_c1:=D_1.c1;have D_1_c2:=D_1.c2;have D_1_c3:=D_1.c3;have B_1_c0:=B_1.c0;have B_1_c1:=B_1.c1;have X_1_c0:=X_1.c0;have X_1_c1:=X_1.c1;have X_1_c2:=X_1.c2;have X_1_c3:=X_1.c3;have X_1_f0:=X_1.f0;have X_1_f1:=X_1.f1;have X_1_f2:=X_1.f2;have X_1_f3:=X_1.f3;have F_1_c0:=F_1.c0;have F_1_c1:=F_1.c1;have F_1_f0:=F_1.f0;have F_1_f1:=F_1.f1
 go_wp2_with fail
 refine(kis7 _ HP.out _).mono ?_;rintro e w9_2 ⟨rfl,rfl⟩;have LT0:=F_1.lt
 go_wp2_with fail
 refine(HDC.out _ R_1).mono ?_;rintro e w2 ⟨rfl,y2⟩;have R_2:=(R_1.on y2).alloc (.cells #[.int .i64 LO,.int .i64 HI,.int .i64 VV,.int .i64 (TT:Nat)] 161);have D_2:=(D_1.on y2).alloc (.cells #[.int .i64 LO,.int .i64 HI,.int .i64 VV,.int .i64 (TT:Nat)] 161);have B_2:=(B_1.on y2).alloc (.cells #[.int .i64 LO,.int .i64 HI,.int .i64 VV,.int .i64 (TT:Nat)] 161);have X_2:=(X_1.on y2).alloc (.cells #[.int .i64 LO,.int .i64 HI,.int .i64 VV,.int .i64 (TT:Nat)] 161);have F_2:=(F_1.on y2).alloc (.cells #[.int .i64 LO,.int .i64 HI,.int .i64 VV,.int .i64 (TT:Nat)] 161);have N_2:=(Four.new w2 161 (.int .i64 LO) (.int .i64 HI) (.int .i64 VV) (.int .i64 (TT:Nat)))
 clear R_1 D_1 D_1_c0 D_1_c1 D_1_c2 D_1_c3 B_1 B_1_c0 B_1_c1 X_1 X_1_c0 X_1_c1 X_1_c2 X_1_c3 X_1_f0 X_1_f1 X_1_f2 X_1_f3 F_1 F_1_c0 F_1_c1 F_1_f0 F_1_f1;have z2:=Z1.trans (y2.mono Z1.size);have Z2:=(z2).alloc (by have:=z2.size;omega) (.cells #[.int .i64 LO,.int .i64 HI,.int .i64 VV,.int .i64 (TT:Nat)] 161);have D_2_c0:=D_2.c0;have D_2_c1:=D_2.c1;have D_2_c2:=D_2.c2;have D_2_c3:=D_2.c3;have B_2_c0:=B_2.c0;have B_2_c1:=B_2.c1;have X_2_c0:=X_2.c0;have X_2_c1:=X_2.c1;have X_2_c2:=X_2.c2;have X_2_c3:=X_2.c3;have X_2_f0:=X_2.f0;have X_2_f1:=X_2.f1;have X_2_f2:=X_2.f2;have X_2_f3:=X_2.f3;have F_2_c0:=F_2.c0;have F_2_c1:=F_2.c1;have F_2_f0:=F_2.f0;have F_2_f1:=F_2.f1;have N_2_c0:=N_2.c0;have N_2_c1:=N_2.c1;have N_2_c2:=N_2.c2;have N_2_c3:=N_2.c3;have ap0:w.heap.size+3<w2.heap.size:=by have:=LT0;have:=y2.size;(try simp at *);omega
 have ap0_0:w2.heap.size≠w.heap.size:=by omega
 have ap0_0r:w.heap.size≠w2.heap.size:=by omega
 have ap0_1:w2.heap.size≠w.heap.size+1:=by omega
 have ap0_1r:w.heap.size+1≠w2.heap.size:=by omega
 have ap0_2:w2.heap.size≠w.heap.size+1+1:=by omega
 have ap0_2r:w.heap.size+1+1≠w2.heap.size:=by omega
 have ap0_3:w2.heap.size≠w.heap.size+1+1+1:=by omega
 have ap0_3r:w.heap.size+1+1+1≠w2.heap.size:=by omega
 go_wp2_with fail
 go_region
 go_wp2
 have rX:=(((((((X_2.set0 (.int .i64 LO)).set1 (.int .i64 HI)).set2 (.int .i64 VV)).set3 (.int .i64 (TT:Nat))).far (p:=⟨w.heap.size+3,0,none⟩) (by simp) (.int .i64 0)).far (p:=⟨w.heap.size+3,1,none⟩) (by simp) (.int .i64 0))).drew;have rX_0:=rX.c0;have rX_1:=rX.c1;have rX_2:=rX.c2;have rX_3:=rX.c3;have rF:=(((((((F_2.far (p:=⟨w.heap.size+2,0,none⟩) (by simp) (.int .i64 LO)).far (p:=⟨w.heap.size+2,1,none⟩) (by simp) (.int .i64 HI)).far (p:=⟨w.heap.size+2,2,none⟩) (by simp) (.int .i64 VV)).far (p:=⟨w.heap.size+2,3,none⟩) (by simp) (.int .i64 (TT:Nat))).set0 (.int .i64 0)).set1 (.int .i64 0))).drew;have rF_0:=rF.c0;have rF_1:=rF.c1;exact bodyPost_ret (v:=.tuple #[.int .i64 (b:Nat),.agg #[.int .i64 LO,.int .i64 HI,.int .i64 VV,.int .i64 (TT:Nat)],.agg #[.int .i64 0,.int .i64 0]]) (by simp[results,Tryz.results111,go_sem,rX_0,rX_1,rX_2,rX_3,rF_0,rF_1]) rfl ⟨rfl,(belowD ((((((Z2.setCell (p:=⟨w.heap.size+2,0,none⟩) (by simp) (.int .i64 LO)).setCell (p:=⟨w.heap.size+2,1,none⟩) (by simp) (.int .i64 HI)).setCell (p:=⟨w.heap.size+2,2,none⟩) (by simp) (.int .i64 VV)).setCell (p:=⟨w.heap.size+2,3,none⟩) (by simp) (.int .i64 (TT:Nat))).setCell (p:=⟨w.heap.size+3,0,none⟩) (by simp) (.int .i64 0)).setCell (p:=⟨w.heap.size+3,1,none⟩) (by simp) (.int .i64 0)))⟩
def zpad(N:Nat)(l:List Nat):List Nat:=(List.range N).map (pbyte l)
theorem kcu7(N:Nat)(l:List Nat):(zpad N l).length=N:=by simp[zpad]
theorem kfw7(N:Nat)(l:List Nat)(k:Nat)(h:k<N):(zpad N l).getD k 0=pbyte l k:=kcx7 _ _ _ h
theorem kiz7(l:List Nat)(b k:Nat)(h:k≠l.length / 8):pbyte (l++[b]) k=pbyte l k:=by
 have e:∀ r,r<8→(l++[b]).getD (8*k+r) 0=l.getD (8*k+r) 0:=by
  intro r hr;rcases Nat.lt_or_ge (8*k+r) l.length with h1|h1
  ·rw[kc7 h1]
  ·rw[kaa7 h1,kaa7 (by simp;omega)]
 unfold pbyte;have e0:=e 0 (by decide);rw[Nat.add_zero] at e0;rw[e0,e 1 (by decide),e 2 (by decide),e 3 (by decide),e 4 (by decide),e 5 (by decide),e 6 (by decide),e 7 (by decide)]
theorem pbyte_snoc_at(l:List Nat)(b:Nat):pbyte (l++[b]) (l.length / 8)=pbyte l (l.length / 8)+b*2 ^ (7-l.length % 8):=by
 rw[←kw7 (l++[b])];by_cases h:l.length % 8=0
 ·rw[kgo7 l b h,kr7 (by rw[kd7];omega),kd7,pbyte_ge l _ (by omega),show l.length / 8-(l.length+7) / 8=0 by omega,h];simp
 ·rw[kgp7 b h,getD_set _ _ _ _ (by rw[kd7];omega),if_pos rfl,kw7]
theorem zpad_snoc(N:Nat)(l:List Nat)(b:Nat)(h:l.length<8*N):zpad N (l++[b])=(zpad N l).set (l.length / 8) ((zpad N l).getD (l.length / 8) 0+b*2 ^ (7-l.length % 8)):=by
 refine kic7 (by simp[zpad]) fun k hk=>?_;rw[kcu7] at hk;rw[getD_set _ _ _ _ (by rw[kcu7];omega),kfw7 _ _ _ hk,kfw7 _ _ _ (by omega)];by_cases hkk:k=l.length / 8
 ·rw[if_pos hkk,hkk,pbyte_snoc_at]
 ·rw[if_neg hkk,kfw7 _ _ _ hk,kiz7 _ _ _ hkk]
theorem zpad_full{l:List Nat}{N:Nat}(h:l.length=8*N):zpad N l=pack l:=by
 unfold zpad pack;rw[show(l.length+7) / 8=N by omega]
theorem zpad_low(N:Nat){l:List Nat}(h01:Is01 l)(k:Nat)(hk:k=l.length / 8)(h:k<N)(b:Nat)(hb:b<2):bits .or .u8 (((zpad N l).getD k 0:Nat):Int) (wrap64 ((b:Int)*2 ^ (7-l.length % 8)) % 256)=(((zpad N l).getD k 0+b*2 ^ (7-l.length % 8):Nat):Int):=by
 by_cases h8:l.length % 8=0
 ·rw[kfw7 _ _ _ h,hk,pbyte_ge l _ (by omega),h8];rcases(by omega:b=0∨b=1) with rfl|rfl<;>decide +kernel
 ·exact put_value h01 b hb h8 _ (by rw[kfw7 _ _ _ h,hk,kw7])
theorem Rd.blk{w:World}{g:Nat}{t:TypeId}{l:List Nat}(h:Blk w g t (bcells l).toArray)(k:Nat)(hk:l.length=k)(hm:k≤1000000000):Rd w (some ⟨g,0,none⟩) k k (bcells l):=by
 refine⟨by rw[ka7];exact hk,Nat.le_refl _,by unfold maxLen;omega,fun _=>⟨g,0,rfl,Blk.lt h,fun j x hx=>?_⟩⟩;rw[Nat.zero_add,Blk.cell h j,List.getElem?_toArray];exact hx
structure SV(B gd gc go_ gb gi gr gw:Nat)(w0:World)(N cc:Nat)(X bl:List Nat)(iv lo hi V:Int)(t:Nat)(w:World):Prop where
 db:Four w gd 161 (.int .i64 lo) (.int .i64 hi) (.int .i64 V) (.int .i64 (t:Nat))
 cb:Two w gc 70 (.slice (some ⟨gr,0,none⟩) cc cc) (.int .i64 (X.length:Nat))
 kb:One w go_ 4 (.bool true)
 bb:One w gb 22 (.slice (some ⟨gw,0,none⟩) N N)
 ib:One w gi 3 (.int .i64 iv)
 rr:Blk w gr 5 (bcells (pack X)).toArray
 rw_:Blk w gw 5 (bcells bl).toArray
 nrw:gr≠gw
 bel:Below B w0 w
 ge:B≤gd∧B≤gc∧B≤go_∧B≤gb∧B≤gi∧B≤gr∧B≤gw
section
variable {B gd gc go_ gb gi gr gw:Nat}{w0 w w':World}{N cc:Nat}{X bl:List Nat}{iv lo hi V:Int}{t:Nat}
theorem SV.on(h:SV B gd gc go_ gb gi gr gw w0 N cc X bl iv lo hi V t w)(hw:Below w.heap.size w w'):SV B gd gc go_ gb gi gr gw w0 N cc X bl iv lo hi V t w':=by
 have hB:B≤w.heap.size:=Nat.le_trans h.ge.1 (Nat.le_of_lt (Blk.lt h.db));exact⟨h.db.on hw,h.cb.on hw,h.kb.on hw,h.bb.on hw,h.ib.on hw,h.rr.on hw,h.rw_.on hw,h.nrw,h.bel.trans (hw.mono hB),h.ge⟩
theorem SV.alloc(h:SV B gd gc go_ gb gi gr gw w0 N cc X bl iv lo hi V t w)(o:Obj):SV B gd gc go_ gb gi gr gw w0 N cc X bl iv lo hi V t (w.alloc o):=h.on ((Below.refl _ _).alloc (Nat.le_refl _) o)
theorem SV.but2(h:SV B gd gc go_ gb gi gr gw w0 N cc X bl iv lo hi V t w){s b:Nat}(hw:But2 s b w w')(hs:B≤s)(hb2:B≤b)
  (hs1:∃ t cs,Blk w s t cs∧t≠161∧t≠5∧t≠22∧t≠3∧t≠70∧t≠4) (hb1:(∃ es clock,w.heap[b]?=some (Obj.map es clock))∨b=s):SV B gd gc go_ gb gi gr gw w0 N cc X bl iv lo hi V t w':=by
 obtain⟨t,cs,hsb,t1,t2,t3,t4,t5,t6⟩:=hs1;have hB:B≤w.heap.size:=Nat.le_trans h.ge.1 (Nat.le_of_lt (Blk.lt h.db));have hbl:Below B w w':=hw.below hs hb2 hB;have nb:∀ (g:Nat) (u:TypeId) (vs:Array Value),Blk w g u vs→u≠t→g≠s∧g≠b:=by
  intro g u vs hg hu;have k1:=Blk.ne_ hg hsb hu;refine⟨k1,?_⟩;rcases hb1 with⟨es,clock,hm⟩|rfl
  ·rintro rfl;unfold Blk at hg;rw[hg] at hm;cases hm
  ·exact k1
 have k1:=nb _ _ _ h.db (Ne.symm t1);have k2:=nb _ _ _ h.cb (Ne.symm t5);have k3:=nb _ _ _ h.kb (Ne.symm t6);have k4:=nb _ _ _ h.bb (Ne.symm t3);have k5:=nb _ _ _ h.ib (Ne.symm t4);have k6:=nb _ _ _ h.rr (Ne.symm t2);have k7:=nb _ _ _ h.rw_ (Ne.symm t2);exact⟨Blk.but2 h.db hw k1.1 k1.2,Blk.but2 h.cb hw k2.1 k2.2,Blk.but2 h.kb hw k3.1 k3.2,Blk.but2 h.bb hw k4.1 k4.2,Blk.but2 h.ib hw k5.1 k5.2,Blk.but2 h.rr hw k6.1 k6.2,Blk.but2 h.rw_ hw k7.1 k7.2,h.nrw,h.bel.trans hbl,h.ge⟩
theorem SV.setI(h:SV B gd gc go_ gb gi gr gw w0 N cc X bl iv lo hi V t w)(v:Int):SV B gd gc go_ gb gi gr gw w0 N cc X bl v lo hi V t (w.setCell ⟨gi,0,none⟩ (.int .i64 v)):=by
 have hb:=(Below.refl B w).setCell (p:=⟨gi,0,none⟩) h.ge.2.2.2.2.1 (.int .i64 v);have n1:=Blk.ne_ h.cb h.ib (by decide);have n2:=Blk.ne_ h.kb h.ib (by decide);have n3:=Blk.ne_ h.bb h.ib (by decide);have n4:=Blk.ne_ h.db h.ib (by decide);have n5:=Blk.ne_ h.rr h.ib (by decide);have n6:=Blk.ne_ h.rw_ h.ib (by decide);exact⟨Four.far h.db n4 _,Two.far h.cb n1 _,One.far h.kb n2 _,One.far h.bb n3 _,h.ib.set0 _,Blk.far h.rr n5 _,Blk.far h.rw_ n6 _,h.nrw,h.bel.trans hb,h.ge⟩
theorem SV.setD(h:SV B gd gc go_ gb gi gr gw w0 N cc X bl iv lo hi V t w)(lo' hi' V':Int)(t':Nat) :
  SV B gd gc go_ gb gi gr gw w0 N cc X bl iv lo' hi' V' t' ((((w.setCell ⟨gd,0,none⟩ (.int .i64 lo')).setCell ⟨gd,1,none⟩ (.int .i64 hi')).setCell ⟨gd,2,none⟩ (.int .i64 V')).setCell ⟨gd,3,none⟩ (.int .i64 (t':Nat))):=by
 have hb:=((((Below.refl B w).setCell (p:=⟨gd,0,none⟩) h.ge.1 (.int .i64 lo')).setCell (p:=⟨gd,1,none⟩) h.ge.1 (.int .i64 hi')).setCell (p:=⟨gd,2,none⟩) h.ge.1 (.int .i64 V')).setCell (p:=⟨gd,3,none⟩) h.ge.1 (.int .i64 (t':Nat));have n1:=Blk.ne_ h.cb h.db (by decide);have n2:=Blk.ne_ h.kb h.db (by decide);have n3:=Blk.ne_ h.bb h.db (by decide);have n4:=Blk.ne_ h.ib h.db (by decide);have n5:=Blk.ne_ h.rr h.db (by decide);have n6:=Blk.ne_ h.rw_ h.db (by decide);exact⟨(((h.db.set0 _).set1 _).set2 _).set3 _,Two.far (Two.far (Two.far (Two.far h.cb n1 _) n1 _) n1 _) n1 _,One.far (One.far (One.far (One.far h.kb n2 _) n2 _) n2 _) n2 _,One.far (One.far (One.far (One.far h.bb n3 _) n3 _) n3 _) n3 _,
  One.far (One.far (One.far (One.far h.ib n4 _) n4 _) n4 _) n4 _,Blk.far (Blk.far (Blk.far (Blk.far h.rr n5 _) n5 _) n5 _) n5 _,Blk.far (Blk.far (Blk.far (Blk.far h.rw_ n6 _) n6 _) n6 _) n6 _,h.nrw,h.bel.trans hb,h.ge⟩
theorem SV.setW(h:SV B gd gc go_ gb gi gr gw w0 N cc X bl iv lo hi V t w)(k v:Nat):SV B gd gc go_ gb gi gr gw w0 N cc X (bl.set k v) iv lo hi V t (w.setCell ⟨gw,k,none⟩ (.int .u8 (v:Nat))):=by
 have hb:=(Below.refl B w).setCell (p:=⟨gw,k,none⟩) h.ge.2.2.2.2.2.2 (.int .u8 (v:Nat));have hw:=Blk.set_ h.rw_ k (.int .u8 (v:Nat));rw[List.setIfInBounds_toArray,←kid7] at hw;have n1:=Blk.ne_ h.cb h.rw_ (by decide);have n2:=Blk.ne_ h.kb h.rw_ (by decide);have n3:=Blk.ne_ h.bb h.rw_ (by decide);have n4:=Blk.ne_ h.ib h.rw_ (by decide);have n5:=Blk.ne_ h.db h.rw_ (by decide);exact⟨Four.far h.db n5 _,Two.far h.cb n1 _,One.far h.kb n2 _,One.far h.bb n3 _,One.far h.ib n4 _,Blk.far h.rr h.nrw _,hw,h.nrw,h.bel.trans hb,h.ge⟩
end
def dst(X l:List Nat):DS:=drun X ((mch l).map Cho.p) (dinit X)
theorem dst_snoc(X l:List Nat)(b:Nat):dst X (l++[b])=dstep X (dst X l) ((predv l l.length 1:Nat):Int):=by
 unfold dst;rw[kix7,List.map_append,List.map_singleton,drun_snoc]
theorem mch_p(l:List Nat):AllP ((mch l).map Cho.p):=by
 intro p hp;obtain⟨c,hc,rfl⟩:=List.mem_map.1 hp;unfold mch at hc;obtain⟨i,_,rfl⟩:=List.mem_map.1 hc;have:=kiu7 l i 1;dsimp only;omega
theorem dst_ok{X l:List Nat}(h01:Is01 X):DOk (dst X l)∧(dst X l).at_≤16+14*l.length∧16≤(dst X l).at_:=by
 have h0:DOk (dinit X):=dinit_ok h01;refine⟨drun_ok h01 _ (mch_p l) _ h0,?_,drun_at_le X _ (dinit X)⟩;have:=drun_at_bound h01 _ (mch_p l) (dinit X) h0;rw[List.length_map,kds7] at this;exact this
structure SD(B gd gc go_ gb gi gr gw:Nat)(w0:World)(N cc:Nat)(X l:List Nat)(w:World):Prop where
 sv:SV B gd gc go_ gb gi gr gw w0 N cc X (zpad N l) (l.length:Nat) (dst X l).lo (dst X l).hi (dst X l).V (dst X l).at_ w
 pre:l=dbits X ((mch l).map Cho.p) (dinit X)
 len:l.length≤8*N
theorem clo_dec{B gd gc go_ gb gi gr gw:Nat}{w0:World}{N cc:Nat}{X l:List Nat}{w:World}(h:SD B gd gc go_ gb gi gr gw w0 N cc X l w)(h01:Is01 l)(hl:l.length<8*N)(hN:N≤1024)(hX:Is01 X)(hXl:X.length≤131072)(hX2:112*N+16≤X.length)(hcc:cc=(X.length+7) / 8)(pi:Int)(hpi:pi=(predv l l.length 1:Nat)) :
  Calls Tryz.prog 110 #[.int .i64 pi,.pointer (some ⟨gd,0,none⟩),.pointer (some ⟨gc,0,none⟩),.pointer (some ⟨go_,0,none⟩),.pointer (some ⟨gb,0,none⟩),.pointer (some ⟨gi,0,none⟩)] w fun e w'=>∃ b:Nat,b<2∧e=.returned (.int .i64 (b:Nat))∧Keep w w'∧SD B gd gc go_ gb gi gr gw w0 N cc X (l++[b]) w':=by
 obtain⟨m,hm⟩:∃ m,m=l.length:=⟨_,rfl⟩
 rw[←hm] at hl hpi;obtain⟨p,hp⟩:∃ p,p=predv l m 1:=⟨_,rfl⟩
 rw[←hp] at hpi;have hpr:=kiu7 l m 1;rw[←hp] at hpr;subst hpi;have H:=Lib.hid h;obtain⟨S,hS⟩:∃ S,S=dst X l:=⟨_,rfl⟩
 have hok:=dst_ok (l:=l) hX;rw[←hS,←hm] at hok;have S0:=h.sv;rw[←hS,←hm] at S0;have HM:=Lib.hid hm;have HP:=Lib.hid hp;have H01:=Lib.hid h01;have HS:=Lib.hid hS;clear h hm hp h01 hS;obtain⟨lo,hi,V,t⟩:=S;obtain⟨⟨hw1,hw2⟩,hat1,hat2⟩:=hok;dsimp only at S0 hw1 hw2 hat1 hat2;obtain⟨b,hb⟩:∃ b,b=pickb ⟨lo,hi,V,t⟩ ((p:Nat):Int):=⟨_,rfl⟩
 have hb2:b<2:=by rw[hb];unfold pickb;split<;>omega
 obtain⟨LO,hLO⟩:∃ LO,LO=(stp lo hi b (p:Nat)).1:=⟨_,rfl⟩
 obtain⟨HI,hHI⟩:∃ HI,HI=(stp lo hi b (p:Nat)).2.1:=⟨_,rfl⟩
 obtain⟨VV,hVV⟩:∃ VV,VV=dv X (stp lo hi b (p:Nat)).2.2 V t:=⟨_,rfl⟩
 obtain⟨TT,hTT⟩:∃ TT,TT=t+(stp lo hi b (p:Nat)).2.2.length:=⟨_,rfl⟩
 have hst:=kah7 b hw1 (p:=(p:Nat)) (by omega) (by omega);have hlen:=hst.2.1;have HGET:=Lib.hid (fun(W:World) (hR:Rd W (some ⟨gr,0,none⟩) cc cc (bcells (pack X)))=>get_ok (lo:=lo) (hi:=hi) (p:=(p:Nat)) (V:=V) (t:=t) hR hX hXl ⟨hw1,hw2,by omega,by omega⟩ (by omega) (by omega) b LO HI VV TT hb hLO hHI hVV hTT (by omega));have HW:=Lib.hid (And.intro hw1 hw2);have HB:=Lib.hid hb;have HLO:=Lib.hid hLO;have HHI:=Lib.hid hHI;have HVV:=Lib.hid hVV;have HTT:=Lib.hid hTT;clear hst hlen hb hLO hHI hVV hTT hw1 hw2;have d0:=S0.db.c0;have d1:=S0.db.c1;have d2:=S0.db.c2;have d3:=S0.db.c3;have c0:=S0.cb.c0;have c1:=S0.cb.c1;have S0H:=Lib.hid S0;have R0:=Lib.hid (Rd.blk S0.rr cc (by rw[kd7,hcc]) (by omega));have HL0:=Lib.hid hl;have HN0:=Lib.hid hN;clear S0 hX2 hcc hXl hat1 hat2 hX hpr hl hN
 go_enter Tryz.func110,Tryz.ntmps110
 go_upto_region 1 with(fail)
 go_wp2_with fail
 refine(HGET.out _ R0.out).mono ?_;rintro e w1 ⟨rfl,y1⟩;have K1:=Lib.hid (Keep.of_below ((y1.alloc y1.size (.cells #[.int .i64 LO,.int .i64 HI,.int .i64 VV,.int .i64 (TT:Nat)] 161)).alloc (by have:=y1.size;simp;omega) (.cells #[.int .i64 0,.int .i64 0] 24)));have S1:=Lib.hid (((S0H.out.on y1).alloc (.cells #[.int .i64 LO,.int .i64 HI,.int .i64 VV,.int .i64 (TT:Nat)] 161)).alloc (.cells #[.int .i64 0,.int .i64 0] 24));have N1:=(Four.new w1 161 (.int .i64 LO) (.int .i64 HI) (.int .i64 VV) (.int .i64 (TT:Nat))).alloc (.cells #[.int .i64 0,.int .i64 0] 24);have F1:=Two.new1 w1 (.cells #[.int .i64 LO,.int .i64 HI,.int .i64 VV,.int .i64 (TT:Nat)] 161) 24 (.int .i64 0) (.int .i64 0);clear d0 d1 d2 d3 c0 c1 S0H R0 y1
 go_upto_region 2 with(fail)
 generalize (w1.alloc (.cells #[.int .i64 LO,.int .i64 HI,.int .i64 VV,.int .i64 (TT:Nat)] 161)).alloc (.cells #[.int .i64 0,.int .i64 0] 24)=w2 at K1 S1 N1 F1 ⊢;have n0:=N1.c0;have n1:=N1.c1;have n2:=N1.c2;have n3:=N1.c3;have e0:=F1.c0;have e1:=F1.c1;have f0:=S1.out.db.f0;have f1:=S1.out.db.f1;have f2:=S1.out.db.f2;have f3:=S1.out.db.f3;have g0:=S1.out.db.c0;have g1:=S1.out.db.c1;have g2:=S1.out.db.c2;have g3:=S1.out.db.c3
 go_upto_region 6 with(fail)
 have S2:=Lib.hid (S1.out.setD LO HI VV TT);have K2:=Lib.hid ((((K1.out.trans (kco7 S1.out.db (by decide) (by decide) 0 (.int .i64 LO))).trans (kco7 (S1.out.db.set0 (.int .i64 LO)) (by decide) (by decide) 1 (.int .i64 HI))).trans (kco7 ((S1.out.db.set0 (.int .i64 LO)).set1 (.int .i64 HI)) (by decide) (by decide) 2 (.int .i64 VV))).trans (kco7 (((S1.out.db.set0 (.int .i64 LO)).set1 (.int .i64 HI)).set2 (.int .i64 VV)) (by decide) (by decide) 3 (.int .i64 (TT:Nat))));clear n0 n1 n2 n3 e0 e1 f0 f1 f2 f3 g0 g1 g2 g3 S1 K1 N1 F1;generalize (((w2.setCell ⟨gd,0,none⟩ (.int .i64 LO)).setCell ⟨gd,1,none⟩ (.int .i64 HI)).setCell ⟨gd,2,none⟩ (.int .i64 VV)).setCell ⟨gd,3,none⟩ (.int .i64 (TT:Nat))=w3 at S2 K2 ⊢;have hb0:=S2.out.bb.c0;have hi0:=S2.out.ib.c0;have hl:=HL0.out;have hN:=HN0.out;obtain⟨x,hx⟩:∃ x,x=(zpad N l).getD (m / 8) 0:=⟨_,rfl⟩
 have hw0:w3.cell? ⟨gw,m / 8,none⟩=some (.int .u8 (x:Nat)):=by
  rw[Blk.cell S2.out.rw_,List.getElem?_toArray];unfold bcells;rw[List.getElem?_map,List.getElem?_eq_getElem (by rw[kcu7];omega),hx,kaf7 (by rw[kcu7];omega)];rfl
 have hwf:w3.frozen? ⟨gw,m / 8,none⟩=false:=Blk.frozen S2.out.rw_ (m / 8);have HV:=Lib.hid (zpad_low N H01.out (m / 8) (by rw[HM.out]) (by omega) b hb2);rw[←hx,←HM.out] at HV;have HX:=Lib.hid hx;clear hx
 go_region
 rw[HV.out];have hbd:Below (w3.setCell ⟨gw,m / 8,none⟩ (.int .u8 ((x+b*2 ^ (7-m % 8):Nat):Int))).heap.size (w3.setCell ⟨gw,m / 8,none⟩ (.int .u8 ((x+b*2 ^ (7-m % 8):Nat):Int))) (w3.setCell ⟨gw,m / 8,none⟩ (.int .u8 ((x+b*2 ^ (7-m % 8):Nat):Int))).drew:=⟨rfl,rfl,rfl,Nat.le_refl _,fun _ _=>rfl⟩
 have S3:=Lib.hid ((S2.out.setW (m / 8) (x+b*2 ^ (7-m % 8))).on hbd);have K3:=Lib.hid ((K2.out.trans (kco7 S2.out.rw_ (by decide) (by decide) (m / 8) (.int .u8 ((x+b*2 ^ (7-m % 8):Nat):Int)))).trans (Keep.of_below hbd));clear hb0 hi0 hw0 hwf S2 K2 HV hbd;generalize (w3.setCell ⟨gw,m / 8,none⟩ (.int .u8 ((x+b*2 ^ (7-m % 8):Nat):Int))).drew=w4 at S3 K3 ⊢;have hi0:=S3.out.ib.c0;have hif:=S3.out.ib.f0;have S4:=Lib.hid (S3.out.setI ((m:Int)+1));have K4:=Lib.hid (K3.out.trans (kco7 S3.out.ib (by decide) (by decide) 0 (.int .i64 ((m:Int)+1))));clear S3 K3
 go_wp2
 go_ret
 have em:(l++[b]).length=m+1:=by rw[List.length_append,List.length_singleton,HM.out]
 have eb:pickb (dst X l) ((predv l l.length 1:Nat):Int)=b:=by rw[←HS.out,←HM.out,←HP.out];exact HB.out.symm
 have ed:dst X (l++[b])=⟨LO,HI,VV,TT⟩:=by
  rw[dst_snoc];unfold dstep dks;rw[eb,←HS.out,←HM.out,←HP.out];dsimp only;rw[←HLO.out,←HHI.out,←HVV.out,←HTT.out]
 refine⟨b,hb2,rfl,K4.out,⟨?_,?_,?_⟩⟩
 ·rw[ed,em,zpad_snoc N l b (by rw[←HM.out];exact hl),←HM.out,←HX.out];exact S4.out
 ·rw[kix7,List.map_append,List.map_singleton,dbits_snoc,←H.out.pre];show _=l++[pickb (dst X l) _];rw[eb]
 ·rw[em];omega
section
variable {B gd gc go_ gb gi gr gw:Nat}{w0 w w':World}{N cc:Nat}{X l:List Nat}
theorem SD.on(h:SD B gd gc go_ gb gi gr gw w0 N cc X l w)(hw:Below w.heap.size w w'):SD B gd gc go_ gb gi gr gw w0 N cc X l w':=⟨h.sv.on hw,h.pre,h.len⟩
theorem SD.but2(h:SD B gd gc go_ gb gi gr gw w0 N cc X l w){s b:Nat}(hw:But2 s b w w')(hs:B≤s)(hb2:B≤b)
 (hs1:∃ t cs,Blk w s t cs∧t≠161∧t≠5∧t≠22∧t≠3∧t≠70∧t≠4) (hb1:(∃ es clock,w.heap[b]?=some (Obj.map es clock))∨b=s):SD B gd gc go_ gb gi gr gw w0 N cc X l w':=⟨h.sv.but2 hw hs hb2 hs1 hb1,h.pre,h.len⟩
end
theorem walk_dec{B gd gc go_ gb gi gr gw:Nat}{w0 w:World}{N cc:Nat}{X:List Nat}(h:SD B gd gc go_ gb gi gr gw w0 N cc X [] w)(hN:N≤1024)(hX:Is01 X)(hXl:X.length≤131072)(hX2:112*N+16≤X.length)(hcc:cc=(X.length+7) / 8)(si:Int)(hsi:si=((8*N:Nat):Int))(hB:B≤w.heap.size) :
  Calls Tryz.prog 102 #[.int .i64 1,.int .i64 si,.func (.func 110) #[] #[.pointer (some ⟨gd,0,none⟩),.pointer (some ⟨gc,0,none⟩),.pointer (some ⟨go_,0,none⟩),.pointer (some ⟨gb,0,none⟩),.pointer (some ⟨gi,0,none⟩)]] w fun e w' =>
   e=.returned (.agg #[.int .i64 0,.int .i64 0])∧∃ l,l.length=8*N∧Is01 l∧SD B gd gc go_ gb gi gr gw w0 N cc X l w':=by
 refine(walk_any w w.heap.size rfl (ord:=1) (steps:=8*N) (by decide) (by omega) 110 _ Tryz.func110 (by decide +kernel) (by rw[Option.eq_none_iff_forall_ne_some];intro hh;exact hh _ rfl) #[.pointer (some ⟨gd,0,none⟩),.pointer (some ⟨gc,0,none⟩),.pointer (some ⟨go_,0,none⟩),.pointer (some ⟨gb,0,none⟩),.pointer (some ⟨gi,0,none⟩)]
  (fun l w'=>SD B gd gc go_ gb gi gr gw w0 N cc X l w') (fun _ _=>False) ?_ ?_ ?_ ?_ h si hsi 1 rfl).mono ?_
 ·intro l w' h01 hl hI;refine(clo_dec hI h01 hl hN hX hXl hX2 hcc _ rfl).mono ?_;rintro e w2 ⟨b,hb,rfl,hk,hI2⟩;exact⟨_,rfl,hk,.inl ⟨by omega,by simpa using hI2⟩⟩
 ·intro l w1 w2 hI hb;exact hI.on hb
 ·intro l w1 w2 s cs hs hsz hb;exact⟨fun hI=>hI.but2 hb (by omega) (by omega) ⟨_,_,hs,by decide,by decide,by decide,by decide,by decide,by decide⟩ (.inr rfl),fun x=>x⟩
 ·intro l w1 w2 s b cs es clock hI hs hmp hs0 hb0 hb;exact hI.but2 hb (by omega) (by omega) ⟨_,_,hs,by decide,by decide,by decide,by decide,by decide,by decide⟩ (.inl ⟨es,clock,hmp⟩)
 ·rintro e w' ⟨l,h01,⟨hl,rfl,hI⟩|⟨_,_,hf⟩⟩
  ·exact⟨rfl,l,hl,h01,hI⟩
  ·exact hf.elim
theorem own_full{w:World}{base:Nat}{e:TypeId}{g n:Nat}{xs:List Value}(h:w.ownsRow base e 1 (.slice (some ⟨g,0,none⟩) n n) n xs):Blk w g e xs.toArray:=by
 obtain⟨h1,h2⟩:=h;rcases h2 with⟨h,_⟩|⟨g',cap,cur,hv,_,hh,_,_,hs,ht⟩
 ·cases h
 ·cases hv;rw[Nat.mul_one] at hs ht;rw[List.take_of_length_le (by simp[hs])] at ht;show w.heap[g]?=_;rw[hh,←ht]
theorem kja7{P:Program}{w:World}{ops:Array Oper}{rest:List Oper}{o:Oper}{a:Act}{Q:Exit→Act→World→Prop}(hgd:o.guard=none)(d s:Operand)(dT sT:TypeId)
  (ho:o.op=.call { callee:=.builtin .copy,args:=#[d,s],argTypes:=#[dT,sT] }) (elem:TypeId) (hu:P.underlying dT=some (.slice elem)) (hsz:(P.info? elem).map (·.size)=some 1)
  (g:Nat) (sp:Option Addr) (n k sc:Nat) (hd:a.eval d=.slice (some ⟨g,0,none⟩) n n) (hs:a.eval s=.slice sp k sc)
  (cur:List Nat) (t:TypeId) (hg:Blk w g t (bcells cur).toArray) (hcur:cur.length=n) (src:List Nat) (hr:Rd w sp k sc (bcells src)) (hkn:k≤n)
  (h:∀ w',Blk w' g t (bcells (src++cur.drop k)).toArray→But2 g g w w'→wpList P ops Q rest (a.put o.dst (goInt k)) w') :
  wpList P ops Q (o::rest) a w:=by
 have hk:=hr.len;rw[ka7] at hk;obtain⟨h1,h2,h3,h4⟩:=hr;by_cases h0:k=0
 ·subst h0;refine wpList_copy_nothing hgd d s dT sT ho elem hu hsz _ sp n n 0 sc hd hs (by simp) ?_;obtain rfl:src=[]:=List.eq_nil_of_length_eq_zero hk;exact h w (by simpa using hg) (But2.refl _ _ _)
 ·obtain⟨b,off,rfl,hb,hc⟩:=h4 (by omega);have key:=wpList_copy_own hgd d s dT sT ho elem hu hsz g 0 n n ⟨b,off,none⟩ k sc hd hs (bcells cur).toArray t hg (bcells src) (by rw[h1];exact(Nat.min_eq_left hkn).symm) (fun j v hj=>by
   have e:(⟨b,off,none⟩:Addr).add j=⟨b,off+j,none⟩:=by
    unfold Addr.add;by_cases hj:j=0<;>simp[hj]
   rw[e];exact hc j v hj) (by simp[ka7,h1];omega) (kdo7 _) (Q:=Q) (ops:=ops) (rest:=rest)
  apply key;rw[h1];refine h _ ?_ ?_
  ·have:=setRow_heap w g _ (((bcells cur).toArray.toList.take 0++(bcells src++(bcells cur).toArray.toList.drop (0+k))).toArray) t _ hg;refine this.trans ?_;simp[bcells,List.map_drop]
  ·exact⟨rfl,rfl,rfl,by simp[World.setRow],fun i h1 h2 _=>setRow_other w g i _ h2⟩
def ucode(p:List Nat)(N:Nat):List Nat:=allbits (p++List.replicate (14*N+2) 0)
theorem ucode_length(p:List Nat)(N:Nat):(ucode p N).length=8*(p.length+14*N+2):=by
 unfold ucode;rw[km7,List.length_append,List.length_replicate];omega
theorem ucode_01(p:List Nat)(N:Nat):Is01 (ucode p N):=kae7 _
theorem pack_ucode{p:List Nat}(hd:∀ k,p.getD k 0<256)(N:Nat):pack (ucode p N)=p++List.replicate (14*N+2) 0:=by
 unfold ucode;refine kiy7 fun k=>?_;rcases Nat.lt_or_ge k p.length with h|h
 ·rw[kc7 h];exact hd k
 ·rw[kr7 h];rw[List.getD_eq_getElem?_getD,List.getElem?_replicate]
  split<;>simp
theorem valid_b{A:Option Addr}{n c M:Nat}{X:List Nat}{w:World}(h:Rd w A n c (bcells (pack X)))(h01:Is01 X)(hl:X.length=8*M)(hM:M≤16384) :
  Calls Tryz.prog 108 #[.agg #[.slice A n c,.int .i64 (8*(M:Int))]] w fun e w'=>e=.returned (.bool true)∧Below w.heap.size w w':=by
 have:=kai7 A n c X _ w h (Nat.le_refl _) h01 (by omega);rw[hl,show((8*M:Nat):Int)=8*(M:Int) by omega] at this;exact this
theorem open_b{A:Option Addr}{n c M:Nat}{X:List Nat}{w:World}(h:Rd w A n c (bcells (pack X)))(h01:Is01 X)(hl:X.length=8*M)(hM:M≤16384)(hM2:1≤M)(V:Int)(hV:V=(dinit X).V) :
  Calls Tryz.prog 109 #[.agg #[.slice A n c,.int .i64 (8*(M:Int))]] w fun e w'=>e=.returned (.tuple #[.agg #[.int .i64 0,.int .i64 65535,.int .i64 V,.int .i64 16],.agg #[.int .i64 0,.int .i64 0]])∧Below w.heap.size w w':=by
 subst hV;have:=ar_open_ok (w:=w) h h01 (by omega) (by omega) _ rfl;rw[hl,show((8*M:Nat):Int)=8*(M:Int) by omega] at this;exact this
theorem zpad_nil(N:Nat):List.replicate N (Value.int .u8 0)=bcells (zpad N []):=by
 symm
 refine List.eq_replicate_iff.2 ⟨by rw[ka7,kcu7],fun b hb=>?_⟩;unfold bcells zpad at hb;obtain⟨x,hx,rfl⟩:=List.mem_map.1 hb;obtain⟨k,_,rfl⟩:=List.mem_map.1 hx;simp[pbyte]
def UUnp(p:List Nat)(N:Nat)(D:List Nat)(ok:Bool):Prop :=
 ∃ l,l=dbits (ucode p N) ((mch l).map Cho.p) (dinit (ucode p N))∧l.length=8*N∧Is01 l∧D=pack l∧ok=decide (p.length=((dst (ucode p N) l).at_-16+9) / 8)
theorem uunpack_any{A:Option Addr}{n c N:Nat}{p:List Nat}{A2:Option Addr}{n2 c2:Nat}{w:World}(h:Rd w A n c (bcells p))(hn:n≤1024)(hN:N≤1024)(hd:∀ k,p.getD k 0<256) :
  Calls Tryz.prog 97 #[.agg #[],.slice A n c,.slice A2 n2 c2,.int .i64 (N:Nat)] w fun e w'=>∃ A' m' c' D ok,e=.returned (.tuple #[.slice A' m' c',.bool ok])∧UUnp p N D ok∧Rd w' A' m' c' (bcells D)∧Below w.heap.size w w':=by
 obtain⟨i0,hi,hz0,hz1,hz2⟩:=info_parts kar7;have H:=Lib.hid h;have HD:=Lib.hid hd;have e1:=h.len;rw[ka7] at e1;have E1:=Lib.hid e1;have hcap:=h.2.1;have hcm:=h.2.2.1;unfold maxLen at hcm;clear h hd e1;have hmin:8*(n:Int)+8*(N:Int)*14+16≤131072:=by omega
 go_enter Tryz.func97,Tryz.ntmps97
 go_upto_region 2 with(fail)
 obtain⟨M,hM⟩:∃ M,M=n+14*N+2:=⟨_,rfl⟩
 rw[show min (8*(n:Int)+8*(N:Int)*14+16) 131072=8*(M:Int) by omega];have HM:=Lib.hid hM;have hMb:M≤15362:=by omega
 have hMq:(8*(M:Int)+7) / 8=(M:Int):=by omega
 clear hmin hM
 go_wp2_with (with_reducible refine kda7 _ rfl _ _ 22 rfl 5 i0 _ 1 Tryz.underlying22 hi hz0 hz1 hz2 rfl _ _ _ _ M rfl rfl ?b0 ?b1 ?b2 ?b3 ?_)
 case b0=>have:=HM.out;omega
 case b1=>have:=HM.out;omega
 case b2=>have:=HM.out;omega
 case b3=>have:=HM.out;unfold maxLen;omega
 intro w1 ho1 y1 hlt1;have hB1:=own_full ho1;rw[show List.replicate M (Value.int .u8 0)=bcells (List.replicate M 0) by unfold bcells;rw[List.map_replicate];rfl] at hB1
 go_upto_region 3 with(fail)
 have B2:=Two.new w1 70 (.slice (some ⟨w.heap.size+1,0,none⟩) M M) (.int .i64 (8*(M:Int)));have R2:=hB1.alloc (.cells #[.slice (some ⟨w.heap.size+1,0,none⟩) M M,.int .i64 (8*(M:Int))] 70);have z1:=((Below.refl w.heap.size w).alloc (Nat.le_refl _) (.cells #[] 109)).trans (y1.mono (by simp));have Z2:=z1.alloc z1.size (.cells #[.slice (some ⟨w.heap.size+1,0,none⟩) M M,.int .i64 (8*(M:Int))] 70);have B2_c0:=B2.c0;have B2_c1:=B2.c1;have hsz1:w.heap.size+1<w1.heap.size:=by simpa using hlt1
 clear ho1 y1 hB1 z1 hlt1
 go_wp2_with (with_reducible refine kja7 rfl _ _ _ _ rfl 5 Tryz.underlying22 (by rw[hi];simp[hz1]) (w.heap.size+1) A M n c rfl rfl (List.replicate M 0) 5 (by simpa using R2) (by simp) p (H.out.on Z2) ?c1 ?_)
 case c1=>have:=HM.out;omega
 intro w3 hr3 hb3;rw[show M-n=14*N+2 by have:=HM.out;omega,←pack_ucode HD.out N] at hr3;have B3:=Blk.but2 B2 hb3 (by omega) (by omega);have Z3:=Z2.trans (hb3.below (by omega) (by omega) Z2.size);have hsz3:w1.heap.size<w3.heap.size:=by have:=hb3.size;simp at this;omega
 obtain⟨X,hX⟩:∃ X,X=ucode p N:=⟨_,rfl⟩
 have hXl:X.length=8*M:=by rw[hX,ucode_length,E1.out,HM.out]
 have hX01:Is01 X:=by rw[hX];exact ucode_01 p N
 rw[←hX] at hr3;have HX:=Lib.hid hX;have HXL:=Lib.hid hXl;have HX01:=Lib.hid hX01;have B3_c0:=Two.c0 B3;have B3_c1:=Two.c1 B3;have R3:=Rd.blk hr3 M (by rw[kd7,hXl];omega) (by omega);have HR3:=Lib.hid hr3;clear hX hXl hX01 B2 R2 B2_c0 B2_c1 Z2 hb3 hr3
 go_wp2_with fail
 refine(valid_b R3 HX01.out HXL.out (by omega)).mono ?_;rintro e w4 ⟨rfl,y4⟩;have R4:=R3.on y4;have B4:Two w4 w1.heap.size _ _ _:=Blk.on B3 y4;have HR4:=Lib.hid (Blk.on HR3.out y4);have Z4:=Z3.trans (y4.mono Z3.size);have B4_c0:=Two.c0 B4;have B4_c1:=Two.c1 B4;have hsz4:w1.heap.size<w4.heap.size:=by have:=y4.size;omega
 clear R3 HR3 B3 B3_c0 B3_c1 Z3 y4 hsz3
 go_wp2_with fail
 obtain⟨V,hV⟩:∃ V,V=(dinit X).V:=⟨_,rfl⟩
 refine(open_b R4 HX01.out HXL.out (by omega) (by have:=HM.out;omega) V hV).mono ?_;rintro e w5 ⟨rfl,y5⟩;have HV:=Lib.hid hV;have D5:=(Four.new w5 161 (.int .i64 0) (.int .i64 65535) (.int .i64 V) (.int .i64 16)).alloc (.cells #[.int .i64 0,.int .i64 0] 24);have F5:=Two.new1 w5 (.cells #[.int .i64 0,.int .i64 65535,.int .i64 V,.int .i64 16] 161) 24 (.int .i64 0) (.int .i64 0);have B5:Two _ w1.heap.size _ _ _:=((Blk.on B4 y5).alloc (.cells #[.int .i64 0,.int .i64 65535,.int .i64 V,.int .i64 16] 161)).alloc (.cells #[.int .i64 0,.int .i64 0] 24);have HR5:=Lib.hid (((Blk.on HR4.out y5).alloc (.cells #[.int .i64 0,.int .i64 65535,.int .i64 V,.int .i64 16] 161)).alloc (.cells #[.int .i64 0,.int .i64 0] 24));have z5:=Z4.trans (y5.mono Z4.size);have Z5:=(z5.alloc z5.size (.cells #[.int .i64 0,.int .i64 65535,.int .i64 V,.int .i64 16] 161)).alloc (by have:=z5.size;simp;omega) (.cells #[.int .i64 0,.int .i64 0] 24);have hsz5:w1.heap.size<w5.heap.size:=by have:=y5.size;omega
 have D5_c0:=D5.c0;have D5_c1:=D5.c1;have D5_c2:=D5.c2;have D5_c3:=D5.c3;have F5_c0:=F5.c0;have F5_c1:=F5.c1;clear R4 HR4 B4 B4_c0 B4_c1 Z4 z5 y5 hV hsz4
 go_upto_region 10 with(fail)
 obtain⟨w6,hw6⟩:∃ w6,w6=(w5.alloc (.cells #[.int .i64 0,.int .i64 65535,.int .i64 V,.int .i64 16] 161)).alloc (.cells #[.int .i64 0,.int .i64 0] 24):=⟨_,rfl⟩
 have hsz6:w6.heap.size=w5.heap.size+2:=by rw[hw6];simp
 rw[←hw6] at D5 F5 B5 HR5 Z5 ⊢;have HSZ6:=Lib.hid hsz6;clear D5_c0 D5_c1 D5_c2 D5_c3 F5_c0 F5_c1 hw6 F5 hsz6
 go_wp2_with (with_reducible refine kda7 _ rfl _ _ 22 rfl 5 i0 _ 1 Tryz.underlying22 hi hz0 hz1 hz2 rfl _ _ _ _ N rfl rfl rfl rfl ?b2 ?b3 ?_)
 case b2=>omega
 case b3=>unfold maxLen;omega
 intro w7 ho7 y7 hlt7;have hB7:=own_full ho7;rw[zpad_nil] at hB7
 go_upto_region 12 with(fail)
 have hsz6:=HSZ6.out;have z7:=Z5.trans (y7.mono Z5.size);have z8:=((z7.alloc z7.size (.cells #[.slice (some ⟨w6.heap.size,0,none⟩) N N] 22)).alloc (by have:=z7.size;simp;omega) (.cells #[.int .i64 0] 3)).alloc (by have:=z7.size;simp;omega) (.cells #[.bool true] 4);have D8:Four _ w5.heap.size _ _ _ _ _:=(((Blk.on D5 y7).alloc (.cells #[.slice (some ⟨w6.heap.size,0,none⟩) N N] 22)).alloc (.cells #[.int .i64 0] 3)).alloc (.cells #[.bool true] 4);have B8:Two _ w1.heap.size _ _ _:=(((Blk.on B5 y7).alloc (.cells #[.slice (some ⟨w6.heap.size,0,none⟩) N N] 22)).alloc (.cells #[.int .i64 0] 3)).alloc (.cells #[.bool true] 4);have R8:=(((Blk.on HR5.out y7).alloc (.cells #[.slice (some ⟨w6.heap.size,0,none⟩) N N] 22)).alloc (.cells #[.int .i64 0] 3)).alloc (.cells #[.bool true] 4);have W8:=((hB7.alloc (.cells #[.slice (some ⟨w6.heap.size,0,none⟩) N N] 22)).alloc (.cells #[.int .i64 0] 3)).alloc (.cells #[.bool true] 4);have S8:=((One.new w7 22 (.slice (some ⟨w6.heap.size,0,none⟩) N N)).alloc (.cells #[.int .i64 0] 3)).alloc (.cells #[.bool true] 4);have I8:=(One.new1 w7 (.cells #[.slice (some ⟨w6.heap.size,0,none⟩) N N] 22) 3 (.int .i64 0)).alloc (.cells #[.bool true] 4);have K8:=One.new2 w7 (.cells #[.slice (some ⟨w6.heap.size,0,none⟩) N N] 22) (.cells #[.int .i64 0] 3) 4 (.bool true)
 obtain⟨w8,hw8⟩:∃ w8,w8=((w7.alloc (.cells #[.slice (some ⟨w6.heap.size,0,none⟩) N N] 22)).alloc (.cells #[.int .i64 0] 3)).alloc (.cells #[.bool true] 4):=⟨_,rfl⟩
 have hsz8:w8.heap.size=w7.heap.size+3:=by rw[hw8];simp
 rw[←hw8] at z8 D8 B8 R8 W8 S8 I8 K8;have hsd:SD w.heap.size w5.heap.size w1.heap.size (w7.heap.size+2) w7.heap.size (w7.heap.size+1) (w.heap.size+1) w6.heap.size w N M X [] w8:=by
  refine⟨⟨?_,?_,K8,S8,I8,R8,W8,by omega,z8,by omega,by omega,by omega,by omega,by omega,by omega,by omega⟩,rfl,Nat.zero_le _⟩
  ·have e:dst X []=dinit X:=rfl;rw[e];rw[HV.out] at D8;exact D8
  ·rw[HXL.out,show((8*M:Nat):Int)=8*(M:Int) by omega];exact B8
 have HSD:=Lib.hid hsd;rw[show ∀ x y z,((w7.alloc x).alloc y).alloc z=((w7.alloc x).alloc y).alloc z from fun _ _ _=>rfl,←hw8];have hgd8:w.heap.size≤w8.heap.size:=z8.size;have HSZ8:=Lib.hid hsz8;clear hsz6 hsz8 D5 B5 HR5 Z5 hB7 ho7 y7 hlt7 z7 z8 D8 B8 R8 W8 S8 I8 K8 hsd hw8
 go_wp2_with fail
 refine(walk_dec HSD.out hN HX01.out (by rw[HXL.out];omega) (by rw[HXL.out];have:=HM.out;omega) (by rw[HXL.out];omega) _ (by push_cast;rfl) hgd8).mono ?_;rintro e w9 ⟨rfl,l,hl,h01,hsd⟩;obtain⟨t,ht⟩:∃ t,t=(dst X l).at_:=⟨_,rfl⟩
 have hat:=(dst_ok (l:=l) HX01.out).2;rw[←ht,hl] at hat;obtain⟨hat1,hat2⟩:=hat;have hat3:t≤200000:=by omega
 have HU:=Lib.hid (show ∀ ok,ok=decide (n=(t-16+9) / 8)→UUnp p N (pack l) ok from fun ok hok=>⟨l,by rw[←HX.out];exact hsd.pre,hl,h01,rfl,by rw[←HX.out,←ht,E1.out];exact hok⟩);have d3:=hsd.sv.db.c3;rw[←ht] at d3;have b0:=hsd.sv.bb.c0;have k0:=hsd.sv.kb.c0;have hrow:=hsd.sv.rw_;rw[zpad_full hl] at hrow;have R9:=Lib.hid (Rd.blk hrow N (by rw[kd7,hl];omega) (by omega));have Z9:=Lib.hid hsd.sv.bel;clear HSD hgd8 ht hl h01 hsd hrow hat1
 go_upto_region 13 with(fail)
 obtain⟨q,hq⟩:∃ q:Nat,q=(t-16+9) / 8:=⟨_,rfl⟩
 have hqz:((t:Int)-16+2+7) / 8=(q:Int):=by omega
 rw[←hq] at HU;by_cases h9:n=q
 ·have HUT:=Lib.hid (HU.out true (by rw[decide_eq_true h9]));have h9z:(n:Int)=(q:Int):=by omega
  clear hq HU h9
  go_quiet (fail)
  go_wp2
  have hbd:Below w9.heap.size w9 (w9.drewN nq):=⟨rfl,rfl,rfl,Nat.le_refl _,fun _ _=>rfl⟩
  have ZZ:=Lib.hid (Z9.out.trans (hbd.mono Z9.out.size));have RR:=Lib.hid (R9.out.on hbd)
  go_ret2
  exact⟨_,_,_,_,true,rfl,HUT.out,RR.out,ZZ.out⟩
 ·have HUT:=Lib.hid (HU.out false (by rw[decide_eq_false h9]));have h9z:¬(n:Int)=(q:Int):=by omega
  clear hq HU h9
  go_quiet (fail)
  go_wp2
  have hbd:Below w9.heap.size w9 (w9.drewN nq):=⟨rfl,rfl,rfl,Nat.le_refl _,fun _ _=>rfl⟩
  have ZZ:=Lib.hid (Z9.out.trans (hbd.mono Z9.out.size));have RR:=Lib.hid (R9.out.on hbd);have hnq:((n:Int) == (q:Int))=false:=by simpa using h9z
  rw[hnq]
  go_ret2
  exact⟨_,_,_,_,false,rfl,HUT.out,RR.out,ZZ.out⟩
end PB
end
section
open Go.RowKit
attribute [local go_sem ↓] Go.wp_at_zero Go.wp_at_succ
namespace PB
theorem ked7(c i:Int)(w:World):Calls Tryz.prog 19 #[.int .i64 c,.int .i64 i] w fun e w'=>e=.returned (.agg #[.int .i64 c,.int .i64 i])∧Below w.heap.size w w':=by
 have G:=Two.new w 24 (.int .i64 c) (.int .i64 i);obtain⟨g0,g1,g2,g3,g4⟩:=G.facts
 go_enter Tryz.func19,Tryz.ntmps19
 go_wp2
 exact bodyPost_ret (v:=.agg #[.int .i64 c,.int .i64 i]) (by simp[results,Tryz.results19,go_sem,g0,g1]) rfl ⟨rfl,(Below.refl _ _).alloc (Nat.le_refl _) _⟩
def UNP(code dict:List Nat)(D:List Nat)(ok:Bool):Prop :=
 (code=[]∧D=[]∧ok=false) ∨
 (∃ h t,code=h::t∧2<h∧D=[]∧ok=false) ∨
 (∃ t,code=0::t∧D=t∧ok=true) ∨
 (∃ h t,code=h::t∧1≤h∧h≤2∧t.length<2∧D=[]∧ok=false) ∨
 (∃ h a b p,code=h::a::b::p∧1≤h∧h≤2∧1024<a+256*b∧D=[]∧ok=false) ∨
 (∃ a b p,code=1::a::b::p∧a+256*b≤1024∧UUnp p (a+256*b) D ok) ∨
 (∃ a b p,code=2::a::b::p∧a+256*b≤1024∧MUnp p dict (a+256*b) D ok)
theorem or_bytes(a b:Nat)(ha:a<256)(hb:b<256):bits .or .i64 (a:Int) ((b:Int)*256)=((a+256*b:Nat):Int):=by
 have e:(b:Int)*256=((2 ^ 8*b:Nat):Int):=by omega
 have k:=Nat.two_pow_add_eq_or_of_lt (i:=8) (b:=a) (by omega) b;rw[e,i64_or_nat _ _ (by omega) (by omega),Nat.or_comm,←k];omega
theorem meth_mod(W:World):Sem.run Tryz.prog (method 319 109 (.agg #[]) "scriptorium/squeeze.unpack") W=.ok (97,.agg #[]) W:=by kernel_rfl
theorem meth_mat(W:World):Sem.run Tryz.prog (method 319 110 (.agg #[]) "scriptorium/squeeze.unpack") W=.ok (144,.agg #[]) W:=by kernel_rfl
theorem unpack_any{A:Option Addr}{n c:Nat}{code:List Nat}{A2:Option Addr}{n2 c2:Nat}{dict:List Nat}{w:World}(h:Rd w A n c (bcells code))(h2:Rd w A2 n2 c2 (bcells dict))(hn:n≤1025)(hn2:n2≤512)(hd:∀ k,code.getD k 0<256) :
  Calls Tryz.prog 25 #[.slice A n c,.slice A2 n2 c2] w fun e w'=>∃ A' m' c' D ok,e=.returned (.tuple #[.slice A' m' c',.bool ok])∧UNP code dict D ok∧Rd w' A' m' c' (bcells D)∧Below w.heap.size w w':=by
 have e1:=h.len;rw[ka7] at e1;have E1:=Lib.hid e1;have H:=Lib.hid h;have H2:=Lib.hid h2;have HD:=Lib.hid hd;have hcap:=h.2.1;have hcm:=h.2.2.1;unfold maxLen at hcm;obtain⟨i0,hi,hz0,hz1,hz2⟩:=info_parts kar7;clear h2 hd e1
 go_enter Tryz.func25,Tryz.ntmps25
 go_wp2_with fail
 refine(kec7 _).mono ?_;rintro e w2 ⟨g,rfl,hb,hg,y2⟩;rcases Nat.eq_zero_or_pos n with rfl|hpos
 ·have HU:=Lib.hid (show UNP code dict [] false from .inl ⟨List.eq_nil_of_length_eq_zero E1.out,rfl,rfl⟩);clear h hb
  go_wp2_with fail
  go_ret2
  exact⟨_,_,_,[],false,rfl,HU.out,Reads.nil _ _ none 0 (Nat.zero_le _),y2⟩
 ·have R2:=H.out.on y2;have M2:=Lib.hid (H2.out.on y2);obtain⟨bA,off,rfl,hbA,hcc⟩:=Reads.byte R2 hpos;have x0:=hcc 0 hpos;rw[Nat.add_zero] at x0;have hne0:((n:Int) == 0)=false:=by simp;omega
  obtain⟨hd0,hcode⟩:∃ tl,code=code.getD 0 0::tl:=by
   cases code with
   | nil=>have:=E1.out;simp at this;omega
   | cons y tl=>exact⟨tl,rfl⟩
  obtain⟨x,hx⟩:∃ x,x=code.getD 0 0:=⟨_,rfl⟩
  rw[←hx] at x0;have hxl:=HD.out 0;rw[←hx] at hxl;have HX:=Lib.hid hx;have HCC:=Lib.hid hcc;have HB:=Lib.hid hb;have Y2:=Lib.hid y2;have HR2:=Lib.hid R2;clear hx hcc h hb y2 R2;rw[←HX.out] at hcode;have HCODE:=Lib.hid hcode;have htl:1+hd0.length=n:=by have:=E1.out;rw[hcode] at this;simp at this;omega
  have HTL:=Lib.hid htl;clear hcode htl;by_cases hx2:2<x
  ·have hx2z:(2:Int)<(x:Int):=by omega
   have HU:=Lib.hid (show UNP code dict [] false from .inr (.inl ⟨x,hd0,HCODE.out,hx2,rfl,rfl⟩))
   go_wp2_with fail
   go_ret2
   exact⟨_,_,_,[],false,rfl,HU.out,Reads.nil _ _ none 0 (Nat.zero_le _),Y2.out⟩
  ·have hx2z:¬(2:Int)<(x:Int):=by omega
   by_cases hx0:x=0
   ·subst hx0;have hz:(((0:Nat):Int))=0:=rfl;rw[hz] at x0;obtain⟨A1,hrun,hr1⟩:=Rd.tail (P:=Tryz.prog) (A:=some ⟨bA,off,none⟩) (c:=c) 22 5 i0 Tryz.underlying22 hi hz1 hcap 1 (by omega);have hrun1:∀ W,(Instr.slice 22 (.slice (some ⟨bA,off,none⟩) n c) (some (.int .i64 1)) none none).run Tryz.prog W=.ok (.slice A1 (n-1) (c-1)) W:=hrun;have R1:=hr1 w2 _ HR2.out;have ed:(bcells code).drop 1=bcells hd0:=by rw[HCODE.out];rfl
    rw[ed] at R1;have HU:=Lib.hid (show UNP code dict hd0 true from .inr (.inr (.inl ⟨hd0,HCODE.out,rfl,rfl⟩)));clear hx2 hx2z hrun hr1 ed
    go_wp2_with fail
    refine(bclone_any R1 (by omega)).mono ?_;rintro e w3 ⟨A3,c3,rfl,ho,y3⟩;have R3:=Rd.own ho;have Y3:=Lib.hid (Y2.out.trans (y3.mono Y2.out.size));clear ho y3
    go_wp2_with fail
    go_ret2
    exact⟨A3,n-1,c3,hd0,true,rfl,HU.out,R3,Y3.out⟩
   ·have hx0z:((x:Int) == 0)=false:=by simp;omega
    by_cases hn3:n<3
    ·have hn3z:(n:Int)<3:=by omega
     have HU:=Lib.hid (show UNP code dict [] false from .inr (.inr (.inr (.inl ⟨x,hd0,HCODE.out,by omega,by omega,by have:=HTL.out;omega,rfl,rfl⟩))))
     go_wp2_with fail
     go_ret2
     exact⟨_,_,_,[],false,rfl,HU.out,Reads.nil _ _ none 0 (Nat.zero_le _),Y2.out⟩
    ·have hn3z:¬(n:Int)<3:=by omega
     go_upto_region 8 with(fail)
     obtain⟨a,b,p,hdd⟩:∃ a b p,hd0=a::b::p:=by
      have:=HTL.out
      match hd0,this with
      | [],h=>simp at h;omega
      | [_],h=>simp at h;omega
      | a::b::p,_=>exact⟨a,b,p,rfl⟩
     have hc1:=HCC.out 1 (by omega);have hc2:=HCC.out 2 (by omega);have ha:=HD.out 1;have hb:=HD.out 2;have hcode:=HCODE.out;rw[hdd] at hcode;rw[show code.getD 1 0=a by rw[hcode];rfl] at hc1 ha;rw[show code.getD 2 0=b by rw[hcode];rfl] at hc2 hb;have HCODE2:=Lib.hid hcode;have hpl:p.length=n-3:=by have:=HTL.out;rw[hdd] at this;simp at this;omega
     have HPL:=Lib.hid hpl;clear hcode hdd hpl
     go_quiet (fail)
     rw[or_bytes a b ha hb];obtain⟨N,hN⟩:∃ N,N=a+256*b:=⟨_,rfl⟩
     rw[←hN];have hbd:Below w2.heap.size w2 (w2.drewN nq):=⟨rfl,rfl,rfl,Nat.le_refl _,fun _ _=>rfl⟩
     have Y3:=Lib.hid (Y2.out.trans (hbd.mono Y2.out.size));have M3:=Lib.hid (M2.out.on hbd);have HR3:=Lib.hid (HR2.out.on hbd);have HB3:=Lib.hid (HB.out.on hbd);have hx03:(w2.drewN nq).cell? ⟨bA,off,none⟩=some (.int .u8 (x:Nat)):=x0;have HN:=Lib.hid hN;clear hbd x0 hc1 hc2 ha hb hN HR2 M2 Y2 HB HCC;generalize w2.drewN nq=w3 at Y3 M3 HR3 HB3 hx03 ⊢;by_cases hNb:1024<N
     ·have hNz:(1024:Int)<(N:Int):=by omega
      have HU:=Lib.hid (show UNP code dict [] false from .inr (.inr (.inr (.inr (.inl ⟨x,a,b,p,HCODE2.out,by omega,by omega,by rw[←HN.out];exact hNb,rfl,rfl⟩)))))
      go_wp2_with fail
      go_ret2
      exact⟨_,_,_,[],false,rfl,HU.out,Reads.nil _ _ none 0 (Nat.zero_le _),Y3.out⟩
     ·have hNz:¬(1024:Int)<(N:Int):=by omega
      obtain⟨A1,hrun,hr1⟩:=Rd.tail (P:=Tryz.prog) (A:=some ⟨bA,off,none⟩) (c:=c) 22 5 i0 Tryz.underlying22 hi hz1 hcap 3 (by omega);have hrun1:∀ W,(Instr.slice 22 (.slice (some ⟨bA,off,none⟩) n c) (some (.int .i64 3)) none none).run Tryz.prog W=.ok (.slice A1 (n-3) (c-3)) W:=hrun;have R1:=hr1 w3 _ HR3.out;have ed:(bcells code).drop 3=bcells p:=by rw[HCODE2.out];rfl
      rw[ed] at R1;have R1H:=Lib.hid R1;clear hrun hr1 ed R1
      go_upto_region 11 with(fail)
      have RD:Rd w3.drew A1 (n-3) (c-3) (bcells p):=R1H.out;have SD2:Rd w3.drew A2 n2 c2 (bcells dict):=M3.out;have HDP:=Lib.hid (show ∀ k,p.getD k 0<256 from fun k=>by have:=HD.out (k+3);rw[HCODE2.out] at this;exact this);rcases(by omega:x=1∨x=2) with rfl|rfl
      ·have m0:w3.cell? ⟨g,0,none⟩=some (.iface 109 (.agg #[])):=Blk.cell HB3.out 0;have hmm:=meth_mod;have HC:=Lib.hid (uunpack_any (A2:=A2) (n2:=n2) (c2:=c2) RD (by omega) (by omega:N≤1024) HDP.out);have HUN:=Lib.hid (show ∀ D ok,UUnp p N D ok→UNP code dict D ok from fun D ok hh=>.inr (.inr (.inr (.inr (.inr (.inl ⟨a,b,p,HCODE2.out,by rw[←HN.out];omega,by rw[←HN.out];exact hh⟩))))))
       go_region_with (go_at_call 97;refine HC.out.mono ?_;rintro e w4 ⟨A4,m4,c4,D4,ok4,rfl,hU,R4,y4⟩;have R4:=Lib.hid R4;have hU:=Lib.hid hU;have Y4:=Lib.hid ((belowD Y3.out).trans (Below.mono y4 (belowD Y3.out).size));clear y4)
       go_wp2
       go_ret2
       exact⟨A4,m4,c4,D4,ok4,rfl,HUN.out _ _ hU.out,R4.out,Y4.out⟩
      ·have m0:w3.cell? ⟨g,1,none⟩=some (.iface 110 (.agg #[])):=Blk.cell HB3.out 1;have hmm:=meth_mat;have HC:=Lib.hid (munpack_any RD SD2 (by omega) hn2 (by omega:N≤1024) HDP.out);have HUN:=Lib.hid (show ∀ D ok,MUnp p dict N D ok→UNP code dict D ok from fun D ok hh=>.inr (.inr (.inr (.inr (.inr (.inr ⟨a,b,p,HCODE2.out,by rw[←HN.out];omega,by rw[←HN.out];exact hh⟩))))))
       go_region_with (go_at_call 144;refine HC.out.mono ?_;rintro e w4 ⟨A4,m4,c4,D4,ok4,rfl,hU,R4,y4⟩;have R4:=Lib.hid R4;have hU:=Lib.hid hU;have Y4:=Lib.hid ((belowD Y3.out).trans (Below.mono y4 (belowD Y3.out).size));clear y4)
       go_wp2
       go_ret2
       exact⟨A4,m4,c4,D4,ok4,rfl,HUN.out _ _ hU.out,R4.out,Y4.out⟩
theorem api_unpack_long{A:Option Addr}{n c:Nat}{A2:Option Addr}{n2 c2:Nat}{w:World}(hn:1025<n)(hm:n≤maxLen) :
  Calls Tryz.prog 13 #[.slice A n c,.slice A2 n2 c2] w fun e w'=>e=.returned (.tuple #[.slice none 0 0,.agg #[.int .i64 3,.int .i64 (-1)]])∧Below w.heap.size w w':=by
 have F0:=Two.new w 24 (.int .i64 0) (.int .i64 0);have y0:=(Below.refl w.heap.size w).alloc (Nat.le_refl _) (.cells #[.int .i64 0,.int .i64 0] 24);unfold maxLen at hm;have hnz:(1025:Int)<(n:Int):=by omega
 go_enter Tryz.func13,Tryz.ntmps13
 go_wp2_with fail
 refine(ked7 _ _ _).mono ?_;rintro e w1 ⟨rfl,y1⟩;have F1:=F0.on y1;have Y1:=y0.trans (y1.mono y0.size);obtain⟨f0,f1,f2,f3,f4⟩:=F1.facts;have F2:=(F1.set0 (.int .i64 3)).set1 (.int .i64 (-1));have r0:=F2.c0;have r1:=F2.c1;clear y1 F0
 go_wp2
 exact bodyPost_ret (v:=.tuple #[.slice none 0 0,.agg #[.int .i64 3,.int .i64 (-1)]]) (by simp[results,Tryz.results13,go_sem,r0,r1]) rfl ⟨rfl,(Y1.setCell (p:=⟨w.heap.size,0,none⟩) (Nat.le_refl _) _).setCell (p:=⟨w.heap.size,1,none⟩) (Nat.le_refl _) _⟩
theorem api_unpack_dict{A:Option Addr}{n c:Nat}{A2:Option Addr}{n2 c2:Nat}{w:World}(hn:n≤1025)(hn2:512<n2)(hm:n2≤maxLen) :
  Calls Tryz.prog 13 #[.slice A n c,.slice A2 n2 c2] w fun e w'=>e=.returned (.tuple #[.slice none 0 0,.agg #[.int .i64 3,.int .i64 (-2)]])∧Below w.heap.size w w':=by
 have F0:=Two.new w 24 (.int .i64 0) (.int .i64 0);have y0:=(Below.refl w.heap.size w).alloc (Nat.le_refl _) (.cells #[.int .i64 0,.int .i64 0] 24);unfold maxLen at hm;have hnz:¬(1025:Int)<(n:Int):=by omega
 have hnz2:(512:Int)<(n2:Int):=by omega
 go_enter Tryz.func13,Tryz.ntmps13
 go_wp2_with fail
 refine(ked7 _ _ _).mono ?_;rintro e w1 ⟨rfl,y1⟩;have F1:=F0.on y1;have Y1:=y0.trans (y1.mono y0.size);obtain⟨f0,f1,f2,f3,f4⟩:=F1.facts;have F2:=(F1.set0 (.int .i64 3)).set1 (.int .i64 (-2));have r0:=F2.c0;have r1:=F2.c1;clear y1 F0
 go_wp2
 exact bodyPost_ret (v:=.tuple #[.slice none 0 0,.agg #[.int .i64 3,.int .i64 (-2)]]) (by simp[results,Tryz.results13,go_sem,r0,r1]) rfl ⟨rfl,(Y1.setCell (p:=⟨w.heap.size,0,none⟩) (Nat.le_refl _) _).setCell (p:=⟨w.heap.size,1,none⟩) (Nat.le_refl _) _⟩
theorem api_pack_ok{A:Option Addr}{n c:Nat}{blk:List Nat}{A2:Option Addr}{n2 c2:Nat}{dict:List Nat}{w:World}(h:Rd w A n c (bcells blk))(h2:Rd w A2 n2 c2 (bcells dict))(hn:n≤1024)(hn2:n2≤512)(hd:∀ k,blk.getD k 0<256)(hd2:∀ k,dict.getD k 0<256) :
  Calls Tryz.prog 8 #[.slice A n c,.slice A2 n2 c2] w fun e w'=>∃ A' n' c' ts,e=.returned (.tuple #[.slice A' n' c',.agg #[.int .i64 0,.int .i64 0]])∧PTok blk dict ts∧w'.ownsRow w.heap.size 5 1 (.slice A' n' c') n' (bcells (pk2 blk ts))∧Below w.heap.size w w':=by
 have HD:=Lib.hid hd;have HD2:=Lib.hid hd2;have R0:=h.alloc (.cells #[.int .i64 0,.int .i64 0] 24);have S0:=h2.alloc (.cells #[.int .i64 0,.int .i64 0] 24);have F0:=Two.new w 24 (.int .i64 0) (.int .i64 0);have y0:=(Below.refl w.heap.size w).alloc (Nat.le_refl _) (.cells #[.int .i64 0,.int .i64 0] 24);have hnz:¬(1024:Int)<(n:Int):=by omega
 have hnz2:¬(512:Int)<(n2:Int):=by omega
 clear hd hd2 h h2
 go_enter Tryz.func8,Tryz.ntmps8
 go_wp2_with fail
 refine(pack_any R0 S0 hn hn2 HD.out HD2.out).mono ?_;rintro e w1 ⟨A1,n1,c1,ts,rfl,hT,ho,y1⟩;have F1:=F0.on y1;have Y1:=y0.trans (y1.mono y0.size);have O1:=Lib.hid (kav7 (kbf7 (kbf7 ho (p:=⟨w.heap.size,0,none⟩) (by simp) (.int .i64 0)) (p:=⟨w.heap.size,1,none⟩) (by simp) (.int .i64 0)) y0.size);have F2:=(F1.set0 (.int .i64 0)).set1 (.int .i64 0);have r0:=F2.c0;have r1:=F2.c1;have HT:=Lib.hid hT;obtain⟨f0,f1,f2,f3,f4⟩:=F1.facts;clear hT ho y1 F0 R0 S0
 go_wp2
 exact bodyPost_ret (v:=.tuple #[.slice A1 n1 c1,.agg #[.int .i64 0,.int .i64 0]]) (by simp[results,Tryz.results8,go_sem,r0,r1]) rfl ⟨A1,n1,c1,ts,rfl,HT.out,O1.out,(Y1.setCell (p:=⟨w.heap.size,0,none⟩) (Nat.le_refl _) _).setCell (p:=⟨w.heap.size,1,none⟩) (Nat.le_refl _) _⟩
theorem api_unpack_ok{A:Option Addr}{n c:Nat}{code:List Nat}{A2:Option Addr}{n2 c2:Nat}{dict:List Nat}{w:World}(h:Rd w A n c (bcells code))(h2:Rd w A2 n2 c2 (bcells dict))(hn:n≤1025)(hn2:n2≤512)(hd:∀ k,code.getD k 0<256) :
  Calls Tryz.prog 13 #[.slice A n c,.slice A2 n2 c2] w fun e w'=>∃ A' m' c' D D' ok fc fi,e=.returned (.tuple #[.slice A' m' c',.agg #[.int .i64 fc,.int .i64 fi]])∧UNP code dict D' ok∧((ok=true∧fc=0∧fi=0∧D=D')∨(ok=false∧fc=16∧fi=-1∧D=[]))∧Rd w' A' m' c' (bcells D)∧Below w.heap.size w w':=by
 have HD:=Lib.hid hd;have R0:=h.alloc (.cells #[.int .i64 0,.int .i64 0] 24);have S0:=h2.alloc (.cells #[.int .i64 0,.int .i64 0] 24);have F0:=Two.new w 24 (.int .i64 0) (.int .i64 0);have y0:=(Below.refl w.heap.size w).alloc (Nat.le_refl _) (.cells #[.int .i64 0,.int .i64 0] 24);have hnz:¬(1025:Int)<(n:Int):=by omega
 have hnz2:¬(512:Int)<(n2:Int):=by omega
 clear hd h h2
 go_enter Tryz.func13,Tryz.ntmps13
 go_wp2_with fail
 refine(unpack_any R0 S0 hn hn2 HD.out).mono ?_;rintro e w1 ⟨A1,n1,c1,D,ok,rfl,hU,hR,y1⟩;have F1:=F0.on y1;have Y1:=y0.trans (y1.mono y0.size);have HU:=Lib.hid hU;clear hU R0 S0 F0;cases ok with
 | true =>
  have R1:=Lib.hid (hR.farTwo F1 (.int .i64 0) (.int .i64 0));obtain⟨f0,f1,f2,f3,f4⟩:=F1.facts;have F2:=(F1.set0 (.int .i64 0)).set1 (.int .i64 0);have r0:=F2.c0;have r1:=F2.c1;clear hR y1
  go_wp2
  exact bodyPost_ret (v:=.tuple #[.slice A1 n1 c1,.agg #[.int .i64 0,.int .i64 0]]) (by simp[results,Tryz.results13,go_sem,r0,r1]) rfl ⟨A1,n1,c1,D,D,true,0,0,rfl,HU.out,.inl ⟨rfl,rfl,rfl,rfl⟩,R1.out,(Y1.setCell (p:=⟨w.heap.size,0,none⟩) (Nat.le_refl _) _).setCell (p:=⟨w.heap.size,1,none⟩) (Nat.le_refl _) _⟩
 | false =>
  clear hR y1
  go_wp2_with fail
  refine(ked7 _ _ _).mono ?_;rintro e w2 ⟨rfl,y2⟩;have F3:=F1.on y2;have Y2:=Y1.trans (y2.mono Y1.size);obtain⟨f0,f1,f2,f3,f4⟩:=F3.facts;have F2:=(F3.set0 (.int .i64 16)).set1 (.int .i64 (-1));have r0:=F2.c0;have r1:=F2.c1;clear y2 F1 Y1
  go_wp2
  exact bodyPost_ret (v:=.tuple #[.slice none 0 0,.agg #[.int .i64 16,.int .i64 (-1)]]) (by simp[results,Tryz.results13,go_sem,r0,r1]) rfl ⟨none,0,0,[],D,false,16,-1,rfl,HU.out,.inr ⟨rfl,rfl,rfl,rfl⟩,Reads.nil _ _ none 0 (Nat.zero_le _),(Y2.setCell (p:=⟨w.heap.size,0,none⟩) (Nat.le_refl _) _).setCell (p:=⟨w.heap.size,1,none⟩) (Nat.le_refl _) _⟩
end PB
end
section
open Go.RowKit
namespace PB
theorem GAt.det{l:List Nat}{f v e c v' e' c':Nat}(h:GAt l f v e c)(h':GAt l f v' e' c'):v=v'∧e=e'∧c=c':=by
 rcases h with⟨a1,a2,a3,a4⟩|⟨a1,a2,a3,a4,a5⟩|⟨a1,a2,a3,a4,a5⟩<;>rcases h' with⟨b1,b2,b3,b4⟩|⟨b1,b2,b3,b4,b5⟩|⟨b1,b2,b3,b4,b5⟩<;>first|omega|(subst_vars;exact⟨rfl,rfl,rfl⟩)
theorem NOk.det{l:List Nat}{p m:Nat}{t t':Tok}{e e':Nat}(h:NOk l p m t e)(h':NOk l p m t' e'):t=t'∧e=e':=by
 rcases h with⟨a1,a2,a3,rfl,rfl⟩|⟨a1,a2,d,f,n,g1,a3,g2,a4,rfl⟩<;>rcases h' with⟨b1,b2,b3,rfl,rfl⟩|⟨b1,b2,d',f',n',k1,b3,k2,b4,rfl⟩
 ·exact⟨rfl,rfl⟩
 ·omega
 ·omega
 ·obtain⟨rfl,rfl,_⟩:=g1.det k1;obtain⟨rfl,rfl,_⟩:=g2.det k2;exact⟨rfl,rfl⟩
theorem NOk.notBad{l:List Nat}{p m c:Nat}{t:Tok}{e:Nat}(h:NOk l p m t e)(hb:NBad l p m c):False:=by
 rcases h with⟨a1,a2,a3,rfl,rfl⟩|⟨a1,a2,d,f,n,g1,a3,g2,a4,rfl⟩<;>rcases hb with⟨b1,_⟩|⟨b1,b2,b3,_⟩|⟨b1,b2,⟨cd,k1,k2,_⟩|⟨d',f',k1,k2,_⟩|⟨d',f',cd,k1,k2,k3,k4,_⟩|⟨d',f',n',f2,k1,k2,k3,k4,_⟩⟩
 all_goals try omega
 ·exact k2 (g1.det k1).2.2.symm
 ·have:=(g1.det k1).1;omega
 ·obtain⟨rfl,rfl,_⟩:=g1.det k1;exact k4 (g2.det k3).2.2.symm
 ·obtain⟨rfl,rfl,_⟩:=g1.det k1;have:=(g2.det k3).1;omega
theorem NBad.det{l:List Nat}{p m c c':Nat}(h:NBad l p m c)(h':NBad l p m c'):c=c':=by
 rcases h with⟨a1,a2⟩|⟨a1,a2,a3,a4⟩|⟨a1,a2,⟨cd,g1,g2,g3⟩|⟨d,f,g1,g2,g3⟩|⟨d,f,cd,g1,g2,g3,g4,g5⟩|⟨d,f,n,f2,g1,g2,g3,g4,g5⟩⟩ <;>
 rcases h' with⟨b1,b2⟩|⟨b1,b2,b3,b4⟩|⟨b1,b2,⟨cd',k1,k2,k3⟩|⟨d',f',k1,k2,k3⟩|⟨d',f',cd',k1,k2,k3,k4,k5⟩|⟨d',f',n',f2',k1,k2,k3,k4,k5⟩⟩
 all_goals try omega
 all_goals (have q:=g1.det k1;obtain⟨q1,q2,q3⟩:=q)
 all_goals first
  | omega
  | (exact absurd q3 (by omega))
  | (subst q1 q2;have q:=g3.det k3;obtain⟨q1,q2,q3⟩:=q;omega)
  | trace_state
theorem Dec.det{l:List Nat}{p n c i:Nat}{ts:List Tok}{en:Nat}(h:Dec l p n c i ts en):∀ {c' i':Nat}{ts':List Tok}{en':Nat},Dec l p n c' i' ts' en'→c=c'∧i=i'∧ts=ts'∧en=en':=by
 induction h with
 | nil p=>intro c' i' ts' en' h';cases h'<;>first|exact⟨rfl,rfl,rfl,rfl⟩|omega
 | bad p cnt c h1 h2 =>
  intro c' i' ts' en' h';cases h' with
  | nil=>omega
  | bad _ _ _ k1 k2=>exact⟨h2.det k2,rfl,rfl,rfl⟩
  | cons _ _ t e _ _ _ _ k1 k2 k3=>exact(k2.notBad h2).elim
 | cons p cnt t e c i ts en h1 h2 h3 ih =>
  intro c' i' ts' en' h';cases h' with
  | nil=>omega
  | bad _ _ _ k1 k2=>exact(h2.notBad k2).elim
  | cons _ _ t' e' _ _ _ _ k1 k2 k3 =>
   obtain⟨rfl,rfl⟩:=h2.det k2;obtain⟨rfl,rfl,rfl,rfl⟩:=ih k3;exact⟨rfl,rfl,rfl,rfl⟩
theorem ex_dec:Dec (allbits [48,240]) 0 4 0 0 [⟨0,0,97⟩,⟨1,3,0⟩] 12:=by
 have h:=dec_code [⟨0,0,97⟩,⟨1,3,0⟩] [] [0,0,0,0] (by
  intro t ht;rcases List.mem_cons.1 ht with rfl|ht
  ·exact⟨.inl ⟨rfl,rfl⟩,by decide⟩
  ·obtain rfl:=List.mem_singleton.1 ht;exact⟨.inr ⟨rfl,by decide,by decide,by decide,by decide⟩,by decide⟩)
 have e1:[]++codeOf [⟨0,0,97⟩,⟨1,3,0⟩]++[0,0,0,0]=allbits [48,240]:=by decide +kernel
 have e2:(codeOf [⟨0,0,97⟩,⟨1,3,0⟩]).length=12:=by decide +kernel
 have e3:(([⟨0,0,97⟩,⟨1,3,0⟩]:List Tok).map tlen).sum=4:=by decide +kernel
 rw[e1,e2,e3] at h;exact h
theorem dv_congr{l l':List Nat}(h:∀ i,l.getD i 0=l'.getD i 0):∀ ks V t,dv l ks V t=dv l' ks V t:=by
 intro ks
 induction ks with
 | nil=>intro V t;rfl
 | cons k r ih=>intro V t;rw[dv,dv,h t,ih]
theorem dstep_congr{l l':List Nat}(h:∀ i,l.getD i 0=l'.getD i 0)(d:DS)(p:Int):dstep l d p=dstep l' d p:=by
 unfold dstep;rw[dv_congr h]
theorem drun_congr{l l':List Nat}(h:∀ i,l.getD i 0=l'.getD i 0):∀ ps d,drun l ps d=drun l' ps d:=by
 intro ps
 induction ps with
 | nil=>intro d;rfl
 | cons p r ih =>
  intro d;show drun l r (dstep l d p)=drun l' r (dstep l' d p);rw[dstep_congr h,ih]
theorem dbits_congr{l l':List Nat}(h:∀ i,l.getD i 0=l'.getD i 0):∀ ps d,dbits l ps d=dbits l' ps d:=by
 intro ps
 induction ps with
 | nil=>intro d;rfl
 | cons p r ih=>intro d;rw[dbits,dbits,dstep_congr h,ih]
theorem dinit_congr{l l':List Nat}(h:∀ i,l.getD i 0=l'.getD i 0):dinit l=dinit l':=by
 unfold dinit;simp only[h]
theorem dbits_take(X:List Nat):∀ (ps:List Int) (d:DS) (k:Nat),(dbits X ps d).take k=dbits X (ps.take k) d:=by
 intro ps
 induction ps with
 | nil=>intro d k;simp[dbits]
 | cons p r ih =>
  intro d k;cases k with
  | zero=>simp[dbits]
  | succ k=>rw[dbits,List.take_succ_cons,List.take_succ_cons,dbits,ih]
theorem mch_ps(l:List Nat):(mch l).map Cho.p=(List.range l.length).map fun i=>((predv l i 1:Nat):Int):=by
 unfold mch;rw[List.map_map];rfl
theorem mch_ps_take{l l':List Nat}{k:Nat}(hl:l.length=l'.length)(hk:k<l.length)(h:l.take k=l'.take k):((mch l).map Cho.p).take (k+1)=((mch l').map Cho.p).take (k+1):=by
 rw[mch_ps,mch_ps,←List.map_take,←List.map_take,List.take_range,List.take_range,hl];refine List.map_congr_left fun i hi=>?_;have hi':i≤k:=by have:=List.mem_range.1 hi;omega
 rw[←predv_take l k i 1 hi' (by omega),←predv_take l' k i 1 hi' (by omega),h]
theorem fix_unique{X l l':List Nat}(h:l=dbits X ((mch l).map Cho.p) (dinit X))(h':l'=dbits X ((mch l').map Cho.p) (dinit X))(hl:l.length=l'.length):l=l':=by
 have key:∀ k,k≤l.length→l.take k=l'.take k:=by
  intro k
  induction k with
  | zero=>intro _;rfl
  | succ k ih =>
   intro hk;have e:=mch_ps_take hl (by omega) (ih (by omega));have e1:l.take (k+1)=dbits X (((mch l).map Cho.p).take (k+1)) (dinit X):=by
    rw[←dbits_take,←h]
   have e2:l'.take (k+1)=dbits X (((mch l').map Cho.p).take (k+1)) (dinit X):=by
    rw[←dbits_take,←h']
   rw[e1,e2,e]
 have:=key l.length (Nat.le_refl _);rw[List.take_of_length_le (Nat.le_refl _),hl,List.take_of_length_le (Nat.le_refl _)] at this;exact this
theorem allbits_pack{l:List Nat}(h01:Is01 l)(i:Nat):(allbits (pack l)).getD i 0=l.getD i 0:=by
 rcases Nat.lt_or_ge i (8*(pack l).length) with h|h
 ·rw[kcb7 _ _ h,kfm7 h01]
 ·rw[kaa7 (by rw[km7];exact h),kaa7 (by rw[kd7] at h;omega)]
theorem allbits_zeros{p:List Nat}(m i:Nat):(allbits (p++List.replicate m 0)).getD i 0=(allbits p).getD i 0:=by
 rcases Nat.lt_or_ge i (8*p.length) with h|h
 ·rw[kcb7 _ _ (by rw[List.length_append];omega),kcb7 _ _ h];unfold bitAt;rw[kc7 (by omega)]
 ·rw[kaa7 (l:=allbits p) (by rw[km7];exact h)];rcases Nat.lt_or_ge i (8*(p++List.replicate m 0).length) with h2|h2
  ·rw[kcb7 _ _ h2];unfold bitAt;rw[kr7 (by omega),List.getD_eq_getElem?_getD,List.getElem?_replicate]
   split<;>simp
  ·rw[kaa7 (by rw[km7];exact h2)]
theorem mch_n(l:List Nat)(h:Is01 l):(mch l).map Cho.n=l:=by
 unfold mch;rw[List.map_map];refine List.ext_getElem (by simp) fun i h1 h2=>?_;have hi:i<l.length:=by simpa using h1
 have:=h i;rw[List.getElem_map,List.getElem_range];show Cho.n ⟨((l.getD i 0:Nat):Int),_⟩=_;have e:Cho.n ⟨((l.getD i 0:Nat):Int),((predv l i 1:Nat):Int)⟩=l.getD i 0:=by
  unfold Cho.n;dsimp only;rcases(by omega:l.getD i 0=0∨l.getD i 0=1) with e|e<;>rw[e]<;>rfl
 rw[e,kaf7 hi]
theorem allbits_pack_eq{l:List Nat}(h01:Is01 l):allbits (pack l)=l++List.replicate (8*((l.length+7) / 8)-l.length) 0:=by
 refine kic7 (by rw[km7,kd7,List.length_append,List.length_replicate];omega) fun i hi=>?_;rw[allbits_pack h01];rcases Nat.lt_or_ge i l.length with h|h
 ·rw[kc7 h]
 ·rw[kaa7 h,kr7 h,List.getD_eq_getElem?_getD,List.getElem?_replicate]
  split<;>simp
theorem kjb7(blk:List Nat)(ts:List Tok):1≤(pk2 blk ts).length∧(pk2 blk ts).length≤blk.length+1∧(pk2 blk ts).length≤(fr1 blk).length∧(pk2 blk ts).length≤(fr2 blk ts).length:=by
 have a:1≤(fr1 blk).length:=by unfold fr1;simp
 have b:1≤(fr2 blk ts).length:=by unfold fr2;simp
 have c:(0::blk).length=blk.length+1:=rfl;unfold pk2 pk1
 split<;>split<;>omega
end PB
end
end Go.Proofs.YtnpcandaehejbaaGreat
