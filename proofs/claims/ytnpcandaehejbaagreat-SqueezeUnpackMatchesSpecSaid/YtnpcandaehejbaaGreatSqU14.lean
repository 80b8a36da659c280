/-
  The reference's functions for the model: BitList, context, Counts, Predicted.
-/

import Derived.Test.YtnpcandaehejbaaGreatSqU7
import Derived.Test.YtnpcandaehejbaaGreatSqU8
import Derived.Test.YtnpcandaehejbaaGreatSqU9
import Derived.Test.YtnpcandaehejbaaGreatSqU11
import Derived.Test.YtnpcandaehejbaaGreatSqU12
import Derived.Test.YtnpcandaehejbaaGreatSqU13
set_option linter.unusedVariables false
set_option linter.unusedSimpArgs false
set_option linter.unusedSectionVars false
set_option maxHeartbeats 6400000
set_option maxRecDepth 100000
namespace Go.Proofs.YtnpcandaehejbaaGreat
section
open Go.RowKit
attribute [local go_sem ↓] Go.wp_at_zero Go.wp_at_succ
namespace PB
theorem kgi7{h:List Nat}(b k:Nat)(hb:b≤k)(hk:k<h.length):2*num (1::(h.drop b).take (k-b))+h.getD k 0=num (1::(h.drop b).take (k+1-b)):=by
 have e:(h.drop b).take (k+1-b)=(h.drop b).take (k-b)++[h.getD k 0]:=by
  have e1:k+1-b=(k-b)+1:=by omega
  rw[e1,List.take_succ_eq_append_getElem (by rw[List.length_drop];omega)]
  congr 2
  rw[List.getElem_drop,←kaf7]
  congr 1
  omega
 rw[e,←List.cons_append,kdm7]
theorem kef7{h:List Nat}(h01:Is01 h)(b k:Nat)(hk:k-b≤8):num (1::(h.drop b).take (k-b))<512:=by
 have h1:Is01 (1::(h.drop b).take (k-b)):=by
  refine Is01.of_mem fun x hx=>?_;rcases List.mem_cons.1 hx with rfl|hx
  ·decide
  ·exact((h01.drop b).take (k-b)).mem hx
 have h2:=kcy7 h1;have h3:2 ^ (1::(h.drop b).take (k-b)).length≤2 ^ 9:=Nat.pow_le_pow_right (by decide) (by rw[List.length_cons,List.length_take];omega);omega
theorem refctx_0{A:Option Addr}{n c:Nat}{h:List Nat}{w:World}(hr:Rd w A n c (ncells h))(h01:Is01 h)(i:Nat)(hi:i≤h.length)(ii:Int)(hii:ii=(i:Nat)) :
  Calls Tryz.prog 80 #[.slice A n c,.int .i64 ii,.int .i64 0] w fun e w'=>e=.returned (cval (ctx h i 0))∧Below w.heap.size w w':=by
 subst hii;have hn:=hr.len;rw[ko7] at hn;have hcap:=Reads.cap hr;have hcm:=Reads.capMax hr;unfold maxLen at hcm;obtain⟨bg,hbg⟩:∃ bg,bg=cbeg i:=⟨_,rfl⟩
 have hb1:bg≤i:=by rw[hbg];unfold cbeg;omega
 have hb2:i-bg≤7:=by rw[hbg];unfold cbeg;omega
 have HBE:=Lib.hid (show(i:Int)-(i:Int) % 8=((bg:Nat):Int) by rw[hbg];unfold cbeg;omega);have HBG:=Lib.hid hbg;have HR:=Lib.hid hr;have H01:=Lib.hid h01;have F0:=Four.new w 123 (.int .i64 0) (.int .i64 0) (.int .i64 0) (.int .i64 0);have F1:=F0.alloc (.cells #[.int .i64 0,.int .i64 0,.int .i64 0,.int .i64 1] 123);have G1:=Four.new1 w (.cells #[.int .i64 0,.int .i64 0,.int .i64 0,.int .i64 0] 123) 123 (.int .i64 0) (.int .i64 0) (.int .i64 0) (.int .i64 1);have y1:=((Below.refl w.heap.size w).alloc (Nat.le_refl _) (.cells #[.int .i64 0,.int .i64 0,.int .i64 0,.int .i64 0] 123)).alloc (by simp) (.cells #[.int .i64 0,.int .i64 0,.int .i64 0,.int .i64 1] 123);clear hbg hr h01
 go_enter Tryz.func80,Tryz.ntmps80
 go_upto_region 2 with(fail)
 rw[HBE.out]
 go_upto_region 4 with(fail)
 generalize ((w.alloc (.cells #[.int .i64 0,.int .i64 0,.int .i64 0,.int .i64 0] 123)).alloc (.cells #[.int .i64 0,.int .i64 0,.int .i64 0,.int .i64 1] 123))=w1 at F1 G1 y1 ⊢;have HF:=Lib.hid F1;have HG:=Lib.hid G1;have HY:=Lib.hid y1;clear F1 G1 y1 F0
 go_loopw [9] (fun kv wr=>∃ k:Nat,bg≤k∧k≤i∧kv=.int .i64 (k:Nat)∧Four wr w.heap.size 123 (.int .i64 0) (.int .i64 0) (.int .i64 0) (.int .i64 0)∧Four wr (w.heap.size+1) 123 (.int .i64 0) (.int .i64 0) (.int .i64 0) (.int .i64 (num (1::(h.drop bg).take (k-bg)):Nat))∧Below w.heap.size w wr) (fun kv _=>i-(intOf kv).toNat)
 case atStart=>exact⟨bg,by omega,hb1,rfl,HF.out,by rw[Nat.sub_self,List.take_zero];exact HG.out,HY.out⟩
 case round =>
  obtain⟨k,hk1,hk2,rfl,F,G,yr⟩:=hrel;have HFr:=Lib.hid F;have HGr:=Lib.hid G;have HYr:=Lib.hid yr;clear F G yr HF HG HY;by_cases hlt:k<i
  ·obtain⟨g,off,rfl,hg,hc⟩:=(HR.out.on HYr.out).2.2.2 (by omega);have hcell:=hc k _ (kv7 h k (by omega));have hx2:=H01.out k;have HST:=kgi7 (h:=h) bg k hk1 (by omega);have hvl:=kef7 H01.out bg k (by omega);obtain⟨x,hx⟩:∃ x,x=h.getD k 0:=⟨_,rfl⟩
   obtain⟨V,hV⟩:∃ V,V=num (1::(h.drop bg).take (k-bg)):=⟨_,rfl⟩
   have hgr:=HGr.out;rw[←hx] at hcell hx2 HST;rw[←hV] at HST hvl hgr;have HST2:=Lib.hid HST;have c3:=hgr.c3;have f3:=hgr.f3;have HG2:=Lib.hid hgr;clear hc hx hV HST hgr;obtain⟨V2,hV2⟩:∃ V2,V2=2*V+x:=⟨_,rfl⟩
   have HV2:=Lib.hid hV2;have HV3:=Lib.hid (show 2*(V:Int)+(x:Int)=((V2:Nat):Int) by omega);clear hV2
   go_upto_region 6 with(fail)
   go_region
   all_goals try go_wp2_with fail
   rw[HV3.out]
   go_roundw
   case rel=>exact⟨k+1,by omega,by omega,by go_num,HFr.out.far (p:=⟨w.heap.size+1,3,none⟩) (by simp) _,by rw[←HST2.out,←HV2.out];exact HG2.out.set3 _,belowD (HYr.out.setCell (p:=⟨w.heap.size+1,3,none⟩) (by simp) _)⟩
   case measure=>simp[intOf]<;>omega
  ·obtain rfl:k=i:=by omega
   have hvl:=kef7 H01.out bg k (by omega);have HGE:=Lib.hid (show num (1::(h.drop bg).take (k-bg))=mbeg h k by rw[HBG.out];rfl);have hgr:=HGr.out;rw[HGE.out] at hgr hvl;obtain⟨V,hV⟩:∃ V,V=mbeg h k:=⟨_,rfl⟩
   have HV:=Lib.hid hV;rw[←hV] at hgr hvl;have HGr:=Lib.hid hgr;clear hgr hV HGE;have HGx:=HGr;have HFx:=HFr;have HYx:=HYr;clear HGr HFr HYr;have g0:=HGx.out.c0;have g1:=HGx.out.c1;have g2:=HGx.out.c2;have g3:=HGx.out.c3;have f0:=HFx.out.f0;have f1:=HFx.out.f1;have f2:=HFx.out.f2;have f3:=HFx.out.f3;have e0:=HFx.out.c0;have e1:=HFx.out.c1;have e2:=HFx.out.c2;have e3:=HFx.out.c3
   go_wp2
   have rr:=(((HFx.out.set0 (.int .i64 0)).set1 (.int .i64 (0))).set2 (.int .i64 (0))).set3 (.int .i64 (V:Nat));have r0:=rr.c0;have r1:=rr.c1;have r2:=rr.c2;have r3:=rr.c3;refine bodyPost_ret (v:=.agg #[.int .i64 0,.int .i64 (0),.int .i64 (0),.int .i64 (V:Nat)]) (by simp[results,Tryz.results80,go_sem,r0,r1,r2,r3]) rfl ⟨?_,?_⟩
   ·rw[HV.out];rfl
   ·exact(((HYx.out.setCell (p:=⟨w.heap.size,0,none⟩) (by simp) _).setCell (p:=⟨w.heap.size,1,none⟩) (by simp) _).setCell (p:=⟨w.heap.size,2,none⟩) (by simp) _).setCell (p:=⟨w.heap.size,3,none⟩) (by simp) _
theorem refctx_1{A:Option Addr}{n c:Nat}{h:List Nat}{w:World}(hr:Rd w A n c (ncells h))(h01:Is01 h)(i:Nat)(hi:i≤h.length)(ii:Int)(hii:ii=(i:Nat)) :
  Calls Tryz.prog 80 #[.slice A n c,.int .i64 ii,.int .i64 1] w fun e w'=>e=.returned (cval (ctx h i 1))∧Below w.heap.size w w':=by
 subst hii;have hn:=hr.len;rw[ko7] at hn;have hcap:=Reads.cap hr;have hcm:=Reads.capMax hr;unfold maxLen at hcm;obtain⟨bg,hbg⟩:∃ bg,bg=cbeg i:=⟨_,rfl⟩
 have hb1:bg≤i:=by rw[hbg];unfold cbeg;omega
 have hb2:i-bg≤7:=by rw[hbg];unfold cbeg;omega
 have HBE:=Lib.hid (show(i:Int)-(i:Int) % 8=((bg:Nat):Int) by rw[hbg];unfold cbeg;omega);have HBG:=Lib.hid hbg;have HR:=Lib.hid hr;have H01:=Lib.hid h01;have F0:=Four.new w 123 (.int .i64 0) (.int .i64 0) (.int .i64 0) (.int .i64 0);have F1:=F0.alloc (.cells #[.int .i64 1,.int .i64 0,.int .i64 0,.int .i64 1] 123);have G1:=Four.new1 w (.cells #[.int .i64 0,.int .i64 0,.int .i64 0,.int .i64 0] 123) 123 (.int .i64 1) (.int .i64 0) (.int .i64 0) (.int .i64 1);have y1:=((Below.refl w.heap.size w).alloc (Nat.le_refl _) (.cells #[.int .i64 0,.int .i64 0,.int .i64 0,.int .i64 0] 123)).alloc (by simp) (.cells #[.int .i64 1,.int .i64 0,.int .i64 0,.int .i64 1] 123);clear hbg hr h01
 go_enter Tryz.func80,Tryz.ntmps80
 go_upto_region 2 with(fail)
 rw[HBE.out]
 go_upto_region 4 with(fail)
 generalize ((w.alloc (.cells #[.int .i64 0,.int .i64 0,.int .i64 0,.int .i64 0] 123)).alloc (.cells #[.int .i64 1,.int .i64 0,.int .i64 0,.int .i64 1] 123))=w1 at F1 G1 y1 ⊢;have HF:=Lib.hid F1;have HG:=Lib.hid G1;have HY:=Lib.hid y1;clear F1 G1 y1 F0
 go_loopw [9] (fun kv wr=>∃ k:Nat,bg≤k∧k≤i∧kv=.int .i64 (k:Nat)∧Four wr w.heap.size 123 (.int .i64 0) (.int .i64 0) (.int .i64 0) (.int .i64 0)∧Four wr (w.heap.size+1) 123 (.int .i64 1) (.int .i64 0) (.int .i64 0) (.int .i64 (num (1::(h.drop bg).take (k-bg)):Nat))∧Below w.heap.size w wr) (fun kv _=>i-(intOf kv).toNat)
 case atStart=>exact⟨bg,by omega,hb1,rfl,HF.out,by rw[Nat.sub_self,List.take_zero];exact HG.out,HY.out⟩
 case round =>
  obtain⟨k,hk1,hk2,rfl,F,G,yr⟩:=hrel;have HFr:=Lib.hid F;have HGr:=Lib.hid G;have HYr:=Lib.hid yr;clear F G yr HF HG HY;by_cases hlt:k<i
  ·obtain⟨g,off,rfl,hg,hc⟩:=(HR.out.on HYr.out).2.2.2 (by omega);have hcell:=hc k _ (kv7 h k (by omega));have hx2:=H01.out k;have HST:=kgi7 (h:=h) bg k hk1 (by omega);have hvl:=kef7 H01.out bg k (by omega);obtain⟨x,hx⟩:∃ x,x=h.getD k 0:=⟨_,rfl⟩
   obtain⟨V,hV⟩:∃ V,V=num (1::(h.drop bg).take (k-bg)):=⟨_,rfl⟩
   have hgr:=HGr.out;rw[←hx] at hcell hx2 HST;rw[←hV] at HST hvl hgr;have HST2:=Lib.hid HST;have c3:=hgr.c3;have f3:=hgr.f3;have HG2:=Lib.hid hgr;clear hc hx hV HST hgr;obtain⟨V2,hV2⟩:∃ V2,V2=2*V+x:=⟨_,rfl⟩
   have HV2:=Lib.hid hV2;have HV3:=Lib.hid (show 2*(V:Int)+(x:Int)=((V2:Nat):Int) by omega);clear hV2
   go_upto_region 6 with(fail)
   go_region
   all_goals try go_wp2_with fail
   rw[HV3.out]
   go_roundw
   case rel=>exact⟨k+1,by omega,by omega,by go_num,HFr.out.far (p:=⟨w.heap.size+1,3,none⟩) (by simp) _,by rw[←HST2.out,←HV2.out];exact HG2.out.set3 _,belowD (HYr.out.setCell (p:=⟨w.heap.size+1,3,none⟩) (by simp) _)⟩
   case measure=>simp[intOf]<;>omega
  ·obtain rfl:k=i:=by omega
   have hvl:=kef7 H01.out bg k (by omega);have HGE:=Lib.hid (show num (1::(h.drop bg).take (k-bg))=mbeg h k by rw[HBG.out];rfl);have hgr:=HGr.out;rw[HGE.out] at hgr hvl;obtain⟨V,hV⟩:∃ V,V=mbeg h k:=⟨_,rfl⟩
   have HV:=Lib.hid hV;rw[←hV] at hgr hvl;have HGr:=Lib.hid hgr;clear hgr hV HGE;obtain⟨i0,hi0,hz0,hz1,hz2⟩:=info_parts kdq7;rcases(by omega:bg<8∨(8≤bg∧bg<16)∨16≤bg) with hbg|⟨hbg,hbg2⟩|hbg
   ·have hml:mlast h k=0:=by unfold mlast;rw[←HBG.out,if_neg (by omega)]
    have hmb:mbefore h k=0:=by unfold mbefore;rw[←HBG.out,if_neg (by omega)]
    have HZ:=Lib.hid hml;clear hml hmb;have HGx:=HGr;have HFx:=HFr;have HYx:=HYr;have g0:=HGx.out.c0;have g1:=HGx.out.c1;have g2:=HGx.out.c2;have g3:=HGx.out.c3;have f0:=HFx.out.f0;have f1:=HFx.out.f1;have f2:=HFx.out.f2;have f3:=HFx.out.f3;have e0:=HFx.out.c0;have e1:=HFx.out.c1;have e2:=HFx.out.c2;have e3:=HFx.out.c3
    go_wp2
    have rr:=(((HFx.out.set0 (.int .i64 1)).set1 (.int .i64 (0))).set2 (.int .i64 (0))).set3 (.int .i64 (V:Nat));have r0:=rr.c0;have r1:=rr.c1;have r2:=rr.c2;have r3:=rr.c3;refine bodyPost_ret (v:=.agg #[.int .i64 1,.int .i64 (0),.int .i64 (0),.int .i64 (V:Nat)]) (by simp[results,Tryz.results80,go_sem,r0,r1,r2,r3]) rfl ⟨?_,?_⟩
    ·rw[HV.out];unfold cval ctx;rw[if_pos (by decide),if_neg (by decide),HZ.out];rfl
    ·exact(((HYx.out.setCell (p:=⟨w.heap.size,0,none⟩) (by simp) _).setCell (p:=⟨w.heap.size,1,none⟩) (by simp) _).setCell (p:=⟨w.heap.size,2,none⟩) (by simp) _).setCell (p:=⟨w.heap.size,3,none⟩) (by simp) _
   ·obtain⟨fl,hfl⟩:∃ fl,fl=bg-8:=⟨_,rfl⟩
    obtain⟨fh,hfh⟩:∃ fh,fh=bg-0:=⟨_,rfl⟩
    have ia:(bg:Int)-8=((fl:Nat):Int):=by omega
    have ib:(bg:Int)=((fh:Nat):Int):=by omega
    have hfhl:fh-fl=8:=by omega
    obtain⟨A8,hrun,hrd⟩:=Rd.cut (P:=Tryz.prog) 41 3 i0 Tryz.underlying41 hi0 hz1 (HR.out.on HYr.out) fl fh (by omega) (by omega);rw[hfhl] at hrun hrd;rw[←ia,←ib] at hrun;obtain⟨l8,hl8⟩:∃ l8,l8=(h.drop fl).take 8:=⟨_,rfl⟩
    have h8:Is01 l8:=by rw[hl8];exact(H01.out.drop fl).take 8
    have hl8n:l8.length≤61:=by rw[hl8,List.length_take];omega
    rw[←hl8] at hrd;obtain⟨M,hM⟩:∃ M,M=num l8:=⟨_,rfl⟩
    have hML:M<256:=by
     have a:=kcy7 h8;have b:2 ^ l8.length≤2 ^ 8:=Nat.pow_le_pow_right (by decide) (by rw[hl8,List.length_take];omega);omega
    have HNUM:=Lib.hid (show Calls Tryz.prog 29 #[.slice A8 8 (c-fl)] _ _ from kbn7 hrd h8 hl8n);rw[←hM] at HNUM;have q1:=Lib.hid (show M % 32=mlast h k by
     unfold mlast;rw[←HBG.out,if_pos (by omega),hM,hl8,hfl])
    have HFL:=Lib.hid (And.intro hfl hfh);clear ia ib hfl hfh hrd hl8 h8 hM hfhl hl8n;have g1:=HGr.out.c1;have j1:=HGr.out.f1
    go_wp2_with fail
    refine HNUM.out.mono ?_;rintro e w9 ⟨rfl,rfl⟩
    go_upto_region 9 with(fail)
    have Fq1:=HFr.out.far (p:=⟨w.heap.size+1,1,none⟩) (by simp) (.int .i64 ((M:Int) % 32));have Gq1:=HGr.out.set1 (.int .i64 ((M:Int) % 32));have Yq1:=HYr.out.setCell (p:=⟨w.heap.size+1,1,none⟩) (by simp) (.int .i64 ((M:Int) % 32));generalize wr.setCell ⟨w.heap.size+1,1,none⟩ (.int .i64 ((M:Int) % 32))=wr at Fq1 Gq1 Yq1 ⊢;have q1I:=Lib.hid (show(M:Int) % 32=((mlast h k:Nat):Int) by rw[←q1.out];omega);rw[q1I.out] at Gq1;obtain⟨m1,hm1⟩:∃ m,m=mlast h k:=⟨_,rfl⟩
    rw[←hm1] at Gq1;have HM1:=Lib.hid hm1;have HFq1:=Lib.hid Fq1;have HGq1:=Lib.hid Gq1;have HYq1:=Lib.hid Yq1;clear Fq1 Gq1 Yq1 hm1 g1 j1 hrun HNUM;have HGx:=HGq1;have HFx:=HFq1;have HYx:=HYq1;have g0:=HGx.out.c0;have g1:=HGx.out.c1;have g2:=HGx.out.c2;have g3:=HGx.out.c3;have f0:=HFx.out.f0;have f1:=HFx.out.f1;have f2:=HFx.out.f2;have f3:=HFx.out.f3;have e0:=HFx.out.c0;have e1:=HFx.out.c1;have e2:=HFx.out.c2;have e3:=HFx.out.c3
    go_wp2
    have rr:=(((HFx.out.set0 (.int .i64 1)).set1 (.int .i64 ((m1:Nat)))).set2 (.int .i64 (0))).set3 (.int .i64 (V:Nat));have r0:=rr.c0;have r1:=rr.c1;have r2:=rr.c2;have r3:=rr.c3;refine bodyPost_ret (v:=.agg #[.int .i64 1,.int .i64 ((m1:Nat)),.int .i64 (0),.int .i64 (V:Nat)]) (by simp[results,Tryz.results80,go_sem,r0,r1,r2,r3]) rfl ⟨?_,?_⟩
    ·rw[HV.out,HM1.out];rfl
    ·exact(((HYx.out.setCell (p:=⟨w.heap.size,0,none⟩) (by simp) _).setCell (p:=⟨w.heap.size,1,none⟩) (by simp) _).setCell (p:=⟨w.heap.size,2,none⟩) (by simp) _).setCell (p:=⟨w.heap.size,3,none⟩) (by simp) _
   ·obtain⟨fl,hfl⟩:∃ fl,fl=bg-8:=⟨_,rfl⟩
    obtain⟨fh,hfh⟩:∃ fh,fh=bg-0:=⟨_,rfl⟩
    have ia:(bg:Int)-8=((fl:Nat):Int):=by omega
    have ib:(bg:Int)=((fh:Nat):Int):=by omega
    have hfhl:fh-fl=8:=by omega
    obtain⟨A8,hrun,hrd⟩:=Rd.cut (P:=Tryz.prog) 41 3 i0 Tryz.underlying41 hi0 hz1 (HR.out.on HYr.out) fl fh (by omega) (by omega);rw[hfhl] at hrun hrd;rw[←ia,←ib] at hrun;obtain⟨l8,hl8⟩:∃ l8,l8=(h.drop fl).take 8:=⟨_,rfl⟩
    have h8:Is01 l8:=by rw[hl8];exact(H01.out.drop fl).take 8
    have hl8n:l8.length≤61:=by rw[hl8,List.length_take];omega
    rw[←hl8] at hrd;obtain⟨M,hM⟩:∃ M,M=num l8:=⟨_,rfl⟩
    have hML:M<256:=by
     have a:=kcy7 h8;have b:2 ^ l8.length≤2 ^ 8:=Nat.pow_le_pow_right (by decide) (by rw[hl8,List.length_take];omega);omega
    have HNUM:=Lib.hid (show Calls Tryz.prog 29 #[.slice A8 8 (c-fl)] _ _ from kbn7 hrd h8 hl8n);rw[←hM] at HNUM;have q1:=Lib.hid (show M % 32=mlast h k by
     unfold mlast;rw[←HBG.out,if_pos (by omega),hM,hl8,hfl])
    have HFL:=Lib.hid (And.intro hfl hfh);clear ia ib hfl hfh hrd hl8 h8 hM hfhl hl8n;have g1:=HGr.out.c1;have j1:=HGr.out.f1
    go_wp2_with fail
    refine HNUM.out.mono ?_;rintro e w9 ⟨rfl,rfl⟩
    go_upto_region 9 with(fail)
    have Fq1:=HFr.out.far (p:=⟨w.heap.size+1,1,none⟩) (by simp) (.int .i64 ((M:Int) % 32));have Gq1:=HGr.out.set1 (.int .i64 ((M:Int) % 32));have Yq1:=HYr.out.setCell (p:=⟨w.heap.size+1,1,none⟩) (by simp) (.int .i64 ((M:Int) % 32));generalize wr.setCell ⟨w.heap.size+1,1,none⟩ (.int .i64 ((M:Int) % 32))=wr at Fq1 Gq1 Yq1 ⊢;have q1I:=Lib.hid (show(M:Int) % 32=((mlast h k:Nat):Int) by rw[←q1.out];omega);rw[q1I.out] at Gq1;obtain⟨m1,hm1⟩:∃ m,m=mlast h k:=⟨_,rfl⟩
    rw[←hm1] at Gq1;have HM1:=Lib.hid hm1;have HFq1:=Lib.hid Fq1;have HGq1:=Lib.hid Gq1;have HYq1:=Lib.hid Yq1;clear Fq1 Gq1 Yq1 hm1 g1 j1 hrun HNUM;have HGx:=HGq1;have HFx:=HFq1;have HYx:=HYq1;have g0:=HGx.out.c0;have g1:=HGx.out.c1;have g2:=HGx.out.c2;have g3:=HGx.out.c3;have f0:=HFx.out.f0;have f1:=HFx.out.f1;have f2:=HFx.out.f2;have f3:=HFx.out.f3;have e0:=HFx.out.c0;have e1:=HFx.out.c1;have e2:=HFx.out.c2;have e3:=HFx.out.c3
    go_wp2
    have rr:=(((HFx.out.set0 (.int .i64 1)).set1 (.int .i64 ((m1:Nat)))).set2 (.int .i64 (0))).set3 (.int .i64 (V:Nat));have r0:=rr.c0;have r1:=rr.c1;have r2:=rr.c2;have r3:=rr.c3;refine bodyPost_ret (v:=.agg #[.int .i64 1,.int .i64 ((m1:Nat)),.int .i64 (0),.int .i64 (V:Nat)]) (by simp[results,Tryz.results80,go_sem,r0,r1,r2,r3]) rfl ⟨?_,?_⟩
    ·rw[HV.out,HM1.out];rfl
    ·exact(((HYx.out.setCell (p:=⟨w.heap.size,0,none⟩) (by simp) _).setCell (p:=⟨w.heap.size,1,none⟩) (by simp) _).setCell (p:=⟨w.heap.size,2,none⟩) (by simp) _).setCell (p:=⟨w.heap.size,3,none⟩) (by simp) _
theorem refctx_2{A:Option Addr}{n c:Nat}{h:List Nat}{w:World}(hr:Rd w A n c (ncells h))(h01:Is01 h)(i:Nat)(hi:i≤h.length)(ii:Int)(hii:ii=(i:Nat)) :
  Calls Tryz.prog 80 #[.slice A n c,.int .i64 ii,.int .i64 2] w fun e w'=>e=.returned (cval (ctx h i 2))∧Below w.heap.size w w':=by
 subst hii;have hn:=hr.len;rw[ko7] at hn;have hcap:=Reads.cap hr;have hcm:=Reads.capMax hr;unfold maxLen at hcm;obtain⟨bg,hbg⟩:∃ bg,bg=cbeg i:=⟨_,rfl⟩
 have hb1:bg≤i:=by rw[hbg];unfold cbeg;omega
 have hb2:i-bg≤7:=by rw[hbg];unfold cbeg;omega
 have HBE:=Lib.hid (show(i:Int)-(i:Int) % 8=((bg:Nat):Int) by rw[hbg];unfold cbeg;omega);have HBG:=Lib.hid hbg;have HR:=Lib.hid hr;have H01:=Lib.hid h01;have F0:=Four.new w 123 (.int .i64 0) (.int .i64 0) (.int .i64 0) (.int .i64 0);have F1:=F0.alloc (.cells #[.int .i64 2,.int .i64 0,.int .i64 0,.int .i64 1] 123);have G1:=Four.new1 w (.cells #[.int .i64 0,.int .i64 0,.int .i64 0,.int .i64 0] 123) 123 (.int .i64 2) (.int .i64 0) (.int .i64 0) (.int .i64 1);have y1:=((Below.refl w.heap.size w).alloc (Nat.le_refl _) (.cells #[.int .i64 0,.int .i64 0,.int .i64 0,.int .i64 0] 123)).alloc (by simp) (.cells #[.int .i64 2,.int .i64 0,.int .i64 0,.int .i64 1] 123);clear hbg hr h01
 go_enter Tryz.func80,Tryz.ntmps80
 go_upto_region 2 with(fail)
 rw[HBE.out]
 go_upto_region 4 with(fail)
 generalize ((w.alloc (.cells #[.int .i64 0,.int .i64 0,.int .i64 0,.int .i64 0] 123)).alloc (.cells #[.int .i64 2,.int .i64 0,.int .i64 0,.int .i64 1] 123))=w1 at F1 G1 y1 ⊢;have HF:=Lib.hid F1;have HG:=Lib.hid G1;have HY:=Lib.hid y1;clear F1 G1 y1 F0
 go_loopw [9] (fun kv wr=>∃ k:Nat,bg≤k∧k≤i∧kv=.int .i64 (k:Nat)∧Four wr w.heap.size 123 (.int .i64 0) (.int .i64 0) (.int .i64 0) (.int .i64 0)∧Four wr (w.heap.size+1) 123 (.int .i64 2) (.int .i64 0) (.int .i64 0) (.int .i64 (num (1::(h.drop bg).take (k-bg)):Nat))∧Below w.heap.size w wr) (fun kv _=>i-(intOf kv).toNat)
 case atStart=>exact⟨bg,by omega,hb1,rfl,HF.out,by rw[Nat.sub_self,List.take_zero];exact HG.out,HY.out⟩
 case round =>
  obtain⟨k,hk1,hk2,rfl,F,G,yr⟩:=hrel;have HFr:=Lib.hid F;have HGr:=Lib.hid G;have HYr:=Lib.hid yr;clear F G yr HF HG HY;by_cases hlt:k<i
  ·obtain⟨g,off,rfl,hg,hc⟩:=(HR.out.on HYr.out).2.2.2 (by omega);have hcell:=hc k _ (kv7 h k (by omega));have hx2:=H01.out k;have HST:=kgi7 (h:=h) bg k hk1 (by omega);have hvl:=kef7 H01.out bg k (by omega);obtain⟨x,hx⟩:∃ x,x=h.getD k 0:=⟨_,rfl⟩
   obtain⟨V,hV⟩:∃ V,V=num (1::(h.drop bg).take (k-bg)):=⟨_,rfl⟩
   have hgr:=HGr.out;rw[←hx] at hcell hx2 HST;rw[←hV] at HST hvl hgr;have HST2:=Lib.hid HST;have c3:=hgr.c3;have f3:=hgr.f3;have HG2:=Lib.hid hgr;clear hc hx hV HST hgr;obtain⟨V2,hV2⟩:∃ V2,V2=2*V+x:=⟨_,rfl⟩
   have HV2:=Lib.hid hV2;have HV3:=Lib.hid (show 2*(V:Int)+(x:Int)=((V2:Nat):Int) by omega);clear hV2
   go_upto_region 6 with(fail)
   go_region
   all_goals try go_wp2_with fail
   rw[HV3.out]
   go_roundw
   case rel=>exact⟨k+1,by omega,by omega,by go_num,HFr.out.far (p:=⟨w.heap.size+1,3,none⟩) (by simp) _,by rw[←HST2.out,←HV2.out];exact HG2.out.set3 _,belowD (HYr.out.setCell (p:=⟨w.heap.size+1,3,none⟩) (by simp) _)⟩
   case measure=>simp[intOf]<;>omega
  ·obtain rfl:k=i:=by omega
   have hvl:=kef7 H01.out bg k (by omega);have HGE:=Lib.hid (show num (1::(h.drop bg).take (k-bg))=mbeg h k by rw[HBG.out];rfl);have hgr:=HGr.out;rw[HGE.out] at hgr hvl;obtain⟨V,hV⟩:∃ V,V=mbeg h k:=⟨_,rfl⟩
   have HV:=Lib.hid hV;rw[←hV] at hgr hvl;have HGr:=Lib.hid hgr;clear hgr hV HGE;obtain⟨i0,hi0,hz0,hz1,hz2⟩:=info_parts kdq7;rcases(by omega:bg<8∨(8≤bg∧bg<16)∨16≤bg) with hbg|⟨hbg,hbg2⟩|hbg
   ·have hml:mlast h k=0:=by unfold mlast;rw[←HBG.out,if_neg (by omega)]
    have hmb:mbefore h k=0:=by unfold mbefore;rw[←HBG.out,if_neg (by omega)]
    have HZ:=Lib.hid hml;have HZ2:=Lib.hid hmb;clear hml hmb;have HGx:=HGr;have HFx:=HFr;have HYx:=HYr;have g0:=HGx.out.c0;have g1:=HGx.out.c1;have g2:=HGx.out.c2;have g3:=HGx.out.c3;have f0:=HFx.out.f0;have f1:=HFx.out.f1;have f2:=HFx.out.f2;have f3:=HFx.out.f3;have e0:=HFx.out.c0;have e1:=HFx.out.c1;have e2:=HFx.out.c2;have e3:=HFx.out.c3
    go_wp2
    have rr:=(((HFx.out.set0 (.int .i64 2)).set1 (.int .i64 (0))).set2 (.int .i64 (0))).set3 (.int .i64 (V:Nat));have r0:=rr.c0;have r1:=rr.c1;have r2:=rr.c2;have r3:=rr.c3;refine bodyPost_ret (v:=.agg #[.int .i64 2,.int .i64 (0),.int .i64 (0),.int .i64 (V:Nat)]) (by simp[results,Tryz.results80,go_sem,r0,r1,r2,r3]) rfl ⟨?_,?_⟩
    ·rw[HV.out];unfold cval ctx;rw[if_pos (by decide),if_pos (by decide),HZ.out,HZ2.out];rfl
    ·exact(((HYx.out.setCell (p:=⟨w.heap.size,0,none⟩) (by simp) _).setCell (p:=⟨w.heap.size,1,none⟩) (by simp) _).setCell (p:=⟨w.heap.size,2,none⟩) (by simp) _).setCell (p:=⟨w.heap.size,3,none⟩) (by simp) _
   ·have hmb:mbefore h k=0:=by unfold mbefore;rw[←HBG.out,if_neg (by omega)]
    have HZ:=Lib.hid hmb;clear hmb;obtain⟨fl,hfl⟩:∃ fl,fl=bg-8:=⟨_,rfl⟩
    obtain⟨fh,hfh⟩:∃ fh,fh=bg-0:=⟨_,rfl⟩
    have ia:(bg:Int)-8=((fl:Nat):Int):=by omega
    have ib:(bg:Int)=((fh:Nat):Int):=by omega
    have hfhl:fh-fl=8:=by omega
    obtain⟨A8,hrun,hrd⟩:=Rd.cut (P:=Tryz.prog) 41 3 i0 Tryz.underlying41 hi0 hz1 (HR.out.on HYr.out) fl fh (by omega) (by omega);rw[hfhl] at hrun hrd;rw[←ia,←ib] at hrun;obtain⟨l8,hl8⟩:∃ l8,l8=(h.drop fl).take 8:=⟨_,rfl⟩
    have h8:Is01 l8:=by rw[hl8];exact(H01.out.drop fl).take 8
    have hl8n:l8.length≤61:=by rw[hl8,List.length_take];omega
    rw[←hl8] at hrd;obtain⟨M,hM⟩:∃ M,M=num l8:=⟨_,rfl⟩
    have hML:M<256:=by
     have a:=kcy7 h8;have b:2 ^ l8.length≤2 ^ 8:=Nat.pow_le_pow_right (by decide) (by rw[hl8,List.length_take];omega);omega
    have HNUM:=Lib.hid (show Calls Tryz.prog 29 #[.slice A8 8 (c-fl)] _ _ from kbn7 hrd h8 hl8n);rw[←hM] at HNUM;have q1:=Lib.hid (show M % 32=mlast h k by
     unfold mlast;rw[←HBG.out,if_pos (by omega),hM,hl8,hfl])
    have HFL:=Lib.hid (And.intro hfl hfh);clear ia ib hfl hfh hrd hl8 h8 hM hfhl hl8n;have g1:=HGr.out.c1;have j1:=HGr.out.f1
    go_wp2_with fail
    refine HNUM.out.mono ?_;rintro e w9 ⟨rfl,rfl⟩
    go_upto_region 9 with(fail)
    have Fq1:=HFr.out.far (p:=⟨w.heap.size+1,1,none⟩) (by simp) (.int .i64 ((M:Int) % 32));have Gq1:=HGr.out.set1 (.int .i64 ((M:Int) % 32));have Yq1:=HYr.out.setCell (p:=⟨w.heap.size+1,1,none⟩) (by simp) (.int .i64 ((M:Int) % 32));generalize wr.setCell ⟨w.heap.size+1,1,none⟩ (.int .i64 ((M:Int) % 32))=wr at Fq1 Gq1 Yq1 ⊢;have q1I:=Lib.hid (show(M:Int) % 32=((mlast h k:Nat):Int) by rw[←q1.out];omega);rw[q1I.out] at Gq1;obtain⟨m1,hm1⟩:∃ m,m=mlast h k:=⟨_,rfl⟩
    rw[←hm1] at Gq1;have HM1:=Lib.hid hm1;have HFq1:=Lib.hid Fq1;have HGq1:=Lib.hid Gq1;have HYq1:=Lib.hid Yq1;clear Fq1 Gq1 Yq1 hm1 g1 j1 hrun HNUM;have HGx:=HGq1;have HFx:=HFq1;have HYx:=HYq1;have g0:=HGx.out.c0;have g1:=HGx.out.c1;have g2:=HGx.out.c2;have g3:=HGx.out.c3;have f0:=HFx.out.f0;have f1:=HFx.out.f1;have f2:=HFx.out.f2;have f3:=HFx.out.f3;have e0:=HFx.out.c0;have e1:=HFx.out.c1;have e2:=HFx.out.c2;have e3:=HFx.out.c3
    go_wp2
    have rr:=(((HFx.out.set0 (.int .i64 2)).set1 (.int .i64 ((m1:Nat)))).set2 (.int .i64 (0))).set3 (.int .i64 (V:Nat));have r0:=rr.c0;have r1:=rr.c1;have r2:=rr.c2;have r3:=rr.c3;refine bodyPost_ret (v:=.agg #[.int .i64 2,.int .i64 ((m1:Nat)),.int .i64 (0),.int .i64 (V:Nat)]) (by simp[results,Tryz.results80,go_sem,r0,r1,r2,r3]) rfl ⟨?_,?_⟩
    ·rw[HV.out,HM1.out];unfold cval ctx;rw[if_pos (by decide),if_pos (by decide),HZ.out];rfl
    ·exact(((HYx.out.setCell (p:=⟨w.heap.size,0,none⟩) (by simp) _).setCell (p:=⟨w.heap.size,1,none⟩) (by simp) _).setCell (p:=⟨w.heap.size,2,none⟩) (by simp) _).setCell (p:=⟨w.heap.size,3,none⟩) (by simp) _
   ·obtain⟨fl,hfl⟩:∃ fl,fl=bg-8:=⟨_,rfl⟩
    obtain⟨fh,hfh⟩:∃ fh,fh=bg-0:=⟨_,rfl⟩
    have ia:(bg:Int)-8=((fl:Nat):Int):=by omega
    have ib:(bg:Int)=((fh:Nat):Int):=by omega
    have hfhl:fh-fl=8:=by omega
    obtain⟨A8,hrun,hrd⟩:=Rd.cut (P:=Tryz.prog) 41 3 i0 Tryz.underlying41 hi0 hz1 (HR.out.on HYr.out) fl fh (by omega) (by omega);rw[hfhl] at hrun hrd;rw[←ia,←ib] at hrun;obtain⟨l8,hl8⟩:∃ l8,l8=(h.drop fl).take 8:=⟨_,rfl⟩
    have h8:Is01 l8:=by rw[hl8];exact(H01.out.drop fl).take 8
    have hl8n:l8.length≤61:=by rw[hl8,List.length_take];omega
    rw[←hl8] at hrd;obtain⟨M,hM⟩:∃ M,M=num l8:=⟨_,rfl⟩
    have hML:M<256:=by
     have a:=kcy7 h8;have b:2 ^ l8.length≤2 ^ 8:=Nat.pow_le_pow_right (by decide) (by rw[hl8,List.length_take];omega);omega
    have HNUM:=Lib.hid (show Calls Tryz.prog 29 #[.slice A8 8 (c-fl)] _ _ from kbn7 hrd h8 hl8n);rw[←hM] at HNUM;have q1:=Lib.hid (show M % 32=mlast h k by
     unfold mlast;rw[←HBG.out,if_pos (by omega),hM,hl8,hfl])
    have HFL:=Lib.hid (And.intro hfl hfh);clear ia ib hfl hfh hrd hl8 h8 hM hfhl hl8n;have g1:=HGr.out.c1;have j1:=HGr.out.f1
    go_wp2_with fail
    refine HNUM.out.mono ?_;rintro e w9 ⟨rfl,rfl⟩
    go_upto_region 9 with(fail)
    have Fq1:=HFr.out.far (p:=⟨w.heap.size+1,1,none⟩) (by simp) (.int .i64 ((M:Int) % 32));have Gq1:=HGr.out.set1 (.int .i64 ((M:Int) % 32));have Yq1:=HYr.out.setCell (p:=⟨w.heap.size+1,1,none⟩) (by simp) (.int .i64 ((M:Int) % 32));generalize wr.setCell ⟨w.heap.size+1,1,none⟩ (.int .i64 ((M:Int) % 32))=wr at Fq1 Gq1 Yq1 ⊢;have q1I:=Lib.hid (show(M:Int) % 32=((mlast h k:Nat):Int) by rw[←q1.out];omega);rw[q1I.out] at Gq1;obtain⟨m1,hm1⟩:∃ m,m=mlast h k:=⟨_,rfl⟩
    rw[←hm1] at Gq1;have HM1:=Lib.hid hm1;have HFq1:=Lib.hid Fq1;have HGq1:=Lib.hid Gq1;have HYq1:=Lib.hid Yq1;clear Fq1 Gq1 Yq1 hm1 g1 j1 hrun HNUM;obtain⟨fl,hfl⟩:∃ fl,fl=bg-16:=⟨_,rfl⟩
    obtain⟨fh,hfh⟩:∃ fh,fh=bg-8:=⟨_,rfl⟩
    have ia:(bg:Int)-16=((fl:Nat):Int):=by omega
    have ib:((bg:Int)-8)=((fh:Nat):Int):=by omega
    have hfhl:fh-fl=8:=by omega
    obtain⟨A8,hrun,hrd⟩:=Rd.cut (P:=Tryz.prog) 41 3 i0 Tryz.underlying41 hi0 hz1 (HR.out.on HYq1.out) fl fh (by omega) (by omega);rw[hfhl] at hrun hrd;rw[←ia,←ib] at hrun;obtain⟨l8,hl8⟩:∃ l8,l8=(h.drop fl).take 8:=⟨_,rfl⟩
    have h8:Is01 l8:=by rw[hl8];exact(H01.out.drop fl).take 8
    have hl8n:l8.length≤61:=by rw[hl8,List.length_take];omega
    rw[←hl8] at hrd;obtain⟨M,hM⟩:∃ M,M=num l8:=⟨_,rfl⟩
    have hML:M<256:=by
     have a:=kcy7 h8;have b:2 ^ l8.length≤2 ^ 8:=Nat.pow_le_pow_right (by decide) (by rw[hl8,List.length_take];omega);omega
    have HNUM:=Lib.hid (show Calls Tryz.prog 29 #[.slice A8 8 (c-fl)] _ _ from kbn7 hrd h8 hl8n);rw[←hM] at HNUM;have q2:=Lib.hid (show M % 32=mbefore h k by
     unfold mbefore;rw[←HBG.out,if_pos (by omega),hM,hl8,hfl])
    have HFL:=Lib.hid (And.intro hfl hfh);clear ia ib hfl hfh hrd hl8 h8 hM hfhl hl8n;have g2:=HGq1.out.c2;have j2:=HGq1.out.f2
    go_wp2_with fail
    refine HNUM.out.mono ?_;rintro e w9 ⟨rfl,rfl⟩
    go_upto_region 11 with(fail)
    have Fq2:=HFq1.out.far (p:=⟨w.heap.size+1,2,none⟩) (by simp) (.int .i64 ((M:Int) % 32));have Gq2:=HGq1.out.set2 (.int .i64 ((M:Int) % 32));have Yq2:=HYq1.out.setCell (p:=⟨w.heap.size+1,2,none⟩) (by simp) (.int .i64 ((M:Int) % 32));generalize wr.setCell ⟨w.heap.size+1,2,none⟩ (.int .i64 ((M:Int) % 32))=wr at Fq2 Gq2 Yq2 ⊢;have q2I:=Lib.hid (show(M:Int) % 32=((mbefore h k:Nat):Int) by rw[←q2.out];omega);rw[q2I.out] at Gq2;obtain⟨m2,hm2⟩:∃ m,m=mbefore h k:=⟨_,rfl⟩
    rw[←hm2] at Gq2;have HM2:=Lib.hid hm2;have HFq2:=Lib.hid Fq2;have HGq2:=Lib.hid Gq2;have HYq2:=Lib.hid Yq2;clear Fq2 Gq2 Yq2 hm2 g2 j2 hrun HNUM;have HGx:=HGq2;have HFx:=HFq2;have HYx:=HYq2;have g0:=HGx.out.c0;have g1:=HGx.out.c1;have g2:=HGx.out.c2;have g3:=HGx.out.c3;have f0:=HFx.out.f0;have f1:=HFx.out.f1;have f2:=HFx.out.f2;have f3:=HFx.out.f3;have e0:=HFx.out.c0;have e1:=HFx.out.c1;have e2:=HFx.out.c2;have e3:=HFx.out.c3
    go_wp2
    have rr:=(((HFx.out.set0 (.int .i64 2)).set1 (.int .i64 ((m1:Nat)))).set2 (.int .i64 ((m2:Nat)))).set3 (.int .i64 (V:Nat));have r0:=rr.c0;have r1:=rr.c1;have r2:=rr.c2;have r3:=rr.c3;refine bodyPost_ret (v:=.agg #[.int .i64 2,.int .i64 ((m1:Nat)),.int .i64 ((m2:Nat)),.int .i64 (V:Nat)]) (by simp[results,Tryz.results80,go_sem,r0,r1,r2,r3]) rfl ⟨?_,?_⟩
    ·rw[HV.out,HM1.out,HM2.out];rfl
    ·exact(((HYx.out.setCell (p:=⟨w.heap.size,0,none⟩) (by simp) _).setCell (p:=⟨w.heap.size,1,none⟩) (by simp) _).setCell (p:=⟨w.heap.size,2,none⟩) (by simp) _).setCell (p:=⟨w.heap.size,3,none⟩) (by simp) _
theorem refctx_any{A:Option Addr}{n c:Nat}{h:List Nat}{w:World}(hr:Rd w A n c (ncells h))(h01:Is01 h)(i o:Nat)(hi:i≤h.length)(ho:o≤2)(ii oi:Int)(hii:ii=(i:Nat))(hoi:oi=(o:Nat)) :
  Calls Tryz.prog 80 #[.slice A n c,.int .i64 ii,.int .i64 oi] w fun e w'=>e=.returned (cval (ctx h i o))∧Below w.heap.size w w':=by
 subst hoi;rcases(by omega:o=0∨o=1∨o=2) with rfl|rfl|rfl
 ·exact refctx_0 hr h01 i hi ii hii
 ·exact refctx_1 hr h01 i hi ii hii
 ·exact refctx_2 hr h01 i hi ii hii
theorem ctx_small{h:List Nat}(h01:Is01 h)(i o:Nat)(hi:i≤h.length)(ho:o≤2):CtxOk (ctx h i o):=by
 have a:=mlast_lt h i;have b:=kit7 h i;have c:=(kfv7 h01 i hi).2;unfold CtxOk ctx;dsimp only;refine⟨by omega,?_,?_,c⟩
 ·split<;>omega
 ·split<;>omega
theorem arr_row:(123:TypeId)<Tryz.prog.types.size:=of_decide_eq_true (by kernel_rfl)
theorem arr_law:Go.Maps.Keyed Tryz.prog 123 :=
 Go.Maps.Keyed.of_law (deep_law_laid laid_out (m:=2) (by omega) arr_row (by kernel_rfl) (by kernel_rfl))
theorem arr_cells:Tryz.prog.cellsOf 123=4:=by kernel_rfl
theorem arr_kt:Tryz.prog.keyType 123=true:=by kernel_rfl
theorem key4_any{c:Ctx}(h:CtxOk c):∃ l,keyOf Tryz.prog 123 (cval c)=some l:=by
 obtain⟨ha,hb,hc,hd⟩:=h;have key:∀ x:Nat,x<256→(Lit.int .i64 (x:Nat)).wf=true:=by
  intro x hx;exact WalkArith.wf_i64 (by omega)
 have k1:=key _ ha;have k2:=key _ hb;have k3:=key _ hc;have k4:=key _ hd;obtain⟨m,hm⟩:∃ m,Tryz.prog.types.size=m+1:=⟨_,Tryz.types_size⟩
 unfold keyOf;simp only[Tryz.underlying123];rw[if_pos (by simp[arr_kt,Value.formed,cval,Tryz.underlying123,arr_cells]),hm];unfold Program.keyLits;simp only[Tryz.underlying123,cval,Value.cells,arr_cells,khi7];rw[show List.range 4=[0,1,2,3] from rfl];simp[Program.keyLits,Tryz.underlying3,khi7,k1,k2,k3,k4]
theorem ctx_guard(x y:Ctx)(W:World)(o1 o2:Operand):(eqGuard .neq 123 o1 o2 (cval x) (cval y)).run Tryz.prog W=.ok () W :=
 run_eqGuard_agg W .neq 123 o1 o2 _ _ (by kernel_rfl)
theorem ctx_neq{x y:Ctx}(hx:CtxOk x)(hy:CtxOk y)(W:World)(b:Bool)(hb:b=decide (x≠y)):(binOp .neq 123 (cval x) (cval y)).run Tryz.prog W=.ok (.bool b) W:=by
 obtain⟨lx,hlx⟩:=key4_any hx;obtain⟨ly,hly⟩:=key4_any hy;obtain⟨r,hr,hrr⟩:=run_equal_deep (P:=Tryz.prog) W (m:=2) (by omega) (k:=123) (by kernel_rfl) (by kernel_rfl) hlx hly;have e:r=decide (x=y):=by
  by_cases h:x=y
  ·subst h;rw[hlx] at hly;cases hly;rw[hrr.2 rfl];simp
  ·have:¬r=true:=fun hh=>h (cval_inj (arr_law.inj hlx ((hrr.1 hh) ▸ hly)));simp[h,this]
 rw[hb];simp only[cval] at hr ⊢;simp[binOp,hr,e,go_sem]
theorem counts_any{A:Option Addr}{n c:Nat}{h:List Nat}{w:World}(hr:Rd w A n c (ncells h))(h01:Is01 h)(i o:Nat)(hi:i≤h.length)(hi2:i≤100000)(ho:o≤2)(ii oi:Int)(hii:ii=(i:Nat))(hoi:oi=(o:Nat)) :
  Calls Tryz.prog 70 #[.slice A n c,.int .i64 ii,.int .i64 oi] w fun e w'=>e=.returned (.tuple #[.int .i64 ((hcnt h i o).1:Nat),.int .i64 ((hcnt h i o).2:Nat)])∧Below w.heap.size w w':=by
 subst hii hoi;have hn:=hr.len;rw[ko7] at hn;have hcap:=Reads.cap hr;have hcm:=Reads.capMax hr;unfold maxLen at hcm;have HR:=Lib.hid hr;have H01:=Lib.hid h01;have HC0:=Lib.hid (refctx_any hr h01 i o hi ho _ _ rfl rfl);obtain⟨X,hX⟩:∃ X,X=ctx h i o:=⟨_,rfl⟩
 have hXok:CtxOk X:=by
  rw[hX];exact ctx_small h01 i o hi ho
 rw[←hX] at HC0;have HE:=Lib.hid (show hcnt h i o=cnts h o X i by rw[hX];rfl);have HXO:=Lib.hid hXok;obtain⟨x1,x2,x3,x4⟩:=X;rw[HE.out];clear hr h01 hX hXok
 go_enter Tryz.func70,Tryz.ntmps70
 go_wp2_with fail
 refine HC0.out.mono ?_;rintro e w1 ⟨rfl,y1⟩;have HY1:=Lib.hid y1;clear y1;unfold cval;have G0:=Four.new w1 123 (.int .i64 (x1:Nat)) (.int .i64 (x2:Nat)) (.int .i64 (x3:Nat)) (.int .i64 (x4:Nat));have y2:=HY1.out.alloc HY1.out.size (.cells #[.int .i64 (x1:Nat),.int .i64 (x2:Nat),.int .i64 (x3:Nat),.int .i64 (x4:Nat)] 123)
 go_upto_region 4 with(fail)
 obtain⟨hb,hhb⟩:∃ hb,hb=w1.heap.size:=⟨_,rfl⟩
 rw[←hhb] at G0 ⊢;generalize w1.alloc (.cells #[.int .i64 (x1:Nat),.int .i64 (x2:Nat),.int .i64 (x3:Nat),.int .i64 (x4:Nat)] 123)=w2 at G0 y2 ⊢;have HG0:=Lib.hid G0;have HY2:=Lib.hid y2;clear G0 y2 hhb HY1
 go_loopw [9,10,11] (fun zv ov kv wr=>∃ (k z p:Nat),k≤i∧kv=.int .i64 (k:Nat)∧zv=.int .i64 (z:Nat)∧ov=.int .i64 (p:Nat)∧cnts h o (x1,x2,x3,x4) k=(z,p)∧Four wr hb 123 (.int .i64 (x1:Nat)) (.int .i64 (x2:Nat)) (.int .i64 (x3:Nat)) (.int .i64 (x4:Nat))∧Below w.heap.size w wr) (fun _ _ kv _=>i-(intOf kv).toNat)
 case atStart=>exact⟨0,0,0,Nat.zero_le _,rfl,rfl,rfl,rfl,HG0.out,HY2.out⟩
 case round =>
  obtain⟨k,z,p,hk,rfl,rfl,rfl,hzp,G,yr⟩:=hrel;have hle:=cnts_le h o (x1,x2,x3,x4) k;rw[hzp] at hle;dsimp only at hle;have HZP:=Lib.hid hzp;have HG:=Lib.hid G;have HY:=Lib.hid yr;have g0:=G.c0;have g1:=G.c1;have g2:=G.c2;have g3:=G.c3;clear hzp G yr HG0 HY2;by_cases hlt:k<i
  ·obtain⟨Y,hY⟩:∃ Y,Y=ctx h k o:=⟨_,rfl⟩
   have hYok:CtxOk Y:=by rw[hY];exact ctx_small H01.out k o (by omega) ho
   have HCK:=Lib.hid (fun W (hW:Rd W A n c (ncells h))=>refctx_any hW H01.out k o (by omega) ho _ _ rfl rfl);rw[←hY] at HCK;obtain⟨b,hb'⟩:∃ b,b=decide (Y≠(x1,x2,x3,x4)):=⟨_,rfl⟩
   have hneq:=fun W=>ctx_neq hYok HXO.out W b hb';unfold cval at hneq;have hneq':∀ W,(binOp .neq 123 (cval Y) (.agg #[.int .i64 (x1:Nat),.int .i64 (x2:Nat),.int .i64 (x3:Nat),.int .i64 (x4:Nat)])).run Tryz.prog W=.ok (.bool b) W:=hneq;have hgd:∀ W o1 o2,(eqGuard .neq 123 o1 o2 (cval Y) (.agg #[.int .i64 (x1:Nat),.int .i64 (x2:Nat),.int .i64 (x3:Nat),.int .i64 (x4:Nat)])).run Tryz.prog W=.ok () W:=fun W o1 o2=>ctx_guard Y (x1,x2,x3,x4) W o1 o2;clear hneq;have HYY:=Lib.hid hY;have HB:=Lib.hid hb';clear hY hb' hYok;have HRW:=Lib.hid ((HR.out.on HY.out).drew);cases b
   ·go_upto_region 6 with(fail)
    go_region_held3 (fun w'=>w'.cell? ⟨hb,0,none⟩=some (.int .i64 (x1:Nat))∧w'.cell? ⟨hb,1,none⟩=some (.int .i64 (x2:Nat))∧w'.cell? ⟨hb,2,none⟩=some (.int .i64 (x3:Nat))∧w'.cell? ⟨hb,3,none⟩=some (.int .i64 (x4:Nat))) (go_keep) ((go_at_call 80;refine(HCK.out _ HRW.out).mono ?_;rintro e w5 ⟨rfl,y5⟩;have G5:=Lib.hid ((Four.drew HG.out).on y5);have e0:=G5.out.c0;have e1:=G5.out.c1;have e2:=G5.out.c2;have e3:=G5.out.c3;have Y5:=Lib.hid ((belowD HY.out).trans (y5.mono (belowD HY.out).size));clear y5))
    have HYX:=Lib.hid (show ctx h k o=(x1,x2,x3,x4) by have:=HB.out;rw[←HYY.out];simpa using this.symm);clear g0 g1 g2 g3 e0 e1 e2 e3;obtain⟨g,off,rfl,hg,hc⟩:=(HR.out.on Y5.out).2.2.2 (by omega);have hcell:=hc k _ (kv7 h k (by omega));have hx2:=H01.out k;obtain⟨x,hx⟩:∃ x,x=h.getD k 0:=⟨_,rfl⟩
    rw[←hx] at hcell hx2;have HXX:=Lib.hid hx;clear hc hx;rcases(by omega:x=0∨x=1) with rfl|rfl
    ·clear hx2;rcases(by omega:z+p<254∨z+p=254) with hsm|hbig
     ·have HU:=Lib.hid (show cnts h o (x1,x2,x3,x4) (k+1)=(z+1,p) by
       rw[cnts,if_pos HYX.out,HZP.out,←HXX.out];unfold upd halve;rw[if_neg (by decide),if_neg (by dsimp only;omega)])
      go_wp2_with fail
      go_roundw
      case rel=>exact⟨k+1,z+1,p,by omega,by go_num,by go_num,by go_num,HU.out,G5.out,Y5.out⟩
      case measure=>simp[intOf]<;>omega
     ·have HU:=Lib.hid (show cnts h o (x1,x2,x3,x4) (k+1)=((z+2) / 2,(p+1) / 2) by
       rw[cnts,if_pos HYX.out,HZP.out,←HXX.out];unfold upd halve;rw[if_neg (by decide),if_pos (by dsimp only;omega)])
      have ht:(z:Int)+1+(p:Int)=255:=by omega
      go_wp2_with fail
      go_roundw
      case rel=>exact⟨k+1,(z+2) / 2,(p+1) / 2,by omega,by go_num,by congr 1;omega,by congr 1;omega,HU.out,G5.out,Y5.out⟩
      case measure=>simp[intOf]<;>omega
    ·clear hx2;rcases(by omega:z+p<254∨z+p=254) with hsm|hbig
     ·have HU:=Lib.hid (show cnts h o (x1,x2,x3,x4) (k+1)=(z,p+1) by
       rw[cnts,if_pos HYX.out,HZP.out,←HXX.out];unfold upd halve;rw[if_pos rfl,if_neg (by dsimp only;omega)])
      go_wp2_with fail
      go_roundw
      case rel=>exact⟨k+1,z,p+1,by omega,by go_num,by go_num,by go_num,HU.out,G5.out,Y5.out⟩
      case measure=>simp[intOf]<;>omega
     ·have HU:=Lib.hid (show cnts h o (x1,x2,x3,x4) (k+1)=((z+1) / 2,(p+2) / 2) by
       rw[cnts,if_pos HYX.out,HZP.out,←HXX.out];unfold upd halve;rw[if_pos rfl,if_pos (by dsimp only;omega)])
      have ht:(z:Int)+((p:Int)+1)=255:=by omega
      go_wp2_with fail
      go_roundw
      case rel=>exact⟨k+1,(z+1) / 2,(p+2) / 2,by omega,by go_num,by congr 1;omega,by congr 1;omega,HU.out,G5.out,Y5.out⟩
      case measure=>simp[intOf]<;>omega
   ·go_upto_region 6 with(fail)
    go_region_held3 (fun w'=>w'.cell? ⟨hb,0,none⟩=some (.int .i64 (x1:Nat))∧w'.cell? ⟨hb,1,none⟩=some (.int .i64 (x2:Nat))∧w'.cell? ⟨hb,2,none⟩=some (.int .i64 (x3:Nat))∧w'.cell? ⟨hb,3,none⟩=some (.int .i64 (x4:Nat))) (go_keep) ((go_at_call 80;refine(HCK.out _ HRW.out).mono ?_;rintro e w5 ⟨rfl,y5⟩;have G5:=Lib.hid ((Four.drew HG.out).on y5);have e0:=G5.out.c0;have e1:=G5.out.c1;have e2:=G5.out.c2;have e3:=G5.out.c3;have Y5:=Lib.hid ((belowD HY.out).trans (y5.mono (belowD HY.out).size));clear y5))
    clear g0 g1 g2 g3 e0 e1 e2 e3
    go_wp2_with fail
    go_roundw
    case rel=>exact⟨k+1,z,p,by omega,by go_num,rfl,rfl,by rw[cnts,if_neg (by have:=HB.out;rw[HYY.out] at this;simpa using this.symm),HZP.out],G5.out,Y5.out⟩
    case measure=>simp[intOf]<;>omega
  ·obtain rfl:k=i:=by omega
   clear g0 g1 g2 g3
   go_wp2
   go_ret2
   exact⟨by rw[HZP.out];rfl,HY.out⟩
theorem predicted_any{A:Option Addr}{n c:Nat}{h:List Nat}{w:World}(hr:Rd w A n c (ncells h))(h01:Is01 h)(i ord:Nat)(hi:i≤h.length)(hi2:i≤100000)(ho:ord≤2)(ii oi:Int)(hii:ii=(i:Nat))(hoi:oi=(ord:Nat)) :
  Calls Tryz.prog 38 #[.slice A n c,.int .i64 ii,.int .i64 oi] w fun e w'=>e=.returned (.int .i64 (predv h i ord:Nat))∧Below w.heap.size w w':=by
 subst hii hoi;have HR:=Lib.hid hr;have H01:=Lib.hid h01;clear hr h01
 go_enter Tryz.func38,Tryz.ntmps38
 go_wp2_with fail
 go_loopw [7,8,9,10] (fun sv wv cv kv wr=>∃ (k S1 W1 sc:Nat),k≤ord+1∧kv=.int .i64 (k:Nat)∧sv=.int .i64 (S1:Nat)∧wv=.int .i64 (W1:Nat)∧cv=.int .i64 (sc:Nat)∧sc=4 ^ k∧pacc2 h i k=(S1,W1)∧1≤W1∧W1≤1+240*k∧S1≤2048+1000000*k∧Below w.heap.size w wr) (fun _ _ _ kv _=>ord+1-(intOf kv).toNat)
 case atStart=>exact⟨0,2048,1,1,by omega,rfl,rfl,rfl,rfl,rfl,rfl,by omega,by omega,by omega,Below.refl _ _⟩
 case round =>
  obtain⟨k,S1,W1,sc,hk,rfl,rfl,rfl,rfl,hsc,hacc,hw1,hw2,hs1,yr⟩:=hrel;have HA:=Lib.hid hacc;have HSC:=Lib.hid hsc;have HY:=Lib.hid yr;clear hacc hsc yr;by_cases hlt:k<ord+1
  ·have HC:=Lib.hid (counts_any (HR.out.on HY.out) H01.out i k hi hi2 (by omega) (i:Nat) (k:Nat) rfl rfl);have hcl:=cnts_le h k (ctx h i k) i;have HST:=Lib.hid (show pacc2 h i (k+1)=(S1+wgt (hcnt h i k) k*mshare (hcnt h i k),W1+wgt (hcnt h i k) k) by rw[pacc2,HA.out]);obtain⟨z,on,hzo⟩:∃ z on,hcnt h i k=(z,on):=⟨_,_,rfl⟩
   rw[show cnts h k (ctx h i k) i=hcnt h i k from rfl,hzo] at hcl;rw[hzo] at HST HC;dsimp only at hcl HC;clear hzo;obtain⟨hsh1,hsh2⟩:=khh7 (k:=(z,on)) hcl;have hws:=wgt_le (z,on) (o:=k) (by omega);have HWG:=Lib.hid (show wgt (z,on) k=min (z+on) 15*sc by rw[HSC.out];rfl);have HSH:=Lib.hid (show(2*(on:Int)+1)*2048 / ((z:Int)+(on:Int)+1)=((mshare (z,on):Nat):Int) by unfold mshare;simp);obtain⟨sh,hshd⟩:∃ sh,sh=mshare (z,on):=⟨_,rfl⟩
   obtain⟨ww,hwwd⟩:∃ ww,ww=wgt (z,on) k:=⟨_,rfl⟩
   rw[←hshd] at hsh1 hsh2 HST HSH;rw[←hwwd] at hws HST HWG;clear hshd hwwd;have hsw:ww*sh≤240*4087:=Nat.mul_le_mul hws hsh2;have hsw1:(ww:Int)*(sh:Int)=((ww*sh:Nat):Int):=by push_cast;rfl
   obtain⟨ws,hwsd⟩:∃ ws,ws=ww*sh:=⟨_,rfl⟩
   rw[←hwsd] at hsw hsw1 HST;have HSW:=Lib.hid hsw1;clear hwsd hsw1
   go_wp2_with fail
   refine HC.out.mono ?_;rintro e w5 ⟨rfl,y5⟩;have HY5:=Lib.hid (HY.out.trans (y5.mono HY.out.size));clear y5
   go_upto_region 9 with(fail)
   obtain⟨nn,hnn⟩:∃ nn,nn=z+on:=⟨_,rfl⟩
   have HNN:=Lib.hid (show(z:Int)+(on:Int)=((nn:Nat):Int) by omega);rw[HNN.out];rw[←hnn] at hcl HWG;have hlt2:on≤nn:=by omega
   rw[HNN.out] at HSH;clear hnn HNN;have hsc16:sc≤16:=by
    have e:=HSC.out;rcases(by omega:k=0∨k=1∨k=2) with r|r|r<;>(rw[r] at e;omega)
   have hm1:IntKind.i64.wrap ((ww:Int)*((2*(on:Int)+1)*2048 / ((nn:Int)+1)))=(ws:Int):=by
    rw[HSH.out,HSW.out];exact IntWalk.i64_in _ (by omega)
   rcases(by omega:nn≤15∨15<nn) with hn15|hn15
   ·have hwe:=HWG.out;rw[Nat.min_eq_left hn15] at hwe;have hm2:IntKind.i64.wrap ((nn:Int)*(sc:Int))=(ww:Int):=by
     rw[show(nn:Int)*(sc:Int)=((nn*sc:Nat):Int) by push_cast;rfl,←hwe];exact IntWalk.i64_in _ (by omega)
    clear hwe
    go_wp2_with fail
    go_roundw
    case rel=>exact⟨k+1,S1+ws,W1+ww,4*sc,by omega,by go_num,by go_num,by go_num,by go_num,by rw[HSC.out,Nat.pow_succ,Nat.mul_comm],HST.out,by omega,by omega,by omega,HY5.out⟩
    case measure=>simp[intOf]<;>omega
   ·have hwe:=HWG.out;rw[Nat.min_eq_right (by omega)] at hwe;have HW:=Lib.hid (show 15*(sc:Int)=((ww:Nat):Int) by omega);clear hwe
    go_upto_region 12 with(fail)
    rw[HW.out]
    go_wp2_with fail
    go_roundw
    case rel=>exact⟨k+1,S1+ws,W1+ww,4*sc,by omega,by go_num,by go_num,by go_num,by go_num,by rw[HSC.out,Nat.pow_succ,Nat.mul_comm],HST.out,by omega,by omega,by omega,HY5.out⟩
    case measure=>simp[intOf]<;>omega
  ·obtain rfl:k=ord+1:=by omega
   have HV:=Lib.hid (show predv h i ord=S1 / W1 by unfold predv;rw[HA.out]);have hle:S1 / W1≤S1:=Nat.div_le_self _ _;obtain⟨V,hVd⟩:∃ V,V=predv h i ord:=⟨_,rfl⟩
   rw[←hVd] at HV;have HVD:=Lib.hid hVd;have HE:=Lib.hid (show wrap64 ((S1:Int) / (W1:Int))=((V:Nat):Int) by
    have e1:(S1:Int) / (W1:Int)=((S1 / W1:Nat):Int):=rfl;rw[e1,HV.out];generalize S1 / W1=q at hle;exact IntWalk.wrap64_in _ (by omega))
   clear hle hVd
   go_wp2
   rw[HE.out]
   go_ret
   exact⟨by rw[HVD.out];rfl,HY.out⟩
theorem bits_field(x0 x1:Value)(W:World):(Instr.field 70 (.agg #[x0,x1]) 0).run Tryz.prog W=.ok x0 W:=by kernel_rfl
theorem udec_snoc{X l:List Nat}(h:l=dbits X ((mch l).map Cho.p) (dinit X))(b:Nat)(hb:b=pickb (dst X l) ((predv l l.length 1:Nat):Int)):l++[b]=dbits X ((mch (l++[b])).map Cho.p) (dinit X):=by
 rw[kix7,List.map_append,List.map_singleton,dbits_snoc,←h,hb];rfl
theorem uks_snoc(X l:List Nat)(b:Nat):dksAll X ((mch (l++[b])).map Cho.p) (dinit X)=dksAll X ((mch l).map Cho.p) (dinit X)++dks (dst X l) ((predv l l.length 1:Nat):Int):=by
 rw[kix7,List.map_append,List.map_singleton,dksAll_snoc];rfl
theorem unmodeled_any{A:Option Addr}{n c:Nat}{X:List Nat}{w:World}(h:Rd w A n c (ncells X))(h01:Is01 X)(hl:X.length≤1000000)(N:Nat)(hN:N≤1024)(Ni:Int)(hNi:Ni=(N:Nat)) :
  Calls Tryz.prog 27 #[.slice A n c,.int .i64 Ni] w fun e w'=>∃ A' n' c' l M,e=.returned (.tuple #[.slice A' n' c',.int .i64 (M:Nat)])∧l=dbits X ((mch l).map Cho.p) (dinit X)∧l.length=8*N∧Is01 l∧M+16=(dst X l).at_∧Rd w' A' n' c' (bcells (pack l))∧Below w.heap.size w w':=by
 subst hNi;obtain⟨i0,hi0,hz0,hz1,hz2⟩:=info_parts kdq7;have H01:=Lib.hid h01;have HX:=Lib.hid h;have HOK:=Lib.hid (fun l=>dst_ok (X:=X) (l:=l) h01);have HRV:=Lib.hid (fun l=>ref_value h01 ((mch l).map Cho.p) (mch_p l));have HBB:=Lib.hid (fun l=>bas_bound (dksAll X ((mch l).map Cho.p) (dinit X)) 0 (by decide) (by decide));have HWL:=Lib.hid (fun e=>wnd_lt h01 e);clear h
 go_enter Tryz.func27,Tryz.ntmps27
 go_wp2_with fail
 go_loopw [6,7,8,9,10,11,12,13,14,15,16] (fun lv uv bv mv s i _ _ _ _ _ wr=>∃ (k m:Nat) (l:List Nat) (lo hi ba:Int) (A':Option Addr) (c':Nat),k≤8*N∧i=.int .i64 (k:Nat)∧lv=.int .i64 lo∧uv=.int .i64 hi∧bv=.int .i64 ba∧mv=.int .i64 (m:Nat)∧s=.slice A' k c' ∧
   Hid (l.length=k∧Is01 l∧l=dbits X ((mch l).map Cho.p) (dinit X))∧lo=(dst X l).lo∧hi=(dst X l).hi∧ba=bas (dksAll X ((mch l).map Cho.p) (dinit X)) 0∧m+16=(dst X l).at_∧Below w.heap.size w wr∧wr.ownsRow w.heap.size 3 1 (.slice A' k c') k (ncells l)) (fun _ _ _ _ _ i _ _ _ _ _ _=>8*N-(intOf i).toNat)
 case atStart=>exact⟨0,0,[],0,65535,0,none,0,Nat.zero_le _,rfl,rfl,rfl,rfl,rfl,rfl,Lib.hid ⟨rfl,Is01.of_mem (fun x hx=>by cases hx),rfl⟩,rfl,rfl,rfl,rfl,Below.refl _ _,World.ownsRow_nil _ _ _ _⟩
 case round =>
  obtain⟨k,m,l,lo,hi,ba,A',c',hk,rfl,rfl,rfl,rfl,rfl,rfl,HL,hlo,hhi,hba,hm,yr,ho⟩:=hrel;have hys:=yr.size;by_cases hlt:k<8*N
  ·obtain⟨d,hd⟩:∃ d,d=dst X l:=⟨_,rfl⟩
   have hdok:DOk d:=by rw[hd];exact(HOK.out l).1
   obtain⟨pv,hpv⟩:∃ pv,pv=predv l k 1:=⟨_,rfl⟩
   have hpin:=kiu7 l k 1;rw[←hpv] at hpin;obtain⟨p,hp⟩:∃ p:Int,p=((pv:Nat):Int):=⟨_,rfl⟩
   have hpr:1≤p∧p≤4095:=by omega
   have hpl:((predv l l.length 1:Nat):Int)=p:=by rw[HL.out.1,←hpv,hp]
   have hmb:m≤114688:=by
    have:=(HOK.out l).2.1;have:=HL.out.1;omega
   have hval:((wnd X (m+16):Nat)-ba+16777216) % 16777216=d.V:=by
    have:=HRV.out l;rw[←hba] at this;rw[hm,hd];exact this
   rw[←hd] at hlo hhi hm;have hba1:=(HBB.out l).1;have hba2:=(HBB.out l).2;rw[←hba] at hba1 hba2;obtain⟨wn,hwn⟩:∃ wn,wn=wnd X (m+16):=⟨_,rfl⟩
   have hwb:wn<16777216:=by rw[hwn];exact HWL.out _
   rw[←hwn] at hval;have HWN:=Lib.hid (fun(W:World) (hW:Rd W A n c (ncells X))=>window_any hW H01.out hl (m+16) (by omega) ((m:Int)+16) (by omega));rw[←hwn] at HWN;have HPD:=Lib.hid (fun(W:World) (hW:Rd W A' k c' (ncells l))=>predicted_any hW HL.out.2.1 k 1 (by rw[HL.out.1];exact Nat.le_refl _) (by omega) (by decide) ((k:Nat):Int) 1 rfl rfl);rw[←hpv,←hp] at HPD;obtain⟨V,hV⟩:∃ V,V=d.V:=⟨_,rfl⟩
   rw[←hV] at hval;obtain⟨sp,hsp⟩:∃ sp,sp=splitOf lo hi p:=⟨_,rfl⟩
   have hWid:Wid lo hi:=by rw[hlo,hhi];exact hdok.1
   have HSP:=Lib.hid (fun(W:World)=>split_any hWid hpr.1 hpr.2 sp hsp W);obtain⟨bt,hbt⟩:∃ bt,bt=pickb d p:=⟨_,rfl⟩
   have hbt1:bt=if V≤sp then 1 else 0:=by rw[hbt,hV,hsp,hlo,hhi];rfl
   have hbtl:bt≤1:=by rw[hbt1];split<;>omega
   obtain⟨LO,hLO⟩:∃ LO,LO=(stp lo hi bt p).1:=⟨_,rfl⟩
   obtain⟨HI,hHI⟩:∃ HI,HI=(stp lo hi bt p).2.1:=⟨_,rfl⟩
   obtain⟨R,hR⟩:∃ R,R=(stp lo hi bt p).2.2:=⟨_,rfl⟩
   have HST:=Lib.hid (fun(bi:Int) (hbi:bi=(bt:Nat)) (W:World)=>steps_any hWid hpr.1 hpr.2 hbtl LO HI R hLO hHI hR bi hbi W);have hRl:R.length≤14:=by rw[hR];exact(kah7 bt hWid hpr.1 hpr.2).2.1
   have hR2:∀ x∈R,x≤2:=by rw[hR];exact(kah7 bt hWid hpr.1 hpr.2).2.2.1
   have hdks:dks d p=R:=by rw[hR,hbt,hlo,hhi];rfl
   have hstep:dst X (l++[bt])=dstep X d p:=by rw[dst_snoc,hpl,hd]
   have HS0:=Lib.hid (show(l++[bt]).length=k+1∧Is01 (l++[bt])∧l++[bt]=dbits X ((mch (l++[bt])).map Cho.p) (dinit X) from⟨by rw[List.length_append,HL.out.1];rfl,HL.out.2.1.snoc (by omega),udec_snoc HL.out.2.2 bt (by rw[hpl,←hd];exact hbt)⟩);have HS1:=Lib.hid (show LO=(dst X (l++[bt])).lo by rw[hstep,hLO,hlo,hhi,hbt];rfl);have HS2:=Lib.hid (show HI=(dst X (l++[bt])).hi by rw[hstep,hHI,hlo,hhi,hbt];rfl);have HS3:=Lib.hid (show m+R.length+16=(dst X (l++[bt])).at_ by rw[hstep];show _=d.at_+(dks d p).length;rw[hdks];omega);have HS4:=Lib.hid (show bas R ba=bas (dksAll X ((mch (l++[bt])).map Cho.p) (dinit X)) 0 by rw[uks_snoc,hpl,←hd,hdks,bas_append,←hba]);have HBC:=Lib.hid (show ncells (l++[bt])=ncells l++[.int .i64 (bt:Nat)] by rw[kgh7]);have HOR:=Lib.hid ho;have HR2:=Lib.hid hR2;have HBT:=Lib.hid hbt1;have HVAL:=Lib.hid hval;have HRO:=Lib.hid (Rd.own ho);have i1:(0:Int)≤(k:Int):=by omega
   have HMB:=Lib.hid hmb;clear hmb;clear hd hdok hlo hhi hba hm hp hwn hV hsp hWid hbt hbt1 hLO hHI hR hR2 hdks ho hval hpv hpin hpl hstep
   go_wp2_with fail
   refine(HPD.out _ HRO.out).mono ?_;rintro e w4 ⟨rfl,y4⟩;have Y4:=yr.trans (y4.mono hys);have HO4:=Lib.hid (kbv7 HOR.out y4);have hRd:=HX.out.on Y4;have Y4s:=Y4.size;have hmb:=HMB.out;have q1:(m:Int)+16≤1000000:=by omega
   clear y4
   go_wp2_with fail
   refine(HWN.out _ hRd).mono ?_;rintro e w9 ⟨rfl,rfl⟩
   go_upto_region 9 with(fail)
   rw[HVAL.out];generalize (wn:Int)-ba+16777216=t28;obtain⟨dk,hdk,hbd⟩:∃ dk:Bool,decide (V≤sp)=dk∧bt=dk.toNat:=by
    have:=HBT.out;by_cases hv:V≤sp
    ·rw[if_pos hv] at this;exact⟨true,by simpa using hv,this⟩
    ·rw[if_neg hv] at this;exact⟨false,by simpa using hv,this⟩
   go_wp2_with fail
   refine(HSP.out _).mono ?_;rintro e w9 ⟨rfl,rfl⟩;cases dk
   ·have hbd':bt=0:=hbd;subst hbd';have HBC2:=Lib.hid (show ncells (l++[0])=ncells l++[.int .i64 0] from HBC.out);clear HBT hbtl HVAL HBC hbd
    go_wp2_with (at_builtin;refine kat7 _ rfl _ _ _ rfl w.heap.size 3 i0 _ 8 Tryz.underlying41 hi0 hz0 hz1 hz2 rfl _ _ _ rfl HO4.out (.int .i64 0) rfl rfl ?g1 ?g2 Y4s ?_)
    case g1=>unfold maxLen;omega
    case g2=>omega
    intro A5 c5 w5 ho5 hg5;have Y5:=kx7 Y4 HO4.out hg5 (Nat.le_refl _) Y4s;rw[←HBC2.out] at ho5;have HO5:=Lib.hid ho5;clear ho5 hg5
    go_wp2_with fail
    refine(HST.out _ rfl _).mono ?_;rintro e w6 ⟨A6,n6,c6,rfl,hn6,o6,y6⟩;have Y6:=Y5.trans (y6.mono Y5.size);have HO6:=Lib.hid (kbv7 HO5.out y6);have R6:=Rd.own o6;have HN6:=Lib.hid hn6;have hn14:n6≤14:=by omega
    clear o6 hn6 y6
    go_wp2_with fail
    go_loop [8,16] (fun bv jv=>∃ (j:Nat) (x:Int),j≤n6∧jv=.int .i64 (j:Nat)∧bv=.int .i64 x∧0≤x∧x<16777216∧x=bas (R.take j) ba) (fun _ jv=>n6-(intOf jv).toNat)
    case atStart=>exact⟨0,ba,Nat.zero_le _,rfl,rfl,hba1,hba2,rfl⟩
    case round =>
     obtain⟨j,x,hj,rfl,rfl,hx1,hx2,hx⟩:=hrel;have HXX:=Lib.hid hx;clear hx;by_cases hjl:j<n6
     ·have hjR:j<R.length:=by have:=HN6.out;omega
      obtain⟨v,hv⟩:∃ v,v=R.getD j 0:=⟨_,rfl⟩
      have hv2:v≤2:=by rw[hv,kaf7 hjR];exact HR2.out _ (List.getElem_mem _)
      obtain⟨b6,off6,e6,hb6,hc6⟩:=R6.2.2.2 (by omega);have hc7:=hc6 j _ (kv7 R j hjR);rw[←hv] at hc7;subst e6;have HS:=Lib.hid (show bas (R.take (j+1)) ba=(2*x+32768*(v:Int)) % 16777216 by rw[kgx7 R j hjR,←HXX.out,hv,kaf7 hjR]);have j1:(0:Int)≤(j:Int):=by omega
      have j2:(j:Int)<(n6:Int):=by omega
      have j3:0≤2*x+32768*(v:Int):=by omega
      clear hc6 hv
      go_wp2
      go_round
      case rel=>exact⟨j+1,(2*x+32768*(v:Int)) % 16777216,by omega,by go_num,rfl,by omega,by omega,HS.out.symm⟩
      case measure=>simp[intOf]<;>omega
     ·obtain rfl:j=n6:=by omega
      have hxe:x=bas R ba:=by rw[HXX.out,List.take_of_length_le (by have:=HN6.out;omega)]
      have HXE:=Lib.hid hxe;clear hxe
      go_wp2_with fail
      go_roundw
      case rel=>exact⟨k+1,m+j,l++[0],LO,HI,x,A5,c5,by omega,by go_num,rfl,rfl,rfl,by go_num,rfl,HS0,HS1.out,HS2.out,by rw[HXE.out,HS4.out],by have:=HS3.out;have:=HN6.out;omega,Y6,HO6.out⟩
      case measure=>simp[intOf]<;>omega
   ·have hbd':bt=1:=hbd;subst hbd';have HBC2:=Lib.hid (show ncells (l++[1])=ncells l++[.int .i64 1] from HBC.out);clear HBT hbtl HVAL HBC hbd
    go_wp2_with (at_builtin;refine kat7 _ rfl _ _ _ rfl w.heap.size 3 i0 _ 8 Tryz.underlying41 hi0 hz0 hz1 hz2 rfl _ _ _ rfl HO4.out (.int .i64 1) rfl rfl ?g1 ?g2 Y4s ?_)
    case g1=>unfold maxLen;omega
    case g2=>omega
    intro A5 c5 w5 ho5 hg5;have Y5:=kx7 Y4 HO4.out hg5 (Nat.le_refl _) Y4s;rw[←HBC2.out] at ho5;have HO5:=Lib.hid ho5;clear ho5 hg5
    go_wp2_with fail
    refine(HST.out _ rfl _).mono ?_;rintro e w6 ⟨A6,n6,c6,rfl,hn6,o6,y6⟩;have Y6:=Y5.trans (y6.mono Y5.size);have HO6:=Lib.hid (kbv7 HO5.out y6);have R6:=Rd.own o6;have HN6:=Lib.hid hn6;have hn14:n6≤14:=by omega
    clear o6 hn6 y6
    go_wp2_with fail
    go_loop [8,16] (fun bv jv=>∃ (j:Nat) (x:Int),j≤n6∧jv=.int .i64 (j:Nat)∧bv=.int .i64 x∧0≤x∧x<16777216∧x=bas (R.take j) ba) (fun _ jv=>n6-(intOf jv).toNat)
    case atStart=>exact⟨0,ba,Nat.zero_le _,rfl,rfl,hba1,hba2,rfl⟩
    case round =>
     obtain⟨j,x,hj,rfl,rfl,hx1,hx2,hx⟩:=hrel;have HXX:=Lib.hid hx;clear hx;by_cases hjl:j<n6
     ·have hjR:j<R.length:=by have:=HN6.out;omega
      obtain⟨v,hv⟩:∃ v,v=R.getD j 0:=⟨_,rfl⟩
      have hv2:v≤2:=by rw[hv,kaf7 hjR];exact HR2.out _ (List.getElem_mem _)
      obtain⟨b6,off6,e6,hb6,hc6⟩:=R6.2.2.2 (by omega);have hc7:=hc6 j _ (kv7 R j hjR);rw[←hv] at hc7;subst e6;have HS:=Lib.hid (show bas (R.take (j+1)) ba=(2*x+32768*(v:Int)) % 16777216 by rw[kgx7 R j hjR,←HXX.out,hv,kaf7 hjR]);have j1:(0:Int)≤(j:Int):=by omega
      have j2:(j:Int)<(n6:Int):=by omega
      have j3:0≤2*x+32768*(v:Int):=by omega
      clear hc6 hv
      go_wp2
      go_round
      case rel=>exact⟨j+1,(2*x+32768*(v:Int)) % 16777216,by omega,by go_num,rfl,by omega,by omega,HS.out.symm⟩
      case measure=>simp[intOf]<;>omega
     ·obtain rfl:j=n6:=by omega
      have hxe:x=bas R ba:=by rw[HXX.out,List.take_of_length_le (by have:=HN6.out;omega)]
      have HXE:=Lib.hid hxe;clear hxe
      go_wp2_with fail
      go_roundw
      case rel=>exact⟨k+1,m+j,l++[1],LO,HI,x,A5,c5,by omega,by go_num,rfl,rfl,rfl,by go_num,rfl,HS0,HS1.out,HS2.out,by rw[HXE.out,HS4.out],by have:=HS3.out;have:=HN6.out;omega,Y6,HO6.out⟩
      case measure=>simp[intOf]<;>omega
  ·obtain rfl:k=8*N:=by omega
   have HM:=Lib.hid hm;have HRO:=Lib.hid (Rd.own ho);have bf:=fun x0 x1 W=>bits_field x0 x1 W;have HPK:=Lib.hid (fun(W:World) (hW:Rd W A' (8*N) c' (ncells l))=>packed_any (8*N) HL.out.1.symm hW HL.out.2.1 (by rw[HL.out.1];omega));clear hlo hhi hba hm ho
   go_wp2_with fail
   refine(HPK.out _ HRO.out).mono ?_;rintro e w5 ⟨A5,n5,c5,rfl,R5,y5⟩;have Y5:=Lib.hid (yr.trans (y5.mono hys));have R6:=Lib.hid R5;clear R5 y5
   go_wp2_with fail
   go_ret2
   exact⟨A5,n5,c5,l,m,rfl,HL.out.2.2,HL.out.1,HL.out.2.1,HM.out,R6.out,Y5.out⟩
end PB
end
section
open Go.RowKit
namespace PB
theorem UUnp.det{p:List Nat}{N:Nat}{D D':List Nat}{ok ok':Bool}(h:UUnp p N D ok)(h':UUnp p N D' ok'):D=D'∧ok=ok':=by
 obtain⟨l,hl,hn,h01,rfl,rfl⟩:=h;obtain⟨l',hl',hn',h01',rfl,rfl⟩:=h';obtain rfl:=fix_unique hl hl' (by omega);exact⟨rfl,rfl⟩
theorem MUnp.det{p dict:List Nat}{N:Nat}{D D':List Nat}{ok ok':Bool}(h:MUnp p dict N D ok)(h':MUnp p dict N D' ok'):D=D'∧ok=ok':=by
 obtain⟨cd,ix,ts,en,hD,h⟩:=h;obtain⟨cd',ix',ts',en',hD',h'⟩:=h';obtain⟨rfl,rfl,rfl,rfl⟩:=hD.det hD';rcases h with⟨h,rfl,rfl⟩|⟨h,rfl,rfl⟩<;>rcases h' with⟨h',rfl,rfl⟩|⟨h',rfl,rfl⟩
 ·exact⟨rfl,rfl⟩
 ·exact absurd h' h
 ·exact absurd h h'
 ·exact⟨rfl,rfl⟩
theorem UNP.nil{dict D:List Nat}{ok:Bool}(h:UNP [] dict D ok):D=[]∧ok=false:=by
 rcases h with⟨_,h,h'⟩|⟨x,t,h,h2,_⟩|⟨t,h,_⟩|⟨x,t,h,_,_,h2,_⟩|⟨x,a,b,p,h,_,_,h2,_⟩|⟨a,b,p,h,_⟩|⟨a,b,p,h,h2,h3⟩
 ·exact⟨h,h'⟩
 all_goals cases h
theorem UNP.zero{t dict D:List Nat}{ok:Bool}(h:UNP (0::t) dict D ok):D=t∧ok=true:=by
 rcases h with⟨h,_⟩|⟨x,t,h,h2,_⟩|⟨t,h,h2,h3⟩|⟨x,t,h,h2,_⟩|⟨x,a,b,p,h,h2,_⟩|⟨a,b,p,h,_⟩|⟨a,b,p,h,_⟩
 ·cases h
 ·injection h with h;omega
 ·injection h with _ h;exact⟨h2.trans h.symm,h3⟩
 ·injection h with h;omega
 ·injection h with h;omega
 ·injection h with h;cases h
 ·injection h with h;cases h
theorem UNP.more{x:Nat}{t dict D:List Nat}{ok:Bool}(h:UNP (x::t) dict D ok)(hx:2<x∨(1≤x∧t.length<2)):D=[]∧ok=false:=by
 rcases h with⟨h,_⟩|⟨x,t,h,h2,h3,h4⟩|⟨t,h,h2,h3⟩|⟨x,t,h,h2,_,_,h3,h4⟩|⟨x,a,b,p,h,h2,_,_,h3,h4⟩|⟨a,b,p,h,_⟩|⟨a,b,p,h,_⟩
 ·cases h
 ·exact⟨h3,h4⟩
 ·injection h with h;omega
 ·exact⟨h3,h4⟩
 ·exact⟨h3,h4⟩
 ·injection h with h h';subst h h';simp only[List.length_cons] at hx;omega
 ·injection h with h h';subst h h';simp only[List.length_cons] at hx;omega
theorem UNP.big{x a b:Nat}{p dict D:List Nat}{ok:Bool}(h:UNP (x::a::b::p) dict D ok)(hx:1≤x)(hs:1024<a+256*b):D=[]∧ok=false:=by
 rcases h with⟨h,_⟩|⟨x,t,h,h2,h3,h4⟩|⟨t,h,h2,h3⟩|⟨x,t,h,h2,_,_,h3,h4⟩|⟨x,a,b,p,h,h2,_,_,h3,h4⟩|⟨a,b,p,h,h2,_⟩|⟨a,b,p,h,h2,_⟩
 ·cases h
 ·exact⟨h3,h4⟩
 ·injection h with h;omega
 ·exact⟨h3,h4⟩
 ·exact⟨h3,h4⟩
 ·injection h with h h';injection h' with h' h3;injection h3 with h3 h4;omega
 ·injection h with h h';injection h' with h' h3;injection h3 with h3 h4;omega
theorem UNP.one{a b:Nat}{p dict D:List Nat}{ok:Bool}(h:UNP (1::a::b::p) dict D ok)(hs:a+256*b≤1024):UUnp p (a+256*b) D ok:=by
 rcases h with⟨h,_⟩|⟨x,t,h,h2,_⟩|⟨t,h,h2,h3⟩|⟨x,t,h,_,_,h2,_⟩|⟨x,a',b',p',h,_,_,h2,_⟩|⟨a',b',p',h,_,h3⟩|⟨a',b',p',h,_⟩
 ·cases h
 ·injection h with h;omega
 ·injection h with h;cases h
 ·injection h with h h';subst h';simp only[List.length_cons] at h2;omega
 ·injection h with h h';injection h' with h' h3;injection h3 with h3 h4;omega
 ·injection h with _ h;injection h with h h';injection h' with h' h4;subst h h' h4;exact h3
 ·injection h with h;cases h
theorem UNP.two{a b:Nat}{p dict D:List Nat}{ok:Bool}(h:UNP (2::a::b::p) dict D ok)(hs:a+256*b≤1024):MUnp p dict (a+256*b) D ok:=by
 rcases h with⟨h,_⟩|⟨x,t,h,h2,_⟩|⟨t,h,h2,h3⟩|⟨x,t,h,_,_,h2,_⟩|⟨x,a',b',p',h,_,_,h2,_⟩|⟨a',b',p',h,_⟩|⟨a',b',p',h,_,h3⟩
 ·cases h
 ·injection h with h;omega
 ·injection h with h;cases h
 ·injection h with h h';subst h';simp only[List.length_cons] at h2;omega
 ·injection h with h h';injection h' with h' h3;injection h3 with h3 h4;omega
 ·injection h with h;cases h
 ·injection h with _ h;injection h with h h';injection h' with h' h4;subst h h' h4;exact h3
theorem UNP.det{code dict:List Nat}{D D':List Nat}{ok ok':Bool}(h:UNP code dict D ok)(h':UNP code dict D' ok'):D=D'∧ok=ok':=by
 rcases code with _|⟨x,t⟩
 ·obtain⟨rfl,rfl⟩:=h.nil;obtain⟨rfl,rfl⟩:=h'.nil;exact⟨rfl,rfl⟩
 rcases Nat.eq_zero_or_pos x with rfl|hx
 ·obtain⟨rfl,rfl⟩:=h.zero;obtain⟨rfl,rfl⟩:=h'.zero;exact⟨rfl,rfl⟩
 by_cases h1:2<x∨(1≤x∧t.length<2)
 ·obtain⟨rfl,rfl⟩:=h.more h1;obtain⟨rfl,rfl⟩:=h'.more h1;exact⟨rfl,rfl⟩
 obtain⟨a,b,p,rfl⟩:∃ a b p,t=a::b::p:=by
  rcases t with _|⟨a,_|⟨b,p⟩⟩
  ·simp only[List.length_nil] at h1;omega
  ·simp only[List.length_nil,List.length_cons] at h1;omega
  ·exact⟨a,b,p,rfl⟩
 by_cases h2:1024<a+256*b
 ·obtain⟨rfl,rfl⟩:=h.big hx h2;obtain⟨rfl,rfl⟩:=h'.big hx h2;exact⟨rfl,rfl⟩
 rcases(show x=1∨x=2 by omega) with rfl|rfl
 ·exact(h.one (by omega)).det (h'.one (by omega))
 ·exact(h.two (by omega)).det (h'.two (by omega))
theorem uunp_ref{p:List Nat}{N M:Nat}{l:List Nat}(h:l=dbits (allbits p) ((mch l).map Cho.p) (dinit (allbits p)))(hl:l.length=8*N)(h01:Is01 l)(hM:M+16=(dst (allbits p) l).at_) :
  UUnp p N (pack l) (decide (p.length=(M+9) / 8)):=by
 have hz:∀ i,(allbits p).getD i 0=(ucode p N).getD i 0:=fun i=>(allbits_zeros (p:=p) (14*N+2) i).symm;refine⟨l,?_,hl,h01,rfl,?_⟩
 ·rw[←dinit_congr hz,←dbits_congr hz];exact h
 ·have e:dst (ucode p N) l=dst (allbits p) l:=by unfold dst;rw[←dinit_congr hz,←drun_congr hz]
  rw[e,←hM,Nat.add_sub_cancel]
end PB
end
section
open Go.RowKit
attribute [local go_sem ↓] Go.wp_at_zero Go.wp_at_succ
namespace PB
theorem tokensat_any{A:Option Addr}{c:Nat}{l:List Nat}{N count cd ix en:Nat}{TS:List Tok}{w:World}(hN:N=l.length)(h:Rd w A N c (ncells l))(h01:Is01 l)(hl:l.length≤131072)(hcount:count≤1024)(hD:Dec l 0 count cd ix TS en) :
  Calls Tryz.prog 28 #[.slice A N c,.int .i64 (count:Nat)] w (DecOut cd ix TS en w):=by
 obtain⟨i0,hi,hz0,hz1,hz2⟩:=info_parts kdq7;obtain⟨i1,ti,tz0,tz1,tz2⟩:=info_parts tok_info;have hcap:=Reads.cap h;have hcm:=Reads.capMax h;unfold maxLen at hcm;have F0:=Two.new w 24 (.int .i64 0) (.int .i64 0);have y0:Below w.heap.size w (w.alloc (.cells #[.int .i64 0,.int .i64 0] 24)):=(Below.refl _ _).alloc (Nat.le_refl _) _;have H01:=Lib.hid h01;have HD:=Lib.hid hD;have HH:=Lib.hid h;have hNb:N≤131072:=by omega
 have HN:=Lib.hid hN;have hn1:N≤l.length:=by omega
 have hn2:l.length≤N:=by omega
 clear h01 hD h hN
 go_enter Tryz.func28,Tryz.ntmps28
 go_wp2_with fail
 go_loopw [1,7,8] (fun cn o p wr=>∃ cnt pos m:Nat,∃ A' c' done ts,cnt≤1024∧pos≤N∧m+cnt≤1024∧cn=.int .i64 cnt∧p=.int .i64 pos∧o=.slice A' m c'∧Below w.heap.size w wr∧Two wr w.heap.size 24 (.int .i64 0) (.int .i64 0) ∧
   wr.ownsRow (w.heap.size+1) 79 3 (.slice A' m c') m (tcells done)∧Dec l pos cnt cd ix ts en∧done++ts=TS) (fun cn _ _ _=>(intOf cn).toNat)
 case atStart=>exact⟨count,0,0,none,0,[],TS,hcount,Nat.zero_le _,by omega,rfl,rfl,rfl,y0,F0,World.ownsRow_nil _ _ _ _,HD.out,rfl⟩
 case round =>
  obtain⟨cnt,pos,m,A',c',done,ts,hc1,hp1,hm1,rfl,rfl,rfl,yr,FR,ho,hDr,hts⟩:=hrel;have HO:=Lib.hid ho;have HTS:=Lib.hid hts;have RR:=HH.out.on yr;have FRlt:=FR.lt;clear y0 F0 HD ho hts;cases hDr with
  | nil p =>
   have HTS2:=Lib.hid (show done=TS by rw[←HTS.out,List.append_nil]);obtain⟨f0,f1,f2,f3,f4⟩:=FR.facts
   go_wp2
   have r0:=((FR.set0 (.int .i64 0)).set1 (.int .i64 0)).c0;have r1:=((FR.set0 (.int .i64 0)).set1 (.int .i64 0)).c1;refine bodyPost_ret (v:=.tuple #[.slice A' m c',.int .i64 (en:Nat),.agg #[.int .i64 0,.int .i64 0]]) (by simp[results,Tryz.results28,go_sem,r0,r1]) rfl ⟨A',m,c',rfl,?_,(yr.setCell (Nat.le_refl _) _).setCell (Nat.le_refl _) _⟩;rw[if_pos rfl,←HTS2.out];have hne:(Value.slice A' m c').ownBlock≠some w.heap.size:=fun e=>by have:=(HO.out.lt _ e).1;omega
   exact kav7 (kf7 (kf7 HO.out (p:=⟨w.heap.size,0,none⟩) hne _) (p:=⟨w.heap.size,1,none⟩) hne _) (by omega)
  | bad p cn c9 hpos hbad =>
   rcases hbad with⟨h1,rfl⟩|⟨h1,h2,h3,rfl⟩|⟨h1,h2,⟨c1,g1,g2,rfl⟩|⟨d,e,g1,g2,rfl⟩|⟨d,e,c1,g1,g2,g3,g4,rfl⟩|⟨d,e,m5,e2,g1,g2,g3,g4,rfl⟩⟩
   ·obtain rfl:ix=N:=by omega
    go_wp2_with fail
    refine(kan7 _ _ _).mono ?_;rintro e w3 ⟨rfl,y3⟩;have F3:=FR.on y3;have Y3:=yr.trans (y3.mono yr.size);obtain⟨f0,f1,f2,f3,f4⟩:=F3.facts
    go_wp2
    have r0:=((F3.set0 (.int .i64 15)).set1 (.int .i64 (ix:Nat))).c0;have r1:=((F3.set0 (.int .i64 15)).set1 (.int .i64 (ix:Nat))).c1;exact bodyPost_ret (v:=.tuple #[.slice none 0 0,.int .i64 0,.agg #[.int .i64 15,.int .i64 (ix:Nat)]]) (by simp[results,Tryz.results28,go_sem,r0,r1]) rfl ⟨none,0,0,rfl,World.ownsRow_nil _ _ _ _,(Y3.setCell (Nat.le_refl _) _).setCell (Nat.le_refl _) _⟩
   ·obtain⟨b,off,rfl,hb,hc⟩:=RR.2.2.2 (by omega);have hcell:=hc ix _ (kv7 l ix (by omega));rw[h2] at hcell;have p1:(0:Int)≤(ix:Int):=by omega
    have p2:(ix:Int)<(N:Int):=by omega
    clear hc;have e9:decide (((N:Nat):Int)<((ix:Nat):Int)+9)=true:=by simp;omega
    clear h2
    go_wp2_with fail
    refine(kan7 _ _ _).mono ?_;rintro e w3 ⟨rfl,y3⟩;have F3:=FR.on y3;have Y3:=yr.trans (y3.mono yr.size);obtain⟨f0,f1,f2,f3,f4⟩:=F3.facts
    go_wp2
    have r0:=((F3.set0 (.int .i64 15)).set1 (.int .i64 (ix:Nat))).c0;have r1:=((F3.set0 (.int .i64 15)).set1 (.int .i64 (ix:Nat))).c1;exact bodyPost_ret (v:=.tuple #[.slice none 0 0,.int .i64 0,.agg #[.int .i64 15,.int .i64 (ix:Nat)]]) (by simp[results,Tryz.results28,go_sem,r0,r1]) rfl ⟨none,0,0,rfl,World.ownsRow_nil _ _ _ _,(Y3.setCell (Nat.le_refl _) _).setCell (Nat.le_refl _) _⟩
   ·obtain⟨b,off,rfl,hb,hc⟩:=RR.2.2.2 (by omega);have hcell:=hc ix _ (kv7 l ix (by omega));rw[h2] at hcell;have p1:(0:Int)≤(ix:Int):=by omega
    have p2:(ix:Int)<(N:Int):=by omega
    clear hc;clear h2;have HG1:=Lib.hid g1;have HCD:=Lib.hid g2;have hq1:(((cd:Nat):Int) == 0)=false:=by rw[beq_eq_false_iff_ne];omega
    have hq2:(((cd:Nat):Int) != 0)=true:=by rw[bne_iff_ne];omega
    clear g1
    go_wp2_with fail
    refine(kbd7 RR H01.out (by omega) (by omega) (by omega) HG1.out).mono ?_;rintro e w9 ⟨rfl,rfl⟩
    go_wp2_with fail
    refine(kan7 _ _ _).mono ?_;rintro e w3 ⟨rfl,y3⟩;have F3:=FR.on y3;have Y3:=yr.trans (y3.mono yr.size);obtain⟨f0,f1,f2,f3,f4⟩:=F3.facts
    go_wp2
    have r0:=((F3.set0 (.int .i64 (cd:Nat))).set1 (.int .i64 (ix:Nat))).c0;have r1:=((F3.set0 (.int .i64 (cd:Nat))).set1 (.int .i64 (ix:Nat))).c1;exact bodyPost_ret (v:=.tuple #[.slice none 0 0,.int .i64 0,.agg #[.int .i64 (cd:Nat),.int .i64 (ix:Nat)]]) (by simp[results,Tryz.results28,go_sem,r0,r1]) rfl ⟨none,0,0,by rw[if_neg HCD.out,if_neg HCD.out];rfl,by rw[if_neg HCD.out];exact World.ownsRow_nil _ _ _ _,(Y3.setCell (Nat.le_refl _) _).setCell (Nat.le_refl _) _⟩
   ·obtain⟨b,off,rfl,hb,hc⟩:=RR.2.2.2 (by omega);have hcell:=hc ix _ (kv7 l ix (by omega));rw[h2] at hcell;have p1:(0:Int)≤(ix:Int):=by omega
    have p2:(ix:Int)<(N:Int):=by omega
    clear hc;clear h2;have HG1:=Lib.hid g1;clear g1
    go_wp2_with fail
    refine(kbd7 RR H01.out (by omega) (by omega) (by omega) HG1.out).mono ?_;rintro e w9 ⟨rfl,rfl⟩
    go_wp2_with fail
    refine(kan7 _ _ _).mono ?_;rintro e w3 ⟨rfl,y3⟩;have F3:=FR.on y3;have Y3:=yr.trans (y3.mono yr.size);obtain⟨f0,f1,f2,f3,f4⟩:=F3.facts
    go_wp2
    have r0:=((F3.set0 (.int .i64 16)).set1 (.int .i64 (ix:Nat))).c0;have r1:=((F3.set0 (.int .i64 16)).set1 (.int .i64 (ix:Nat))).c1;exact bodyPost_ret (v:=.tuple #[.slice none 0 0,.int .i64 0,.agg #[.int .i64 16,.int .i64 (ix:Nat)]]) (by simp[results,Tryz.results28,go_sem,r0,r1]) rfl ⟨none,0,0,rfl,World.ownsRow_nil _ _ _ _,(Y3.setCell (Nat.le_refl _) _).setCell (Nat.le_refl _) _⟩
   ·obtain⟨b,off,rfl,hb,hc⟩:=RR.2.2.2 (by omega);have hcell:=hc ix _ (kv7 l ix (by omega));rw[h2] at hcell;have p1:(0:Int)≤(ix:Int):=by omega
    have p2:(ix:Int)<(N:Int):=by omega
    clear hc;clear h2;have HG1:=Lib.hid g1;have HG3:=Lib.hid g3;have HCD:=Lib.hid g4;have hge:=(kgw7 g1).1;have hq1:(((cd:Nat):Int) == 0)=false:=by rw[beq_eq_false_iff_ne];omega
    have hq2:(((cd:Nat):Int) != 0)=true:=by rw[bne_iff_ne];omega
    clear g1 g3
    go_wp2_with fail
    refine(kbd7 RR H01.out (by omega) (by omega) (by omega) HG1.out).mono ?_;rintro e w9 ⟨rfl,rfl⟩
    go_wp2_with fail
    refine(kbd7 RR H01.out (by omega) hge rfl HG3.out).mono ?_;rintro e w9 ⟨rfl,rfl⟩
    go_wp2_with fail
    refine(kan7 _ _ _).mono ?_;rintro e w3 ⟨rfl,y3⟩;have F3:=FR.on y3;have Y3:=yr.trans (y3.mono yr.size);obtain⟨f0,f1,f2,f3,f4⟩:=F3.facts
    go_wp2
    have r0:=((F3.set0 (.int .i64 (cd:Nat))).set1 (.int .i64 (ix:Nat))).c0;have r1:=((F3.set0 (.int .i64 (cd:Nat))).set1 (.int .i64 (ix:Nat))).c1;exact bodyPost_ret (v:=.tuple #[.slice none 0 0,.int .i64 0,.agg #[.int .i64 (cd:Nat),.int .i64 (ix:Nat)]]) (by simp[results,Tryz.results28,go_sem,r0,r1]) rfl ⟨none,0,0,by rw[if_neg HCD.out,if_neg HCD.out];rfl,by rw[if_neg HCD.out];exact World.ownsRow_nil _ _ _ _,(Y3.setCell (Nat.le_refl _) _).setCell (Nat.le_refl _) _⟩
   ·obtain⟨b,off,rfl,hb,hc⟩:=RR.2.2.2 (by omega);have hcell:=hc ix _ (kv7 l ix (by omega));rw[h2] at hcell;have p1:(0:Int)≤(ix:Int):=by omega
    have p2:(ix:Int)<(N:Int):=by omega
    clear hc;clear h2;have HG1:=Lib.hid g1;have HG3:=Lib.hid g3;have hge:=(kgw7 g1).1;have hv5:=gat_val H01.out g3;clear g1 g3
    go_wp2_with fail
    refine(kbd7 RR H01.out (by omega) (by omega) (by omega) HG1.out).mono ?_;rintro e w9 ⟨rfl,rfl⟩
    go_wp2_with fail
    refine(kbd7 RR H01.out (by omega) hge rfl HG3.out).mono ?_;rintro e w9 ⟨rfl,rfl⟩
    go_wp2_with fail
    refine(kan7 _ _ _).mono ?_;rintro e w3 ⟨rfl,y3⟩;have F3:=FR.on y3;have Y3:=yr.trans (y3.mono yr.size);obtain⟨f0,f1,f2,f3,f4⟩:=F3.facts
    go_wp2
    have r0:=((F3.set0 (.int .i64 16)).set1 (.int .i64 (ix:Nat))).c0;have r1:=((F3.set0 (.int .i64 16)).set1 (.int .i64 (ix:Nat))).c1;exact bodyPost_ret (v:=.tuple #[.slice none 0 0,.int .i64 0,.agg #[.int .i64 16,.int .i64 (ix:Nat)]]) (by simp[results,Tryz.results28,go_sem,r0,r1]) rfl ⟨none,0,0,rfl,World.ownsRow_nil _ _ _ _,(Y3.setCell (Nat.le_refl _) _).setCell (Nat.le_refl _) _⟩
  | cons p cn t e9 c9 i9 ts' en9 hpos hok hrest =>
   obtain⟨f1,f2,f3,f4,f5⟩:=hok.facts H01.out hpos;rcases hok with⟨h1,h2,h3,rfl,rfl⟩|⟨h1,h2,d,e1,m5,g1,g2,g3,g4,rfl⟩
   ·obtain⟨b,off,rfl,hb,hc⟩:=RR.2.2.2 (by omega);have hcell:=hc pos _ (kv7 l pos (by omega));rw[h2] at hcell;have p1:(0:Int)≤(pos:Int):=by omega
    have p2:(pos:Int)<(N:Int):=by omega
    clear hc;clear h2;obtain⟨v,hv⟩:∃ v,v=num ((l.drop (pos+1)).take 8):=⟨_,rfl⟩
    rw[←hv] at hrest f5;have hv256:v<256:=f5;have HR:=Lib.hid hrest;have HV:=Lib.hid hv;obtain⟨As,hsl,RS⟩:=Rd.cut (P:=Tryz.prog) 41 3 i0 Tryz.underlying41 hi hz1 (show Rd wr (some ⟨b,off,none⟩) l.length c (ncells l) by rw[←HN.out];exact RR) (pos+1) (pos+9) (by omega) (by omega);have e8:pos+9-(pos+1)=8:=by omega
    rw[e8] at hsl RS;rw[←HN.out] at hsl;have hsl2:∀ W,(Instr.slice 41 (.slice (some ⟨b,off,none⟩) N c) (some (.int .i64 ((pos:Int)+1))) (some (.int .i64 ((pos:Int)+9))) none).run Tryz.prog W=.ok (.slice As 8 (c-(pos+1))) W:=fun W=>by
     have:=hsl W
     rwa [show(((pos+1:Nat):Int))=(pos:Int)+1 by omega,show(((pos+9:Nat):Int))=(pos:Int)+9 by omega] at this
    have u1:IntKind.u8.wrap ((v:Nat):Int)=((v:Nat):Int):=by rw[IntKind.wrap_u8];omega
    have tl1:tlen ⟨0,0,v⟩=1:=rfl;clear hrest hv hsl e8 f1 f2 f3 f4 f5 tl1 hz0 hz1 hz2 hi
    go_wp2_with fail
    refine(kbn7 RS ((H01.out.drop _).take _) (by rw[List.length_take];omega)).mono ?_;rintro e w9 ⟨rfl,rfl⟩;rw[←HV.out]
    go_wp2_with (at_builtin;refine kdx7 _ rfl _ _ 44 rfl (w.heap.size+1) 79 i1 _ 24 Tryz.underlying44 ti tz0 tz1 tz2 rfl _ _ _ rfl HO.out _ _ _ (kfo7 [⟨0,0,v⟩]) rfl ?g1 ?g2 FRlt ?_)
    case g1=>unfold maxLen;omega
    case g2=>omega
    intro A5 c5 w5 ho5 hg5;have nF:some w.heap.size≠(Value.slice A' m c').ownBlock:=fun e=>by have:=(HO.out.lt _ e.symm).1;omega
    have F5:=FR.grown hg5 nF;have Y5:=kx7 yr HO.out hg5 (by omega) yr.size;have HO5:=Lib.hid (show w5.ownsRow (w.heap.size+1) 79 3 (.slice A5 (m+1) c5) (m+1) (tcells (done++[⟨0,0,v⟩])) by rw[kcj7];simpa [tcells,tcell] using ho5);clear ho5 hg5 nF
    go_wp2_with fail
    go_roundw
    case rel=>exact⟨cnt-1,pos+9,m+1,A5,c5,_,ts',by omega,by omega,by omega,congrArg (Value.int .i64) (by omega),congrArg (Value.int .i64) (by omega),rfl,Y5,F5,HO5.out,HR.out,by rw[←HTS.out,List.append_assoc,HV.out];rfl⟩
    case measure=>simp[intOf]<;>omega
   ·obtain⟨b,off,rfl,hb,hc⟩:=RR.2.2.2 (by omega);have hcell:=hc pos _ (kv7 l pos (by omega));rw[h2] at hcell;have p1:(0:Int)≤(pos:Int):=by omega
    have p2:(pos:Int)<(N:Int):=by omega
    clear hc;clear h2;have HG1:=Lib.hid g1;have HG3:=Lib.hid g3;have HR:=Lib.hid hrest;have hge:=(kgw7 g1).1;have hge2:=(kgw7 g3).1;have hv5:=gat_val H01.out g3;have htl:tlen ⟨(d:Nat),((m5+2:Nat):Int),0⟩=m5+2:=by
     have hd1:=gat_pos H01.out g1;unfold tlen;dsimp only;rw[if_neg (by omega)];omega
    have HTL:=Lib.hid htl;clear g1 g3 hrest f1 f2 f3 f4 f5 htl hz0 hz1 hz2 hi
    go_wp2_with fail
    refine(kbd7 RR H01.out (by omega) (by omega) (by omega) HG1.out).mono ?_;rintro e w9 ⟨rfl,rfl⟩
    go_wp2_with fail
    refine(kbd7 RR H01.out (by omega) hge rfl HG3.out).mono ?_;rintro e w9 ⟨rfl,rfl⟩
    go_wp2_with (at_builtin;refine kdx7 _ rfl _ _ 44 rfl (w.heap.size+1) 79 i1 _ 24 Tryz.underlying44 ti tz0 tz1 tz2 rfl _ _ _ rfl HO.out _ _ _ (kfo7 [⟨(d:Nat),((m5:Int)+2),0⟩]) rfl ?g1 ?g2 FRlt ?_)
    case g1=>unfold maxLen;omega
    case g2=>omega
    intro A5 c5 w5 ho5 hg5;have nF:some w.heap.size≠(Value.slice A' m c').ownBlock:=fun e=>by have:=(HO.out.lt _ e.symm).1;omega
    have F5:=FR.grown hg5 nF;have Y5:=kx7 yr HO.out hg5 (by omega) yr.size;have HO5:=Lib.hid (show w5.ownsRow (w.heap.size+1) 79 3 (.slice A5 (m+1) c5) (m+1) (tcells (done++[⟨(d:Nat),((m5+2:Nat):Int),0⟩])) by rw[kcj7];simpa [tcells,tcell] using ho5);clear ho5 hg5 nF
    go_wp2_with fail
    go_roundw
    case rel=>exact⟨cnt-(m5+2),e9,m+1,A5,c5,_,ts',by omega,by omega,by omega,congrArg (Value.int .i64) (by omega),rfl,rfl,Y5,F5,HO5.out,by have:=HR.out;rwa [HTL.out] at this,by rw[←HTS.out,List.append_assoc];rfl⟩
    case measure=>simp[intOf]<;>omega
theorem RdT.cells{w:World}{b off n c k:Nat}{xs:List Tok}{xd xn:Int}{xl:Nat}(h:RdT w (some ⟨b,off,none⟩) n c xs)(hk:xs[k]?=some ⟨xd,xn,xl⟩) :
  b<w.heap.size∧w.cell? ⟨b,off+k*3,none⟩=some (.int .i64 xd)∧w.cell? ⟨b,off+k*3+1,none⟩=some (.int .i64 xn)∧w.cell? ⟨b,off+k*3+2,none⟩=some (.int .u8 (xl:Nat)):=by
 obtain⟨h1,h2,h3,h4⟩:=h;have hl:k<xs.length:=by
  rcases Nat.lt_or_ge k xs.length with h|h
  ·exact h
  ·rw[List.getElem?_eq_none h] at hk;cases hk
 obtain⟨b',off',e,hlt,hc⟩:=h4 (by omega);injection e with e;injection e with e1 e2;subst e1 e2;exact⟨hlt,hc k _ hk⟩
theorem refexp_ok{A:Option Addr}{n c:Nat}{xs:List Tok}{A2:Option Addr}{n2 c2:Nat}{dict:List Nat}{w:World}(h:RdT w A n c xs)(h2:Rd w A2 n2 c2 (bcells dict))(hl:xs.length≤1024)(hall:AllTok xs xs.length)(hn2:n2≤512) :
  Calls Tryz.prog 30 #[.slice A n c,.slice A2 n2 c2] w (ExpOut n2 (expf n2 xs 0 dict) w):=by
 obtain⟨i0,hi,hz0,hz1,hz2⟩:=info_parts kar7;have hn:=h.1;have hcap:=h.2.1;have hcm:=h.2.2.1;unfold maxLen at hcm;obtain rfl:=hn;have hd2:=h2.len;rw[ka7] at hd2;have X0:=Two.new w 24 (.int .i64 0) (.int .i64 0);have y0:Below w.heap.size w (w.alloc (.cells #[.int .i64 0,.int .i64 0] 24)):=(Below.refl _ _).alloc (Nat.le_refl _) _;have R0:=h.alloc (.cells #[.int .i64 0,.int .i64 0] 24);have D0:=h2.alloc (.cells #[.int .i64 0,.int .i64 0] 24);obtain⟨RR,hRR⟩:∃ RR,RR=expf n2 xs 0 dict:=⟨_,rfl⟩
 rw[←hRR];have HRR:=Lib.hid hRR;have HA:=Lib.hid hall;have HD2:=Lib.hid hd2;have k512:decide ((512:Int)<(n2:Int))=false:=by simp;omega
 clear hall h2 hRR hd2;have fin:∀ (W:World) (cd ix:Int),RR.1=cd→RR.2.1=ix→cd≠0→Below w.heap.size w W→ExpOut n2 RR w (.returned (.tuple #[.slice none 0 0,.agg #[.int .i64 cd,.int .i64 ix]])) ((W.setCell ⟨w.heap.size,0,none⟩ (.int .i64 cd)).setCell ⟨w.heap.size,1,none⟩ (.int .i64 ix)):=by
  intro W cd ix h1 h2 h3 hY;subst h1 h2;exact⟨none,0,0,rfl,by rw[if_neg h3];exact Reads.nil _ _ none 0 (Nat.zero_le _),(hY.setCell (Nat.le_refl _) _).setCell (Nat.le_refl _) _⟩
 have HF:=Lib.hid fin;clear fin
 go_enter Tryz.func30,Tryz.ntmps30
 go_wp2_with fail
 refine(tokensfault_any R0 (.inr (.inr ⟨hl,HA.out,rfl,rfl⟩))).mono ?_;rintro e w1 ⟨rfl,y1⟩;have X2:=(X0.on y1).alloc (.cells #[.int .i64 0,.int .i64 0] 24);have Y1:=y0.trans (y1.mono y0.size);have Y2:=Y1.alloc Y1.size (.cells #[.int .i64 0,.int .i64 0] 24);have B2:=Two.new w1 24 (.int .i64 0) (.int .i64 0);have D2:=(D0.on y1).alloc (.cells #[.int .i64 0,.int .i64 0] 24);obtain⟨g0,g1,g2,g3,g4⟩:=B2.facts;have Y2s:=Y2.size;clear y1 X0 y0 R0 Y1 D0
 go_wp2_with (at_builtin;refine kay7 _ rfl _ _ _ rfl w.heap.size 5 i0 _ 1 Tryz.underlying22 hi hz0 hz1 hz2 rfl _ _ _ rfl (World.ownsRow_nil _ _ _ _) _ _ n2 c2 _ rfl D2 (kdo7 _) ?g1 ?g2 Y2s ?_)
 case g1=>unfold maxLen;omega
 case g2=>omega
 intro A3 c3 w3 o3 g3' a3;have X3:=X2.grown g3' (by intro e;cases e);have Y3:=Y2.grown g3' Y2s (fun g hg=>by cases hg)
 (try simp only[Nat.zero_add,List.nil_append] at o3)
 have HO3:=Lib.hid o3;have z0:0+n2=n2:=Nat.zero_add n2;clear o3 g3' a3 X2 Y2 B2 g0 g1 g2 g3 g4 D2 Y2s
 go_wp2_with fail
 go_loopw [7,8] (fun s i wr=>∃ k m:Nat,∃ A' c' win,k≤xs.length∧i=.int .i64 k∧s=.slice A' m c'∧m=win.length∧n2≤m∧m≤n2+1024∧Below w.heap.size w wr∧Two wr w.heap.size 24 (.int .i64 0) (.int .i64 0) ∧
   wr.ownsRow w.heap.size 5 1 (.slice A' m c') m (bcells win)∧RR=expf n2 (xs.drop k) k win) (fun _ i _=>xs.length-(intOf i).toNat)
 case atStart=>exact⟨0,n2,A3,c3,dict,Nat.zero_le _,rfl,rfl,HD2.out.symm,Nat.le_refl _,by omega,Y3,X3,by have:=HO3.out;(try rw[z0] at this);exact this,HRR.out⟩
 case round =>
  obtain⟨k,m,A',c',win,hk,rfl,rfl,hm,hm1,hm2,yr,XR,ho,hR⟩:=hrel;have HM:=Lib.hid hm;have HO:=Lib.hid ho;have HR:=Lib.hid hR;clear Y3 X3 HO3 HRR hm ho hR z0;by_cases hlt:k<xs.length
  ·obtain⟨b,off,rfl,hb,-⟩:=(h.on yr).at k hlt;obtain⟨xd,xn,xl,hx⟩:∃ xd xn xl,xs[k]=(⟨xd,xn,xl⟩:Tok):=⟨_,_,_,rfl⟩
   have HX:=Lib.hid (show xs[k]?=some (⟨xd,xn,xl⟩:Tok) by rw[←hx];exact List.getElem?_eq_getElem hlt);have hok:Tok.ok ⟨xd,xn,xl⟩:=by rw[←hx];exact HA.out k hlt hlt
   have HOK:=Lib.hid hok;have HS:=Lib.hid (show RR=if (m:Int)<xd then(4,((k:Nat):Int),win) else if 1024<m-n2+tlen ⟨xd,xn,xl⟩ then(14,((k:Nat):Int),win) else expf n2 (xs.drop (k+1)) (k+1) (ext win ⟨xd,xn,xl⟩) by
    rw[HR.out,List.drop_eq_getElem_cons hlt,expf,hx,←HM.out])
   have htp:=tlen_pos _ hok;obtain⟨tl,htl⟩:∃ tl,tl=tlen ⟨xd,xn,xl⟩:=⟨_,rfl⟩
   rw[←htl] at htp HS;have HTL:=Lib.hid htl;have HLE:=Lib.hid (show((tl:Nat):Int)=if xd=0 then 1 else xn by
    rw[htl];unfold tlen;dsimp only;rcases hok with⟨e1,e2⟩|⟨_,e1,_,e3,_⟩
    ·dsimp only at e1 e2;rw[if_pos e1,if_pos e1];rfl
    ·dsimp only at e1 e3;rw[if_neg (by omega),if_neg (by omega)];omega)
   clear hx hok htl HR;have ysz:=yr.size;obtain⟨-,q1,q2,q3⟩:=(h.on yr).cells HX.out;have i1:(0:Int)≤(k:Int):=by omega
   have i2:(k:Int)<(xs.length:Int):=by omega
   by_cases hdist:(m:Int)<xd
   ·have hRR:RR=(4,((k:Nat):Int),win):=by rw[HS.out,if_pos hdist]
    have H1:=Lib.hid (show RR.1=4 by rw[hRR]);have H2:=Lib.hid (show RR.2.1=(k:Nat) by rw[hRR]);clear hRR HS
    go_wp2_with fail
    refine(kan7 _ _ _).mono ?_;rintro e w4 ⟨rfl,y4⟩;have X4:=XR.on y4;have Y4:=yr.trans (y4.mono yr.size);obtain⟨f0,f1,f2,f3,f4⟩:=X4.facts
    go_wp2
    have r0:=((X4.set0 (.int .i64 4)).set1 (.int .i64 (k:Nat))).c0;have r1:=((X4.set0 (.int .i64 4)).set1 (.int .i64 (k:Nat))).c1;exact bodyPost_ret (v:=.tuple #[.slice none 0 0,.agg #[.int .i64 4,.int .i64 (k:Nat)]]) (by simp[results,Tryz.results30,go_sem,r0,r1]) rfl (HF.out _ 4 (k:Nat) H1.out H2.out (by decide) Y4)
   go_wp2_with fail
   refine(reflen_any xd xn (xl:Nat) (tl:Nat) HLE.out _).mono ?_;rintro e w4 ⟨rfl,y4⟩;have X4:=XR.on y4;have Y4:=yr.trans (y4.mono yr.size);have HO4:=Lib.hid (kbv7 HO.out y4);clear q1 q2 q3 XR yr ysz HO;obtain⟨-,q1,q2,q3⟩:=(h.on Y4).cells HX.out;have Y4s:=Y4.size;by_cases hbig:1024<m-n2+tl
   ·have hRR:RR=(14,((k:Nat):Int),win):=by rw[HS.out,if_neg (show ¬(m:Int)<xd by omega),if_pos hbig]
    have H1:=Lib.hid (show RR.1=14 by rw[hRR]);have H2:=Lib.hid (show RR.2.1=(k:Nat) by rw[hRR]);clear hRR HS
    go_wp2_with fail
    refine(kan7 _ _ _).mono ?_;rintro e w5 ⟨rfl,y5⟩;have X5:=X4.on y5;have Y5:=Y4.trans (y5.mono Y4.size);obtain⟨f0,f1,f2,f3,f4⟩:=X5.facts
    go_wp2
    have r0:=((X5.set0 (.int .i64 14)).set1 (.int .i64 (k:Nat))).c0;have r1:=((X5.set0 (.int .i64 14)).set1 (.int .i64 (k:Nat))).c1;exact bodyPost_ret (v:=.tuple #[.slice none 0 0,.agg #[.int .i64 14,.int .i64 (k:Nat)]]) (by simp[results,Tryz.results30,go_sem,r0,r1]) rfl (HF.out _ 14 (k:Nat) H1.out H2.out (by decide) Y5)
   have HNX:=Lib.hid (show RR=expf n2 (xs.drop (k+1)) (k+1) (ext win ⟨xd,xn,xl⟩) by rw[HS.out,if_neg (show ¬(m:Int)<xd by omega),if_neg hbig]);clear HS HLE;rcases HOK.out with⟨h1,h2⟩|⟨h0,h1,h2,h3,h4⟩
   ·dsimp only at h1 h2;subst h1 h2;have hev:ext win ⟨0,0,xl⟩=win++[xl]:=rfl;obtain rfl:tl=1:=by rw[HTL.out];rfl
    rw[hev] at HNX;have HBC:=Lib.hid (show bcells (win++[xl])=bcells win++[.int .u8 (xl:Nat)] by rw[kao7];rfl);have HLL:=Lib.hid (show m+1=(win++[xl]).length by rw[List.length_append,←HM.out];rfl);clear hev
    go_wp2_with (at_builtin;refine kat7 _ rfl _ _ _ rfl w.heap.size 5 i0 _ 1 Tryz.underlying22 hi hz0 hz1 hz2 rfl _ _ _ rfl HO4.out (.int .u8 (xl:Nat)) rfl rfl ?g1 ?g2 Y4s ?_)
    case g1=>unfold maxLen;omega
    case g2=>omega
    intro A5 c5 w5 ho5 hg5;have Y5:=kx7 Y4 HO4.out hg5 (Nat.le_refl _) Y4s;have X5:=X4.grown hg5 (kac7 HO4.out X4 (by decide)).symm;rw[←HBC.out] at ho5;have HO5:=Lib.hid ho5;clear ho5 hg5 q1 q2 q3 X4 Y4;obtain⟨-,q1,q2,q3⟩:=(h.on Y5).cells HX.out
    go_wp2_with fail
    go_loopw [7,9] (fun s i wr=>s=.slice A5 (m+1) c5∧i=.int .i64 0∧wr=w5) (fun _ i _=>0)
    case atStart=>exact⟨rfl,rfl,rfl⟩
    case round =>
     obtain⟨rfl,rfl,rfl⟩:=hrel
     go_wp2_with fail
     go_roundw
     case rel=>exact⟨k+1,m+1,A5,c5,_,by omega,by go_num,rfl,HLL.out,by omega,by omega,Y5,X5,HO5.out,HNX.out⟩
     case measure=>simp[intOf]<;>omega
   ·dsimp only at h0 h1 h2 h3 h4;obtain⟨d,rfl⟩:=Int.eq_ofNat_of_zero_le (show 0≤xd by omega);obtain⟨n,rfl⟩:=Int.eq_ofNat_of_zero_le (show 0≤xn by omega);have hev:ext win ⟨(d:Nat),(n:Nat),xl⟩=copyN d n win:=by unfold ext;dsimp only;rw[if_neg (by omega)];rfl
    obtain rfl:tl=n:=by rw[HTL.out];unfold tlen;dsimp only;rw[if_neg (by omega)];rfl
    rw[hev] at HNX;have hd0:((d:Int) == 0)=false:=by rw[beq_eq_false_iff_ne];omega
    clear hev h0
    go_wp2_with fail
    clear q1 q2 q3
    go_loopw [7,9] (fun s i wr=>∃ j M:Nat,∃ A' c',j≤tl∧i=.int .i64 j∧M=m+j∧s=.slice A' M c'∧Below w.heap.size w wr∧Two wr w.heap.size 24 (.int .i64 0) (.int .i64 0) ∧
      wr.ownsRow w.heap.size 5 1 (.slice A' M c') M (bcells (copyN d j win))) (fun _ i _=>tl-(intOf i).toNat)
    case atStart=>exact⟨0,m,A',c',Nat.zero_le _,rfl,rfl,rfl,Y4,X4,HO4.out⟩
    case round =>
     obtain⟨j,M,A6,c6,hj,rfl,hM,rfl,Y6,X6,ho6⟩:=hrel;have HO6:=Lib.hid ho6;have HMM:=Lib.hid hM;have hM1:m≤M:=by omega
     have hM2:M≤m+1024:=by omega
     have Y6s:=Y6.size;clear ho6 hM Y4 X4 HO4;obtain⟨-,q1,q2,q3⟩:=(h.on Y6).cells HX.out;by_cases hjn:j<tl
     ·have hlen:(copyN d j win).length=M:=by rw[kbi7,HMM.out,←HM.out]
      obtain⟨b6,o6,rfl,hb6,hc6⟩:=(Rd.own HO6.out).2.2.2 (by omega);have hcell:=hc6 (M-d) _ (kbx7 (copyN d j win) (M-d) (by omega));obtain⟨v,hv⟩:∃ v,v=(copyN d j win).getD (M-d) 0:=⟨_,rfl⟩
      rw[←hv] at hcell;have HBC:=Lib.hid (show bcells (copyN d (j+1) win)=bcells (copyN d j win)++[.int .u8 (v:Nat)] by rw[kfq7,hlen,←hv,kao7];rfl);clear hc6 hv hlen;have j1:(0:Int)≤(M:Int)-(d:Int):=by omega
      have j2:(M:Int)-(d:Int)<(M:Int):=by omega
      have j3:((M:Int)-(d:Int)).toNat=M-d:=by omega
      go_wp2_with (at_builtin;refine kat7 _ rfl _ _ _ rfl w.heap.size 5 i0 _ 1 Tryz.underlying22 hi hz0 hz1 hz2 rfl _ _ _ rfl HO6.out (.int .u8 (v:Nat)) rfl rfl ?g1 ?g2 Y6s ?_)
      case g1=>unfold maxLen;omega
      case g2=>omega
      intro A7 c7 w7 ho7 hg7;have Y7:=kx7 Y6 HO6.out hg7 (Nat.le_refl _) Y6s;have X7:=X6.grown hg7 (kac7 HO6.out X6 (by decide)).symm;rw[←HBC.out] at ho7;have HO7:=Lib.hid ho7;clear ho7 hg7 X6 Y6 j1 j2 j3 q1 q2 q3
      go_wp2_with fail
      go_roundw
      case rel=>exact⟨j+1,M+1,A7,c7,by omega,by go_num,by rw[HMM.out];omega,rfl,Y7,X7,HO7.out⟩
      case measure=>simp[intOf]<;>omega
     ·obtain rfl:j=tl:=by omega
      go_wp2_with fail
      go_roundw
      case rel=>exact⟨k+1,M,A6,c6,_,by omega,by go_num,rfl,by rw[kbi7,HMM.out,←HM.out],by omega,by have:=HMM.out;omega,Y6,X6,HO6.out,HNX.out⟩
      case measure=>simp[intOf]<;>omega
  ·obtain rfl:k=xs.length:=by omega
   have hRR:RR=(0,0,win):=by rw[HR.out,List.drop_eq_nil_of_le (Nat.le_refl _)];rfl
   have H1:=Lib.hid (show RR.1=0 by rw[hRR]);have H2:=Lib.hid (show RR.2.1=0 by rw[hRR]);have H3:=Lib.hid (show RR.2.2=win by rw[hRR]);obtain⟨At,hcut,hrt⟩:=Rd.tail (A:=A') (n:=m) (c:=c') 22 5 i0 Tryz.underlying22 hi hz1 (Reads.cap (Rd.own HO.out)) n2 hm1;obtain⟨f0,f1,f2,f3,f4⟩:=XR.facts;have HRT:=Lib.hid hrt;clear hrt hRR hz0 hz1 hz2 hi
   go_wp2
   have r0:=((XR.set0 (.int .i64 0)).set1 (.int .i64 0)).c0;have r1:=((XR.set0 (.int .i64 0)).set1 (.int .i64 0)).c1;refine bodyPost_ret (v:=.tuple #[.slice At (m-n2) (c'-n2),.agg #[.int .i64 0,.int .i64 0]]) (by simp[results,Tryz.results30,go_sem,r0,r1]) rfl ⟨At,m-n2,c'-n2,by rw[H1.out,H2.out],?_,(yr.setCell (Nat.le_refl _) _).setCell (Nat.le_refl _) _⟩;rw[if_pos H1.out,H3.out];have hne:=kac7 HO.out XR (by decide);have hown:=kf7 (kf7 HO.out (p:=⟨w.heap.size,0,none⟩) hne (.int .i64 0)) (p:=⟨w.heap.size,1,none⟩) hne (.int .i64 0);have:=HRT.out _ _ (Rd.own hown);rw[show bcells (win.drop n2)=(bcells win).drop n2 by simp[bcells,List.map_drop]];exact this
theorem refun_mod{A:Option Addr}{n c N:Nat}{p:List Nat}{w:World}(h:Rd w A (8*n) c (ncells (allbits p)))(hp:p.length=n)(hn:n≤1025)(hN:N≤1024) :
  Calls Tryz.prog 27 #[.slice A (8*n) c,.int .i64 (N:Nat)] w fun e w'=>∃ A' n' c' M D,e=.returned (.tuple #[.slice A' n' c',.int .i64 (M:Nat)])∧UUnp p N D (decide (n=(M+9) / 8))∧M≤114688∧Rd w' A' n' c' (bcells D)∧Below w.heap.size w w' :=
 (unmodeled_any h (kae7 p) (by rw[km7];omega) N hN (N:Nat) rfl).mono fun e w' ⟨A',n',c',l,M,h1,h2,h3,h4,h5,h6,h7⟩=>by
  have h8:=(dst_ok (X:=allbits p) (l:=l) (kae7 p)).2.1;exact⟨A',n',c',M,pack l,h1,by rw[←hp];exact uunp_ref h2 h3 h4 h5,by omega,h6,h7⟩
def RUOut(code dict:List Nat)(w:World)(e:Ending)(w':World):Prop :=
 ∃ A' m' c' D ok,e=.returned (.tuple #[.slice A' m' c',.bool ok])∧UNP code dict D ok∧(ok=true→Rd w' A' m' c' (bcells D))∧Below w.heap.size w w'
theorem kjc7{A:Option Addr}{n c:Nat}{code:List Nat}{A2:Option Addr}{n2 c2:Nat}{dict:List Nat}{w:World}(h:Rd w A n c (bcells code))(h2:Rd w A2 n2 c2 (bcells dict))(hn:n≤1025)(hn2:n2≤512)(hd:∀ k,code.getD k 0<256) :
  Calls Tryz.prog 14 #[.slice A n c,.slice A2 n2 c2] w (RUOut code dict w):=by
 have e1:=h.len;rw[ka7] at e1;have E1:=Lib.hid e1;have e2:=h2.len;rw[ka7] at e2;have E2:=Lib.hid e2;have H:=Lib.hid h;have H2:=Lib.hid h2;have HD:=Lib.hid hd;have hcap:=h.2.1;have hcm:=h.2.2.1;unfold maxLen at hcm;obtain⟨i0,hi,hz0,hz1,hz2⟩:=info_parts kar7;obtain⟨j0,ji,jz0,jz1,jz2⟩:=info_parts kdq7;have y0:=Lib.hid (Below.refl w.heap.size w);clear h2 hd e1 e2
 go_enter Tryz.func14,Tryz.ntmps14
 rcases Nat.eq_zero_or_pos n with rfl|hpos
 ·have HU:=Lib.hid (show UNP code dict [] false from .inl ⟨List.eq_nil_of_length_eq_zero E1.out,rfl,rfl⟩);clear h
  go_wp2_with fail
  go_ret2
  exact⟨_,_,_,[],false,rfl,HU.out,(fun h=>by cases h),y0.out⟩
 ·obtain⟨bA,off,rfl,hbA,hcc⟩:=Reads.byte h hpos;have x0:=hcc 0 hpos;rw[Nat.add_zero] at x0;have hne0:((n:Int) == 0)=false:=by simp;omega
  obtain⟨hd0,hcode⟩:∃ tl,code=code.getD 0 0::tl:=by
   cases code with
   | nil=>have:=E1.out;simp at this;omega
   | cons y tl=>exact⟨tl,rfl⟩
  obtain⟨x,hx⟩:∃ x,x=code.getD 0 0:=⟨_,rfl⟩
  rw[←hx] at x0;have hxl:=HD.out 0;rw[←hx] at hxl;have HX:=Lib.hid hx;have HCC:=Lib.hid hcc;clear hx hcc h;rw[←HX.out] at hcode;have HCODE:=Lib.hid hcode;have htl:1+hd0.length=n:=by have:=E1.out;rw[hcode] at this;simp at this;omega
  have HTL:=Lib.hid htl;clear hcode htl;by_cases hx2:2<x
  ·have hx2z:(2:Int)<(x:Int):=by omega
   have HU:=Lib.hid (show UNP code dict [] false from .inr (.inl ⟨x,hd0,HCODE.out,hx2,rfl,rfl⟩))
   go_wp2_with fail
   go_ret2
   exact⟨_,_,_,[],false,rfl,HU.out,(fun h=>by cases h),y0.out⟩
  ·have hx2z:¬(2:Int)<(x:Int):=by omega
   by_cases hx0:x=0
   ·subst hx0;have hz:(((0:Nat):Int))=0:=rfl;rw[hz] at x0;obtain⟨A1,hrun,hr1⟩:=Rd.tail (P:=Tryz.prog) (A:=some ⟨bA,off,none⟩) (c:=c) 22 5 i0 Tryz.underlying22 hi hz1 hcap 1 (by omega);have hrun1:∀ W,(Instr.slice 22 (.slice (some ⟨bA,off,none⟩) n c) (some (.int .i64 1)) none none).run Tryz.prog W=.ok (.slice A1 (n-1) (c-1)) W:=hrun;have R1:=hr1 w _ H.out;have ed:(bcells code).drop 1=bcells hd0:=by rw[HCODE.out];rfl
    rw[ed] at R1;have HR1:=Lib.hid R1;have HU:=Lib.hid (show UNP code dict hd0 true from .inr (.inr (.inl ⟨hd0,HCODE.out,rfl,rfl⟩)));clear hx2 hx2z hrun hr1 ed R1
    go_wp2_with fail
    go_ret2
    exact⟨A1,n-1,c-1,hd0,true,rfl,HU.out,fun _=>HR1.out,y0.out⟩
   ·have hx0z:((x:Int) == 0)=false:=by simp;omega
    have hx0p:(0:Int)<(x:Int):=by omega
    by_cases hn3:n<3
    ·have hn3z:(n:Int)<3:=by omega
     have HU:=Lib.hid (show UNP code dict [] false from .inr (.inr (.inr (.inl ⟨x,hd0,HCODE.out,by omega,by omega,by have:=HTL.out;omega,rfl,rfl⟩))))
     go_wp2_with fail
     go_ret2
     exact⟨_,_,_,[],false,rfl,HU.out,(fun h=>by cases h),y0.out⟩
    ·have hn3z:¬(n:Int)<3:=by omega
     go_upto_region 5 with(fail)
     obtain⟨a,b,p,hdd⟩:∃ a b p,hd0=a::b::p:=by
      have:=HTL.out
      match hd0,this with
      | [],h=>simp at h;omega
      | [_],h=>simp at h;omega
      | a::b::p,_=>exact⟨a,b,p,rfl⟩
     have hc1:=HCC.out 1 (by omega);have hc2:=HCC.out 2 (by omega);have ha:=HD.out 1;have hb:=HD.out 2;have hcode:=HCODE.out;rw[hdd] at hcode;rw[show code.getD 1 0=a by rw[hcode];rfl] at hc1 ha;rw[show code.getD 2 0=b by rw[hcode];rfl] at hc2 hb;have HCODE2:=Lib.hid hcode;have hpl:p.length=n-3:=by have:=HTL.out;rw[hdd] at this;simp at this;omega
     have HPL:=Lib.hid hpl;clear hcode hdd hpl;have hj1:(1:Int)<(n:Int):=by omega
     have hj2:(2:Int)<(n:Int):=by omega
     go_quiet (fail)
     obtain⟨N,hN⟩:∃ N,N=a+256*b:=⟨_,rfl⟩
     rw[show(a:Int)+256*(b:Int)=((N:Nat):Int) by omega];have hbd:Below w.heap.size w (w.drewN nq):=⟨rfl,rfl,rfl,Nat.le_refl _,fun _ _=>rfl⟩
     have y1:=Lib.hid hbd;have H1:=Lib.hid (H.out.on hbd);have H21:=Lib.hid (H2.out.on hbd);have x1:(w.drewN nq).cell? ⟨bA,off,none⟩=some (.int .u8 (x:Nat)):=x0;have HN:=Lib.hid hN;have hNl:N≤66000:=by omega
     clear hc1 hc2 ha hb hN hj1 hj2 hbd x0 HCC;generalize w.drewN nq=w2 at y1 H1 H21 x1 ⊢;by_cases hNb:1024<N
     ·have hNz:(1024:Int)<(N:Int):=by omega
      have HU:=Lib.hid (show UNP code dict [] false from .inr (.inr (.inr (.inr (.inl ⟨x,a,b,p,HCODE2.out,by omega,by omega,by rw[←HN.out];exact hNb,rfl,rfl⟩)))))
      go_wp2_with fail
      go_ret2
      exact⟨_,_,_,[],false,rfl,HU.out,(fun h=>by cases h),y1.out⟩
     ·have hNz:¬(1024:Int)<(N:Int):=by omega
      obtain⟨A1,hrun,hr1⟩:=Rd.tail (P:=Tryz.prog) (A:=some ⟨bA,off,none⟩) (c:=c) 22 5 i0 Tryz.underlying22 hi hz1 hcap 3 (by omega);have hrun1:∀ W,(Instr.slice 22 (.slice (some ⟨bA,off,none⟩) n c) (some (.int .i64 3)) none none).run Tryz.prog W=.ok (.slice A1 (n-3) (c-3)) W:=hrun;have R1:=hr1 w2 _ H1.out;have ed:(bcells code).drop 3=bcells p:=by rw[HCODE2.out];rfl
      rw[ed] at R1;have R1H:=Lib.hid R1;have HDP:=Lib.hid (show ∀ k,p.getD k 0<256 from fun k=>by have:=HD.out (k+3);rw[HCODE2.out] at this;exact this);have HUN:=Lib.hid (show ∀ D ok,x=1→UUnp p N D ok→UNP code dict D ok from fun D ok h1 hh=>.inr (.inr (.inr (.inr (.inr (.inl ⟨a,b,p,by rw[←h1];exact HCODE2.out,by rw[←HN.out];omega,by rw[←HN.out];exact hh⟩))))));have HUM:=Lib.hid (show ∀ D ok,x=2→MUnp p dict N D ok→UNP code dict D ok from fun D ok h1 hh=>.inr (.inr (.inr (.inr (.inr (.inr ⟨a,b,p,by rw[←h1];exact HCODE2.out,by rw[←HN.out];omega,by rw[←HN.out];exact hh⟩))))));clear hrun hr1 ed R1
      go_wp2_with fail
      refine(allbits_any R1H.out HDP.out (by omega) (8*(n-3)) rfl).mono ?_;rintro e w3 ⟨A3,c3,rfl,o3,y3⟩;have R3:=Lib.hid (Rd.own o3);have Y3:=Lib.hid (y1.out.trans (y3.mono y1.out.size));have HX3:=Lib.hid (show(bcells code)[0]?=some (.int .u8 (x:Nat)) by rw[HCODE.out];rfl);have x3:=Rd.elem (H1.out.on y3) HX3.out;rw[Nat.add_zero] at x3;obtain⟨q,hq⟩:∃ q,q=n-3:=⟨_,rfl⟩
      rw[←hq] at R3 ⊢;have hqn:(n:Int)-3=(q:Int):=by omega
      have HQ:=Lib.hid hq;have hqb:q≤1022:=by omega
      have H3':=Lib.hid (H1.out.on y3);have S3':=Lib.hid (H21.out.on y3);clear o3 y3 x1 hq;rcases(by omega:x=1∨x=2) with rfl|rfl
      ·go_wp2_with fail
       refine(refun_mod R3.out (by rw[HPL.out,HQ.out]) (by omega) (by omega:N≤1024)).mono ?_;rintro e w4 ⟨A4,n4,c4,M,D,rfl,hU,hM,r4,y4⟩;have HU:=Lib.hid (HUN.out _ _ (by simp) hU);have R4:=Lib.hid r4;have Y4:=Lib.hid (Y3.out.trans (y4.mono Y3.out.size));clear hU r4 y4 x3;by_cases hqM:q=(M+9) / 8
       ·have hz1:((M:Int)+2+7) / 8=(q:Int):=by omega
        have HU2:=Lib.hid (show UNP code dict D true by have:=HU.out;rw[decide_eq_true hqM] at this;exact this)
        go_wp2_with fail
        go_ret2
        exact⟨A4,n4,c4,D,true,rfl,HU2.out,fun _=>R4.out,Y4.out⟩
       ·have hz1:(((M:Int)+2+7) / 8 == (q:Int))=false:=by simp;omega
        have HU2:=Lib.hid (show UNP code dict D false by have:=HU.out;rw[decide_eq_false hqM] at this;exact this)
        go_wp2_with fail
        go_ret2
        exact⟨A4,n4,c4,D,false,rfl,HU2.out,(fun h=>by cases h),Y4.out⟩
      ·obtain⟨cd,ix,ts,en,hD⟩:=dec_ex (kae7 p) N 0 (Nat.zero_le _);obtain⟨f1,f2,f3,f4⟩:=Dec.facts (kae7 p) hD (by omega) (Nat.zero_le _);rw[km7,HPL.out,←HQ.out] at f3;have HDE:=Lib.hid hD;have HF:=Lib.hid f1;have HF2:=Lib.hid f2;clear hD f1 f2 f4
       go_wp2_with fail
       refine(tokensat_any (by rw[km7,HPL.out,HQ.out]) R3.out (kae7 p) (by rw[km7,HPL.out];omega) (by omega:N≤1024) HDE.out).mono ?_;rintro e w4 ⟨A4,m4,c4,rfl,o4,y4⟩;have T4:=RdT.own o4;have y43:=Lib.hid (Y3.out.trans (y4.mono Y3.out.size));have x4:=Rd.elem (H3'.out.on y4) HX3.out;rw[Nat.add_zero] at x4;have S4:=S3'.out.on y4;have R4:=R3.out.on y4;clear o4 y4 x3;by_cases hc:cd=0
       ·subst hc;rw[if_pos rfl,if_pos rfl] at *;have HT:=Lib.hid (T4.alloc (.cells #[.int .i64 0,.int .i64 0] 24));have HS:=Lib.hid (S4.alloc (.cells #[.int .i64 0,.int .i64 0] 24));have HR:=Lib.hid (R4.alloc (.cells #[.int .i64 0,.int .i64 0] 24));have F5:=Two.new w4 24 (.int .i64 0) (.int .i64 0);have Z5:=Lib.hid (y43.out.alloc y43.out.size (.cells #[.int .i64 0,.int .i64 0] 24));have z0:((0:Nat):Int)=0:=rfl;have F5_c0:=F5.c0;have F5_c1:=F5.c1;clear T4 S4 R4 x4;by_cases h7:(en+7) / 8=q
        ·have h7z:((en:Int)+7) / 8=(q:Int):=by omega
         have hcapR:=HR.out.2.1;obtain⟨A6,hrun,hr1⟩:=Rd.tail (P:=Tryz.prog) (A:=A3) (n:=8*q) (c:=c3) 41 3 j0 Tryz.underlying41 ji jz1 hcapR en f3;have hrun1:∀ W,(Instr.slice 41 (.slice A3 (8*q) c3) (some (.int .i64 ((en:Nat):Int))) none none).run Tryz.prog W=.ok (.slice A6 (8*q-en) (c3-en)) W:=hrun;have R6:=hr1 _ _ HR.out;rw[show(ncells (allbits p)).drop en=ncells ((allbits p).drop en) by unfold ncells;rw[List.map_drop]] at R6;have HNR:=Lib.hid (kbn7 R6 ((kae7 p).drop en) (by rw[List.length_drop,km7,HPL.out,←HQ.out];omega));obtain⟨v,hv⟩:∃ v,v=num ((allbits p).drop en):=⟨_,rfl⟩
         rw[←hv] at HNR;have HV:=Lib.hid hv;clear hrun hr1 R6 hv
         go_wp2_with fail
         refine HNR.out.mono ?_;rintro e w5 ⟨rfl,rfl⟩;by_cases hv0:v=0
         ·subst hv0;simp only[z0]
          go_wp2_with fail
          have hokl:=HF.out;refine(refexp_ok HT.out HS.out (by have:=HF2.out;omega) (AllTok.of _ fun t ht=>(hokl t ht).1) hn2).mono ?_;obtain⟨R,hR⟩:∃ R,R=expf n2 ts 0 dict:=⟨_,rfl⟩
          have hR2:=expf_idx n2 ts 0 dict;rw[←hR] at hR2;have HRR:=Lib.hid hR;rw[←hR];obtain⟨code',idx,all⟩:=R;clear hR hokl;simp only at hR2;rintro e w6 ⟨A7,m7,c7,rfl,R7,y7⟩;simp only at R7;have F7:=F5.on y7;have Z7:=Lib.hid (Z5.out.trans (y7.mono Z5.out.size));have hw4:w.heap.size≤w4.heap.size:=y43.out.size;have R8:=Lib.hid (R7.farTwo F7 (.int .i64 code') (.int .i64 idx));have F8:=(F7.set0 (.int .i64 code')).set1 (.int .i64 idx);obtain⟨f0,f1,f2,f3,f4⟩:=F7.facts;obtain⟨g0,g1,g2,g3,g4⟩:=F8.facts;have Z8:=Lib.hid ((Z7.out.setCell (p:=⟨w4.heap.size,0,none⟩) hw4 (.int .i64 code')).setCell (p:=⟨w4.heap.size,1,none⟩) hw4 (.int .i64 idx));clear F5_c0 F5_c1 R7 y7 HNR;by_cases hc0:code'=0
          ·have hi0:=hR2 hc0;subst hc0 hi0;have HRR2:=Lib.hid (HUM.out (if (0:Int)=0 then all.drop n2 else []) true (by simp) ⟨0,ix,ts,en,HDE.out,.inr ⟨⟨rfl,by rw[HPL.out,←HQ.out];exact h7,HV.out.symm⟩,by rw[E2.out,←HRR.out],by rw[E2.out,←HRR.out];rfl⟩⟩);clear hR2
           go_wp2_with fail
           have Z9:=Lib.hid (belowD Z8.out);have R9:=Lib.hid (R8.out.drew)
           go_region
           go_wp2
           go_ret2
           exact⟨A7,m7,c7,_,true,rfl,HRR2.out,fun _=>R9.out,Z9.out⟩
          ·have hcz:(code' == 0)=false:=by simpa using hc0
           have HRR2:=Lib.hid (HUM.out (if code'=0 then all.drop n2 else []) false (by simp) ⟨0,ix,ts,en,HDE.out,.inr ⟨⟨rfl,by rw[HPL.out,←HQ.out];exact h7,HV.out.symm⟩,by rw[E2.out,←HRR.out],by rw[E2.out,←HRR.out];exact(decide_eq_false hc0).symm⟩⟩);clear hR2
           go_wp2_with fail
           have Z9:=Lib.hid (belowD Z8.out);have R9:=Lib.hid (R8.out.drew)
           go_region
           go_wp2
           go_ret2
           exact⟨A7,m7,c7,_,false,rfl,HRR2.out,(fun h=>by cases h),Z9.out⟩
         ·have hvz:¬((v:Nat):Int)=0:=by omega
          have HRR:=Lib.hid (HUM.out [] false (by simp) ⟨0,ix,_,en,HDE.out,.inl ⟨fun⟨_,_,hh⟩=>hv0 (by rw[HV.out,hh]),rfl,rfl⟩⟩)
          go_wp2_with fail
          go_ret2
          exact⟨_,_,_,[],false,rfl,HRR.out,(fun h=>by cases h),Z5.out⟩
        ·have h7z:¬((en:Int)+7) / 8=(q:Int):=by omega
         have HRR:=Lib.hid (HUM.out [] false (by simp) ⟨0,ix,_,en,HDE.out,.inl ⟨fun⟨_,hh,_⟩=>h7 (by rw[hh,HPL.out,HQ.out]),rfl,rfl⟩⟩)
         go_wp2_with fail
         go_ret2
         exact⟨_,_,_,[],false,rfl,HRR.out,(fun h=>by cases h),Z5.out⟩
       ·have HRR:=Lib.hid (HUM.out [] false (by simp) ⟨cd,ix,_,en,HDE.out,.inl ⟨fun⟨hh,_⟩=>hc hh,rfl,rfl⟩⟩);have hcz:¬((cd:Nat):Int)=0:=by omega
        rw[if_neg hc,if_neg hc] at *;have Z5:=Lib.hid (y43.out.alloc y43.out.size (.cells #[.int .i64 (cd:Nat),.int .i64 (ix:Nat)] 24))
        go_wp2_with fail
        go_ret2
        exact⟨_,_,_,[],false,rfl,HRR.out,(fun h=>by cases h),Z5.out⟩
end PB
end
end Go.Proofs.YtnpcandaehejbaaGreat
