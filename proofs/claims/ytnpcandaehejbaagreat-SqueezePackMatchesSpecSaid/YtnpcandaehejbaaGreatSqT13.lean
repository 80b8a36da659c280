/-
  The reference's Counts and Predicted.
-/
import Derived.ProofKit
import Derived.OpenShut
import Derived.ShutString
import Derived.ChangeOld
import Derived.Lib.SmallJoins
import Derived.Deep.Slices
import Derived.Deep.Fields
import Derived.ChangeSame
import Derived.HandedShaped
import Derived.Test.YtnpcandaehejbaaGreatSqT7
import Derived.Test.YtnpcandaehejbaaGreatSqT8
import Derived.Test.YtnpcandaehejbaaGreatSqT9
import Derived.Test.YtnpcandaehejbaaGreatSqT11
import Derived.Test.YtnpcandaehejbaaGreatSqT12
set_option linter.unusedVariables false
set_option linter.unusedSimpArgs false
set_option linter.unusedSectionVars false
set_option maxHeartbeats 6400000
set_option maxRecDepth 100000
namespace Go.Proofs.YtnpcandaehejbaaGreat
section
open Go.RowKit
attribute [local go_sem ↓] Go.wp_at_zero Go.wp_at_succ
namespace PB
theorem ctx_small{h:List Nat}(h01:Is01 h)(i o:Nat)(hi:i≤h.length)(ho:o≤2):CtxOk (ctx h i o):=by
 have a:=mlast_lt h i;have b:=kiq7 h i;have c:=(kgb7 h01 i hi).2;unfold CtxOk ctx;dsimp only;refine⟨by omega,?_,?_,c⟩
 ·split<;>omega
 ·split<;>omega
theorem arr_row:(123:TypeId)<Tryz.prog.types.size:=of_decide_eq_true (by kernel_rfl)
theorem arr_law:Go.Maps.Keyed Tryz.prog 123 :=
 Go.Maps.Keyed.of_law (deep_law_laid laid_out (m:=2) (by omega) arr_row (by kernel_rfl) (by kernel_rfl))
theorem arr_cells:Tryz.prog.cellsOf 123=4:=by kernel_rfl
theorem arr_kt:Tryz.prog.keyType 123=true:=by kernel_rfl
theorem key4_any{c:Ctx}(h:CtxOk c):∃ l,keyOf Tryz.prog 123 (cval c)=some l:=by
 obtain⟨ha,hb,hc,hd⟩:=h;have key:∀ x:Nat,x<256→(Lit.int .i64 (x:Nat)).wf=true:=by
  intro x hx;exact WalkArith.wf_i64 (by omega)
 have k1:=key _ ha;have k2:=key _ hb;have k3:=key _ hc;have k4:=key _ hd;obtain⟨m,hm⟩:∃ m,Tryz.prog.types.size=m+1:=⟨_,Tryz.types_size⟩
 unfold keyOf;simp only[Tryz.underlying123];rw[if_pos (by simp[arr_kt,Value.formed,cval,Tryz.underlying123,arr_cells]),hm];unfold Program.keyLits;simp only[Tryz.underlying123,cval,Value.cells,arr_cells,khi7];rw[show List.range 4=[0,1,2,3] from rfl];simp[Program.keyLits,Tryz.underlying3,khi7,k1,k2,k3,k4]
theorem ctx_guard(x y:Ctx)(W:World)(o1 o2:Operand):(eqGuard .neq 123 o1 o2 (cval x) (cval y)).run Tryz.prog W=.ok () W :=
 run_eqGuard_agg W .neq 123 o1 o2 _ _ (by kernel_rfl)
theorem ctx_neq{x y:Ctx}(hx:CtxOk x)(hy:CtxOk y)(W:World)(b:Bool)(hb:b=decide (x≠y)):(binOp .neq 123 (cval x) (cval y)).run Tryz.prog W=.ok (.bool b) W:=by
 obtain⟨lx,hlx⟩:=key4_any hx;obtain⟨ly,hly⟩:=key4_any hy;obtain⟨r,hr,hrr⟩:=run_equal_deep (P:=Tryz.prog) W (m:=2) (by omega) (k:=123) (by kernel_rfl) (by kernel_rfl) hlx hly;have e:r=decide (x=y):=by
  by_cases h:x=y
  ·subst h;rw[hlx] at hly;cases hly;rw[hrr.2 rfl];simp
  ·have:¬r=true:=fun hh=>h (cval_inj (arr_law.inj hlx ((hrr.1 hh) ▸ hly)));simp[h,this]
 rw[hb];simp only[cval] at hr ⊢;simp[binOp,hr,e,go_sem]
theorem counts_any{A:Option Addr}{n c:Nat}{h:List Nat}{w:World}(hr:Rd w A n c (ncells h))(h01:Is01 h)(i o:Nat)(hi:i≤h.length)(hi2:i≤100000)(ho:o≤2)(ii oi:Int)(hii:ii=(i:Nat))(hoi:oi=(o:Nat)) :
  Calls Tryz.prog 70 #[.slice A n c,.int .i64 ii,.int .i64 oi] w fun e w'=>e=.returned (.tuple #[.int .i64 ((hcnt h i o).1:Nat),.int .i64 ((hcnt h i o).2:Nat)])∧Below w.heap.size w w':=by
 subst hii hoi;have hn:=hr.len;rw[kz7] at hn;have hcap:=Reads.cap hr;have hcm:=Reads.capMax hr;unfold maxLen at hcm;have HR:=Lib.hid hr;have H01:=Lib.hid h01;have HC0:=Lib.hid (refctx_any hr h01 i o hi ho _ _ rfl rfl);obtain⟨X,hX⟩:∃ X,X=ctx h i o:=⟨_,rfl⟩
 have hXok:CtxOk X:=by
  rw[hX];exact ctx_small h01 i o hi ho
 rw[←hX] at HC0;have HE:=Lib.hid (show hcnt h i o=cnts h o X i by rw[hX];rfl);have HXO:=Lib.hid hXok;obtain⟨x1,x2,x3,x4⟩:=X;rw[HE.out];clear hr h01 hX hXok
 go_enter Tryz.func70,Tryz.ntmps70
 go_wp2_with fail
 refine HC0.out.mono ?_;rintro e w1 ⟨rfl,y1⟩;have HY1:=Lib.hid y1;clear y1;unfold cval;have G0:=Four.new w1 123 (.int .i64 (x1:Nat)) (.int .i64 (x2:Nat)) (.int .i64 (x3:Nat)) (.int .i64 (x4:Nat));have y2:=HY1.out.alloc HY1.out.size (.cells #[.int .i64 (x1:Nat),.int .i64 (x2:Nat),.int .i64 (x3:Nat),.int .i64 (x4:Nat)] 123)
 go_upto_region 4 with(fail)
 obtain⟨hb,hhb⟩:∃ hb,hb=w1.heap.size:=⟨_,rfl⟩
 rw[←hhb] at G0 ⊢;generalize w1.alloc (.cells #[.int .i64 (x1:Nat),.int .i64 (x2:Nat),.int .i64 (x3:Nat),.int .i64 (x4:Nat)] 123)=w2 at G0 y2 ⊢;have HG0:=Lib.hid G0;have HY2:=Lib.hid y2;clear G0 y2 hhb HY1
 go_loopw [9,10,11] (fun zv ov kv wr=>∃ (k z p:Nat),k≤i∧kv=.int .i64 (k:Nat)∧zv=.int .i64 (z:Nat)∧ov=.int .i64 (p:Nat)∧cnts h o (x1,x2,x3,x4) k=(z,p)∧Four wr hb 123 (.int .i64 (x1:Nat)) (.int .i64 (x2:Nat)) (.int .i64 (x3:Nat)) (.int .i64 (x4:Nat))∧Below w.heap.size w wr) (fun _ _ kv _=>i-(intOf kv).toNat)
 case atStart=>exact⟨0,0,0,Nat.zero_le _,rfl,rfl,rfl,rfl,HG0.out,HY2.out⟩
 case round =>
  obtain⟨k,z,p,hk,rfl,rfl,rfl,hzp,G,yr⟩:=hrel;have hle:=cnts_le h o (x1,x2,x3,x4) k;rw[hzp] at hle;dsimp only at hle;have HZP:=Lib.hid hzp;have HG:=Lib.hid G;have HY:=Lib.hid yr;have g0:=G.c0;have g1:=G.c1;have g2:=G.c2;have g3:=G.c3;clear hzp G yr HG0 HY2;by_cases hlt:k<i
  ·obtain⟨Y,hY⟩:∃ Y,Y=ctx h k o:=⟨_,rfl⟩
   have hYok:CtxOk Y:=by rw[hY];exact ctx_small H01.out k o (by omega) ho
   have HCK:=Lib.hid (fun W (hW:Rd W A n c (ncells h))=>refctx_any hW H01.out k o (by omega) ho _ _ rfl rfl);rw[←hY] at HCK;obtain⟨b,hb'⟩:∃ b,b=decide (Y≠(x1,x2,x3,x4)):=⟨_,rfl⟩
   have hneq:=fun W=>ctx_neq hYok HXO.out W b hb';unfold cval at hneq;have hneq':∀ W,(binOp .neq 123 (cval Y) (.agg #[.int .i64 (x1:Nat),.int .i64 (x2:Nat),.int .i64 (x3:Nat),.int .i64 (x4:Nat)])).run Tryz.prog W=.ok (.bool b) W:=hneq;have hgd:∀ W o1 o2,(eqGuard .neq 123 o1 o2 (cval Y) (.agg #[.int .i64 (x1:Nat),.int .i64 (x2:Nat),.int .i64 (x3:Nat),.int .i64 (x4:Nat)])).run Tryz.prog W=.ok () W:=fun W o1 o2=>ctx_guard Y (x1,x2,x3,x4) W o1 o2;clear hneq;have HYY:=Lib.hid hY;have HB:=Lib.hid hb';clear hY hb' hYok;have HRW:=Lib.hid ((HR.out.on HY.out).drew);cases b
   ·go_upto_region 6 with(fail)
    go_region_held3 (fun w'=>w'.cell? ⟨hb,0,none⟩=some (.int .i64 (x1:Nat))∧w'.cell? ⟨hb,1,none⟩=some (.int .i64 (x2:Nat))∧w'.cell? ⟨hb,2,none⟩=some (.int .i64 (x3:Nat))∧w'.cell? ⟨hb,3,none⟩=some (.int .i64 (x4:Nat))) (go_keep) ((go_at_call 80;refine(HCK.out _ HRW.out).mono ?_;rintro e w5 ⟨rfl,y5⟩;have G5:=Lib.hid ((Four.drew HG.out).on y5);have e0:=G5.out.c0;have e1:=G5.out.c1;have e2:=G5.out.c2;have e3:=G5.out.c3;have Y5:=Lib.hid ((belowD HY.out).trans (y5.mono (belowD HY.out).size));clear y5))
    have HYX:=Lib.hid (show ctx h k o=(x1,x2,x3,x4) by have:=HB.out;rw[←HYY.out];simpa using this.symm);clear g0 g1 g2 g3 e0 e1 e2 e3;obtain⟨g,off,rfl,hg,hc⟩:=(HR.out.on Y5.out).2.2.2 (by omega);have hcell:=hc k _ (kad7 h k (by omega));have hx2:=H01.out k;obtain⟨x,hx⟩:∃ x,x=h.getD k 0:=⟨_,rfl⟩
    rw[←hx] at hcell hx2;have HXX:=Lib.hid hx;clear hc hx;rcases(by omega:x=0∨x=1) with rfl|rfl
    ·clear hx2;rcases(by omega:z+p<254∨z+p=254) with hsm|hbig
     ·have HU:=Lib.hid (show cnts h o (x1,x2,x3,x4) (k+1)=(z+1,p) by
       rw[cnts,if_pos HYX.out,HZP.out,←HXX.out];unfold upd halve;rw[if_neg (by decide),if_neg (by dsimp only;omega)])
      go_wp2_with fail
      go_roundw
      case rel=>exact⟨k+1,z+1,p,by omega,by go_num,by go_num,by go_num,HU.out,G5.out,Y5.out⟩
      case measure=>simp[intOf]<;>omega
     ·have HU:=Lib.hid (show cnts h o (x1,x2,x3,x4) (k+1)=((z+2) / 2,(p+1) / 2) by
       rw[cnts,if_pos HYX.out,HZP.out,←HXX.out];unfold upd halve;rw[if_neg (by decide),if_pos (by dsimp only;omega)])
      have ht:(z:Int)+1+(p:Int)=255:=by omega
      go_wp2_with fail
      go_roundw
      case rel=>exact⟨k+1,(z+2) / 2,(p+1) / 2,by omega,by go_num,by congr 1;omega,by congr 1;omega,HU.out,G5.out,Y5.out⟩
      case measure=>simp[intOf]<;>omega
    ·clear hx2;rcases(by omega:z+p<254∨z+p=254) with hsm|hbig
     ·have HU:=Lib.hid (show cnts h o (x1,x2,x3,x4) (k+1)=(z,p+1) by
       rw[cnts,if_pos HYX.out,HZP.out,←HXX.out];unfold upd halve;rw[if_pos rfl,if_neg (by dsimp only;omega)])
      go_wp2_with fail
      go_roundw
      case rel=>exact⟨k+1,z,p+1,by omega,by go_num,by go_num,by go_num,HU.out,G5.out,Y5.out⟩
      case measure=>simp[intOf]<;>omega
     ·have HU:=Lib.hid (show cnts h o (x1,x2,x3,x4) (k+1)=((z+1) / 2,(p+2) / 2) by
       rw[cnts,if_pos HYX.out,HZP.out,←HXX.out];unfold upd halve;rw[if_pos rfl,if_pos (by dsimp only;omega)])
      have ht:(z:Int)+((p:Int)+1)=255:=by omega
      go_wp2_with fail
      go_roundw
      case rel=>exact⟨k+1,(z+1) / 2,(p+2) / 2,by omega,by go_num,by congr 1;omega,by congr 1;omega,HU.out,G5.out,Y5.out⟩
      case measure=>simp[intOf]<;>omega
   ·go_upto_region 6 with(fail)
    go_region_held3 (fun w'=>w'.cell? ⟨hb,0,none⟩=some (.int .i64 (x1:Nat))∧w'.cell? ⟨hb,1,none⟩=some (.int .i64 (x2:Nat))∧w'.cell? ⟨hb,2,none⟩=some (.int .i64 (x3:Nat))∧w'.cell? ⟨hb,3,none⟩=some (.int .i64 (x4:Nat))) (go_keep) ((go_at_call 80;refine(HCK.out _ HRW.out).mono ?_;rintro e w5 ⟨rfl,y5⟩;have G5:=Lib.hid ((Four.drew HG.out).on y5);have e0:=G5.out.c0;have e1:=G5.out.c1;have e2:=G5.out.c2;have e3:=G5.out.c3;have Y5:=Lib.hid ((belowD HY.out).trans (y5.mono (belowD HY.out).size));clear y5))
    clear g0 g1 g2 g3 e0 e1 e2 e3
    go_wp2_with fail
    go_roundw
    case rel=>exact⟨k+1,z,p,by omega,by go_num,rfl,rfl,by rw[cnts,if_neg (by have:=HB.out;rw[HYY.out] at this;simpa using this.symm),HZP.out],G5.out,Y5.out⟩
    case measure=>simp[intOf]<;>omega
  ·obtain rfl:k=i:=by omega
   clear g0 g1 g2 g3
   go_wp2
   go_ret2
   exact⟨by rw[HZP.out];rfl,HY.out⟩
theorem predicted_any{A:Option Addr}{n c:Nat}{h:List Nat}{w:World}(hr:Rd w A n c (ncells h))(h01:Is01 h)(i ord:Nat)(hi:i≤h.length)(hi2:i≤100000)(ho:ord≤2)(ii oi:Int)(hii:ii=(i:Nat))(hoi:oi=(ord:Nat)) :
  Calls Tryz.prog 38 #[.slice A n c,.int .i64 ii,.int .i64 oi] w fun e w'=>e=.returned (.int .i64 (predv h i ord:Nat))∧Below w.heap.size w w':=by
 subst hii hoi;have HR:=Lib.hid hr;have H01:=Lib.hid h01;clear hr h01
 go_enter Tryz.func38,Tryz.ntmps38
 go_wp2_with fail
 go_loopw [7,8,9,10] (fun sv wv cv kv wr=>∃ (k S1 W1 sc:Nat),k≤ord+1∧kv=.int .i64 (k:Nat)∧sv=.int .i64 (S1:Nat)∧wv=.int .i64 (W1:Nat)∧cv=.int .i64 (sc:Nat)∧sc=4 ^ k∧pacc2 h i k=(S1,W1)∧1≤W1∧W1≤1+240*k∧S1≤2048+1000000*k∧Below w.heap.size w wr) (fun _ _ _ kv _=>ord+1-(intOf kv).toNat)
 case atStart=>exact⟨0,2048,1,1,by omega,rfl,rfl,rfl,rfl,rfl,rfl,by omega,by omega,by omega,Below.refl _ _⟩
 case round =>
  obtain⟨k,S1,W1,sc,hk,rfl,rfl,rfl,rfl,hsc,hacc,hw1,hw2,hs1,yr⟩:=hrel;have HA:=Lib.hid hacc;have HSC:=Lib.hid hsc;have HY:=Lib.hid yr;clear hacc hsc yr;by_cases hlt:k<ord+1
  ·have HC:=Lib.hid (counts_any (HR.out.on HY.out) H01.out i k hi hi2 (by omega) (i:Nat) (k:Nat) rfl rfl);have hcl:=cnts_le h k (ctx h i k) i;have HST:=Lib.hid (show pacc2 h i (k+1)=(S1+wgt (hcnt h i k) k*mshare (hcnt h i k),W1+wgt (hcnt h i k) k) by rw[pacc2,HA.out]);obtain⟨z,on,hzo⟩:∃ z on,hcnt h i k=(z,on):=⟨_,_,rfl⟩
   rw[show cnts h k (ctx h i k) i=hcnt h i k from rfl,hzo] at hcl;rw[hzo] at HST HC;dsimp only at hcl HC;clear hzo;obtain⟨hsh1,hsh2⟩:=khh7 (k:=(z,on)) hcl;have hws:=wgt_le (z,on) (o:=k) (by omega);have HWG:=Lib.hid (show wgt (z,on) k=min (z+on) 15*sc by rw[HSC.out];rfl);have HSH:=Lib.hid (show(2*(on:Int)+1)*2048 / ((z:Int)+(on:Int)+1)=((mshare (z,on):Nat):Int) by unfold mshare;simp);obtain⟨sh,hshd⟩:∃ sh,sh=mshare (z,on):=⟨_,rfl⟩
   obtain⟨ww,hwwd⟩:∃ ww,ww=wgt (z,on) k:=⟨_,rfl⟩
   rw[←hshd] at hsh1 hsh2 HST HSH;rw[←hwwd] at hws HST HWG;clear hshd hwwd;have hsw:ww*sh≤240*4087:=Nat.mul_le_mul hws hsh2;have hsw1:(ww:Int)*(sh:Int)=((ww*sh:Nat):Int):=by push_cast;rfl
   obtain⟨ws,hwsd⟩:∃ ws,ws=ww*sh:=⟨_,rfl⟩
   rw[←hwsd] at hsw hsw1 HST;have HSW:=Lib.hid hsw1;clear hwsd hsw1
   go_wp2_with fail
   refine HC.out.mono ?_;rintro e w5 ⟨rfl,y5⟩;have HY5:=Lib.hid (HY.out.trans (y5.mono HY.out.size));clear y5
   go_upto_region 9 with(fail)
   obtain⟨nn,hnn⟩:∃ nn,nn=z+on:=⟨_,rfl⟩
   have HNN:=Lib.hid (show(z:Int)+(on:Int)=((nn:Nat):Int) by omega);rw[HNN.out];rw[←hnn] at hcl HWG;have hlt2:on≤nn:=by omega
   rw[HNN.out] at HSH;clear hnn HNN;have hsc16:sc≤16:=by
    have e:=HSC.out;rcases(by omega:k=0∨k=1∨k=2) with r|r|r<;>(rw[r] at e;omega)
   have hm1:IntKind.i64.wrap ((ww:Int)*((2*(on:Int)+1)*2048 / ((nn:Int)+1)))=(ws:Int):=by
    rw[HSH.out,HSW.out];exact IntWalk.i64_in _ (by omega)
   rcases(by omega:nn≤15∨15<nn) with hn15|hn15
   ·have hwe:=HWG.out;rw[Nat.min_eq_left hn15] at hwe;have hm2:IntKind.i64.wrap ((nn:Int)*(sc:Int))=(ww:Int):=by
     rw[show(nn:Int)*(sc:Int)=((nn*sc:Nat):Int) by push_cast;rfl,←hwe];exact IntWalk.i64_in _ (by omega)
    clear hwe
    go_wp2_with fail
    go_roundw
    case rel=>exact⟨k+1,S1+ws,W1+ww,4*sc,by omega,by go_num,by go_num,by go_num,by go_num,by rw[HSC.out,Nat.pow_succ,Nat.mul_comm],HST.out,by omega,by omega,by omega,HY5.out⟩
    case measure=>simp[intOf]<;>omega
   ·have hwe:=HWG.out;rw[Nat.min_eq_right (by omega)] at hwe;have HW:=Lib.hid (show 15*(sc:Int)=((ww:Nat):Int) by omega);clear hwe
    go_upto_region 12 with(fail)
    rw[HW.out]
    go_wp2_with fail
    go_roundw
    case rel=>exact⟨k+1,S1+ws,W1+ww,4*sc,by omega,by go_num,by go_num,by go_num,by go_num,by rw[HSC.out,Nat.pow_succ,Nat.mul_comm],HST.out,by omega,by omega,by omega,HY5.out⟩
    case measure=>simp[intOf]<;>omega
  ·obtain rfl:k=ord+1:=by omega
   have HV:=Lib.hid (show predv h i ord=S1 / W1 by unfold predv;rw[HA.out]);have hle:S1 / W1≤S1:=Nat.div_le_self _ _;obtain⟨V,hVd⟩:∃ V,V=predv h i ord:=⟨_,rfl⟩
   rw[←hVd] at HV;have HVD:=Lib.hid hVd;have HE:=Lib.hid (show wrap64 ((S1:Int) / (W1:Int))=((V:Nat):Int) by
    have e1:(S1:Int) / (W1:Int)=((S1 / W1:Nat):Int):=rfl;rw[e1,HV.out];generalize S1 / W1=q at hle;exact IntWalk.wrap64_in _ (by omega))
   clear hle hVd
   go_wp2
   rw[HE.out]
   go_ret
   exact⟨by rw[HVD.out];rfl,HY.out⟩
theorem tokenbits_any(t:Tok)(hok:t.ok)(hlit:t.lit<256)(w:World) :
  Calls Tryz.prog 40 #[.agg #[.int .i64 t.d,.int .i64 t.n,.int .u8 (t.lit:Nat)]] w fun e w'=>∃ A c,e=.returned (.slice A (tokbits t).length c)∧w'.ownsRow w.heap.size 3 1 (.slice A (tokbits t).length c) (tokbits t).length (ncells (tokbits t))∧Below w.heap.size w w':=by
 obtain⟨i0,hi,hz0,hz1,hz2⟩:=info_parts kce7;obtain⟨td,tn,tl⟩:=t;have X0:=Three.new w 79 (.int .i64 td) (.int .i64 tn) (.int .u8 (tl:Nat));have y0:Below w.heap.size w (w.alloc (.cells #[.int .i64 td,.int .i64 tn,.int .u8 (tl:Nat)] 79)):=(Below.refl _ _).alloc (Nat.le_refl _) _;dsimp only at hlit ⊢;rcases hok with⟨h1,h2⟩|⟨h0,h1,h2,h3,h4⟩
 ·dsimp only at h1 h2;subst h1 h2;have htb:tokbits ⟨0,0,tl⟩=digs tl 9:=rfl;rw[htb,kaq7];clear htb
  go_enter Tryz.func40,Tryz.ntmps40
  go_wp2_with fail
  refine(digits_any tl 9 _ _ rfl rfl (by omega) (by decide) _).mono ?_;rintro e w1 ⟨A1,c1,rfl,o1,y1⟩;have HO:=Lib.hid (kaw7 o1 y0.size);have Y1:=y0.trans (y1.mono y0.size);clear o1
  go_wp2
  go_ret
  exact⟨A1,c1,rfl,HO.out,Y1⟩
 ·dsimp only at h0 h1 h2 h3 h4;obtain⟨d,rfl⟩:=Int.eq_ofNat_of_zero_le (show 0≤td by omega);obtain⟨n,rfl⟩:=Int.eq_ofNat_of_zero_le (show 0≤tn by omega);have htb:tokbits ⟨(d:Nat),(n:Nat),tl⟩=[1]++gam d++gam (n-2):=by unfold tokbits;dsimp only;rw[if_neg (by omega)];rfl
  rw[htb];obtain⟨G1,hG1⟩:∃ G,G=gsz d:=⟨_,rfl⟩
  obtain⟨G2,hG2⟩:∃ G,G=gsz (n-2):=⟨_,rfl⟩
  have hg1:G1≤22:=by rw[hG1];unfold gsz;have:=Lib.bitLen_le d 11 (by decide) (by omega);omega
  have hg2:G2≤22:=by rw[hG2];unfold gsz;have:=Lib.bitLen_le (n-2) 11 (by decide) (by omega);omega
  obtain⟨B,hB⟩:∃ B,B=[1]++gam d++gam (n-2):=⟨_,rfl⟩
  rw[←hB];obtain⟨N,hN⟩:∃ N,N=B.length:=⟨_,rfl⟩
  rw[←hN];have HN:=Lib.hid (show 1+G1+G2=N by rw[hN,hB,List.length_append,List.length_append,kbq7,kbq7,hG1,hG2];rfl);have HB:=Lib.hid (show Value.int .i64 1::(ncells (gam d)++ncells (gam (n-2)))=ncells B by rw[hB,kas7,kas7];rfl);clear hB;have q0:(d:Nat)=d:=rfl;have C1:=Lib.hid (fun W=>kdo7 d ((d:Nat):Int) rfl (by omega) (by omega) W);have C2:=Lib.hid (fun W=>kdo7 (n-2) ((n:Int)-2) (by omega) (by omega) (by omega) W);rw[←hG1] at C1;rw[←hG2] at C2;clear htb h0 hG1 hG2 hN q0;have c0:=X0.c0;have c1:=X0.c1;have hL:((w.alloc (.cells #[.int .i64 (d:Nat),.int .i64 (n:Nat),.int .u8 (tl:Nat)] 79)).alloc (.cells #[.int .i64 1] 3)).ownsRow w.heap.size 3 1 (.slice (some ⟨w.heap.size+1,0,none⟩) 1 1) 1 [.int .i64 1]:=by
   have:=World.ownsRow_lit (base:=w.heap.size) (e:=3) (size:=1) (w.alloc (.cells #[.int .i64 (d:Nat),.int .i64 (n:Nat),.int .u8 (tl:Nat)] 79)) #[.int .i64 1] 1 (by simp) (by simp[maxLen]) rfl
   simpa using this
  have HL:=Lib.hid hL;have yL:Below w.heap.size w ((w.alloc (.cells #[.int .i64 (d:Nat),.int .i64 (n:Nat),.int .u8 (tl:Nat)] 79)).alloc (.cells #[.int .i64 1] 3)):=y0.alloc y0.size _;have XL:=X0.alloc (.cells #[.int .i64 1] 3);clear hL
  go_enter Tryz.func40,Tryz.ntmps40
  go_wp2_with fail
  refine(C1.out _).mono ?_;rintro e w1 ⟨A1,c1',rfl,o1,y1⟩;have X1:=XL.on y1;have HO1:=Lib.hid (kbn7 HL.out y1);have R1:=Rd.own o1;have Y1:=yL.trans (y1.mono yL.size);have ys1:=Y1.size;clear o1 c0 c1;have c0:=X1.c0;have c1:=X1.c1
  go_wp2_with (at_builtin;refine ko7 _ rfl _ _ _ rfl w.heap.size 3 i0 _ 8 Tryz.underlying41 hi hz0 hz1 hz2 rfl _ _ _ rfl HO1.out _ _ G1 c1' _ rfl R1 (keh7 _) ?g1 ?g2 ys1 ?_)
  case g1=>unfold maxLen;omega
  case g2=>omega
  intro A2 c2 w2 o2 g2 a2;have Y2:=kr7 Y1 HO1.out g2 (Nat.le_refl _) ys1;have X2:=X1.grown g2 (kfc7 HO1.out X1 (by decide)).symm;have HO2:=Lib.hid o2;have e1:=X2.c1;clear o2 a2 c0 c1 g2 X1
  go_wp2_with fail
  refine(C2.out _).mono ?_;rintro e w3 ⟨A3,c3,rfl,o3,y3⟩;have HO3:=Lib.hid (kbn7 HO2.out y3);have R3:=Rd.own o3;have Y3:=Y2.trans (y3.mono Y2.size);have ys3:=Y3.size;clear o3 e1
  go_wp2_with (at_builtin;refine ko7 _ rfl _ _ _ rfl w.heap.size 3 i0 _ 8 Tryz.underlying41 hi hz0 hz1 hz2 rfl _ _ _ rfl HO3.out _ _ G2 c3 _ rfl R3 (keh7 _) ?g1 ?g2 ys3 ?_)
  case g1=>unfold maxLen;omega
  case g2=>omega
  intro A4 c4 w4 o4 g4 a4;have Y4:=kr7 Y3 HO3.out g4 (Nat.le_refl _) ys3;have HO4:=Lib.hid o4;clear o4 a4 g4
  go_wp2
  go_ret
  have HO5:=HO4.out;rw[HN.out,HB.out] at HO5;exact⟨A4,c4,(by show Ending.returned (.slice A4 (1+G1+G2) c4)=_;rw[HN.out]),HO5,Y4⟩
theorem tokensbits_any{A:Option Addr}{n c:Nat}{xs:List Tok}{w:World}(h:RdT w A n c xs)(hl:xs.length≤1024)(hall:AllTok xs xs.length)(hlit:∀ t∈xs,t.lit<256)(r:Nat)(hr:r=(codeOf xs).length) :
  Calls Tryz.prog 23 #[.slice A n c] w fun e w'=>∃ A' c',e=.returned (.slice A' r c')∧w'.ownsRow w.heap.size 3 1 (.slice A' r c') r (ncells (codeOf xs))∧Below w.heap.size w w':=by
 obtain⟨i0,hi,hz0,hz1,hz2⟩:=info_parts kce7;have hn:=h.1;have hcap:=h.2.1;have hcm:=h.2.2.1;unfold maxLen at hcm;obtain rfl:=hn;have HA:=Lib.hid hall;have HLI:=Lib.hid hlit;have HCL:=Lib.hid (kfy7 xs hall);have HR:=Lib.hid hr;clear hall hlit hr
 go_enter Tryz.func23,Tryz.ntmps23
 go_wp2_with fail
 go_loopw [3,4] (fun s i wr=>∃ k m:Nat,∃ A1 c1,k≤xs.length∧i=.int .i64 k∧s=.slice A1 m c1∧m=(codeOf (xs.take k)).length∧Below w.heap.size w wr∧wr.ownsRow w.heap.size 3 1 (.slice A1 m c1) m (ncells (codeOf (xs.take k)))) (fun _ i _=>xs.length-(intOf i).toNat)
 case atStart=>exact⟨0,0,none,0,Nat.zero_le _,rfl,rfl,rfl,Below.refl _ _,World.ownsRow_nil _ _ _ _⟩
 case round =>
  obtain⟨k,m,A1,c1,hk,rfl,rfl,hm,yr,ho⟩:=hrel;have HM:=Lib.hid hm;have hmb:m≤1024*50:=by rw[hm];have:=HCL.out k;omega
  have HO:=Lib.hid ho;have ysz:=yr.size;clear hm ho;by_cases hlt:k<xs.length
  ·obtain⟨b,off,rfl,hb,q1,q2,q3⟩:=(h.on yr).at k hlt;obtain⟨x,hx⟩:∃ x,x=xs[k]:=⟨_,rfl⟩
   rw[←hx] at q1 q2 q3;have hok:x.ok:=by rw[hx];exact HA.out k hlt hlt
   have hxl:x.lit<256:=by rw[hx];exact HLI.out _ (List.getElem_mem hlt)
   have HS:=Lib.hid (show codeOf (xs.take (k+1))=codeOf (xs.take k)++tokbits x by rw[kbr7 xs k hlt,hx]);obtain⟨q,hq⟩:∃ q,q=(tokbits x).length:=⟨_,rfl⟩
   have hqb:q≤50:=by rw[hq,kdp7 x hok];exact tcost_le2 x hok
   have HC:=Lib.hid (fun W=>tokenbits_any x hok hxl W);rw[←hq] at HC;have HQ:=Lib.hid hq;clear hx hok hq
   go_wp2_with fail
   refine(HC.out _).mono ?_;rintro e w1 ⟨A2,c2,rfl,o2,y2⟩;have HO1:=Lib.hid (kbn7 HO.out y2);have R2:=Rd.own o2;have Y1:=yr.trans (y2.mono ysz);have ys1:=Y1.size;clear o2 q1 q2 q3
   go_wp2_with (at_builtin;refine ko7 _ rfl _ _ _ rfl w.heap.size 3 i0 _ 8 Tryz.underlying41 hi hz0 hz1 hz2 rfl _ _ _ rfl HO1.out _ _ q c2 _ rfl R2 (keh7 _) ?g1 ?g2 ys1 ?_)
   case g1=>unfold maxLen;omega
   case g2=>omega
   intro A4 c4 w4 o4 g4 a4;have Y4:=kr7 Y1 HO1.out g4 (Nat.le_refl _) ys1;rw[←kas7,←HS.out] at o4;have HO4:=Lib.hid o4;clear o4 a4 g4
   go_wp2_with fail
   go_roundw
   case rel=>exact⟨k+1,m+q,A4,c4,by omega,by go_num,rfl,by rw[HS.out,List.length_append,←HM.out,←HQ.out],Y4,HO4.out⟩
   case measure=>simp[intOf]<;>omega
  ·obtain rfl:k=xs.length:=by omega
   have e:codeOf (xs.take xs.length)=codeOf xs:=by rw[List.take_of_length_le (Nat.le_refl _)]
   rw[e] at HM HO;obtain rfl:m=r:=by rw[HM.out,HR.out]
   clear e
   go_wp2
   go_ret
   exact⟨A1,c1,rfl,HO.out,yr⟩
theorem repeats_any{A:Option Addr}{N c:Nat}{all:List Nat}{i d:Nat}{w:World}(h:Rd w A N c (bcells all))(hN:N=all.length)(hd:1≤d)(hdi:d≤i)(hi:i≤all.length)(ha:all.length≤1536) :
  Calls Tryz.prog 41 #[.slice A N c,.int .i64 (i:Nat),.int .i64 (d:Nat)] w fun e w'=>e=.returned (.int .i64 (rep all i d:Nat))∧Below w.heap.size w w':=by
 obtain⟨r,hr⟩:∃ r,r=rep all i d:=⟨_,rfl⟩
 rw[←hr];have HR:=Lib.hid hr;have hNl:N≤1536:=by omega
 have HN:=Lib.hid hN;have HH:=Lib.hid h;have hcm:=Reads.capMax h;have hcap:=Reads.cap h;have e0:i≤N:=by omega
 clear hr hN h
 go_enter Tryz.func41,Tryz.ntmps41
 go_wp2_with fail
 go_loopw [7] (fun n wr=>∃ k:Nat,i+k≤N∧n=.int .i64 k∧r=k+rep all (i+k) d∧Below w.heap.size w wr) (fun n _=>N-(intOf n).toNat)
 case atStart=>exact⟨0,e0,rfl,by rw[HR.out];simp,Below.refl _ _⟩
 case round =>
  obtain⟨k,hk,rfl,he,yr⟩:=hrel;have HE:=Lib.hid he;clear he;have v1:IntKind.i64.wrap ((i:Int)+(k:Int))=(i:Int)+(k:Int):=IntWalk.i64_in _ (by omega);by_cases hlt:i+k<N
  ·obtain⟨b,off,rfl,hb,hc⟩:=(HH.out.on yr).2.2.2 (by omega);have hc1:=hc (i+k) _ (kbo7 all (i+k) (by have:=HN.out;omega));have hc2:=hc (i+k-d) _ (kbo7 all (i+k-d) (by have:=HN.out;omega));obtain⟨x,hx⟩:∃ x,x=all.getD (i+k) 0:=⟨_,rfl⟩
   obtain⟨y,hy⟩:∃ y,y=all.getD (i+k-d) 0:=⟨_,rfl⟩
   rw[←hx] at hc1;rw[←hy] at hc2;have HX:=Lib.hid hx;have HY:=Lib.hid hy;clear hc hx hy;have g0:decide ((i:Int)+(k:Int)<(N:Int))=true:=by simp;omega
   have v2:(0:Int)≤(i:Int)+(k:Int):=by omega
   have v3:(i:Int)+(k:Int)<(N:Int):=by omega
   have v4:((i:Int)+(k:Int)).toNat=i+k:=by omega
   have z1:IntKind.i64.wrap ((i:Int)+(k:Int)-(d:Int))=(i:Int)+(k:Int)-(d:Int):=IntWalk.i64_in _ (by omega);have z2:(0:Int)≤(i:Int)+(k:Int)-(d:Int):=by omega
   have z3:(i:Int)+(k:Int)-(d:Int)<(N:Int):=by omega
   have z4:((i:Int)+(k:Int)-(d:Int)).toNat=i+k-d:=by omega
   by_cases hxy:x=y
   ·subst hxy;have hE1:(((x:Nat):Int) == ((x:Nat):Int))=true:=by simp
    go_wp2_with fail
    go_quiet (fail)
    go_wp2_with fail
    go_roundw
    case rel =>
     refine⟨k+1,by omega,by go_num,?_,belowN yr nq⟩;rw[HE.out,rep_yes (by have:=HN.out;omega) (by rw[←HX.out,←HY.out]),Nat.add_assoc i k 1];omega
    case measure=>simp[intOf]<;>omega
   ·have hE1:(((x:Nat):Int) == ((y:Nat):Int))=false:=by rw[beq_eq_false_iff_ne];omega
    have HE2:=Lib.hid (show r=k by rw[HE.out,rep_no (by rw[←HX.out,←HY.out];exact hxy)];rfl)
    go_wp2_with fail
    go_quiet (fail)
    go_wp2
    go_ret
    exact⟨by rw[HE2.out];rfl,belowN yr nq⟩
  ·have g0:decide ((i:Int)+(k:Int)<(N:Int))=false:=by simp;omega
   have HE2:=Lib.hid (show r=k by rw[HE.out,rep_end (by have:=HN.out;omega)];rfl)
   go_wp2_with fail
   go_quiet (fail)
   go_wp2
   go_ret
   exact⟨by rw[HE2.out];rfl,belowN yr nq⟩
theorem drop_set_at{α:Type}(l:List α)(f i:Nat)(x:α):(l.set (f+i) x).drop f=(l.drop f).set i x:=by
 apply List.ext_getElem?;intro j;simp only[List.getElem?_drop,List.getElem?_set,List.length_drop];by_cases e:i=j
 ·subst e;by_cases h:f+i<l.length
  ·rw[if_pos rfl,if_pos rfl,if_pos h,if_pos (by omega)]
  ·rw[if_pos rfl,if_pos rfl,if_neg h,if_neg (by omega)]
 ·rw[if_neg e,if_neg (by omega)]
theorem getD_drop_at(l:List Nat)(f i:Nat):(l.drop f).getD i 0=l.getD (f+i) 0:=by
 simp[List.getD_eq_getElem?_getD,List.getElem?_drop]
structure CRows(w0 w1 w:World)(gl gb f n:Nat)(Ls:List Nat)(Bs:List Tok):Prop where
 l:w.ownsRow w0.heap.size 3 1 (.slice (some ⟨gl,0,none⟩) (n+1) (n+1)) (n+1) (ncells (Ls.drop f))
 b:w.ownsRow w0.heap.size 79 3 (.slice (some ⟨gb,0,none⟩) n n) n (tcells (Bs.drop f))
 y:Below w0.heap.size w0 w
 z:Below gl w1 w
 o:gl<gb
section
variable {w0 w1 w w':World}{gl gb f n:Nat}{Ls:List Nat}{Bs:List Tok}
theorem CRows.ltl(h:CRows w0 w1 w gl gb f n Ls Bs):w0.heap.size≤gl∧gl<w.heap.size:=h.l.lt _ rfl
theorem CRows.ltb(h:CRows w0 w1 w gl gb f n Ls Bs):w0.heap.size≤gb∧gb<w.heap.size:=h.b.lt _ rfl
theorem CRows.on(h:CRows w0 w1 w gl gb f n Ls Bs)(hb:Below w.heap.size w w'):CRows w0 w1 w' gl gb f n Ls Bs :=
 ⟨kbn7 h.l hb,kbn7 h.b hb,h.y.trans (hb.mono h.y.size),h.z.trans (hb.mono (by have:=h.ltl;omega)),h.o⟩
theorem CRows.drew(h:CRows w0 w1 w gl gb f n Ls Bs):CRows w0 w1 w.drew gl gb f n Ls Bs:=⟨h.l,h.b,belowD h.y,belowD h.z,h.o⟩
theorem CRows.setl(h:CRows w0 w1 w gl gb f n Ls Bs)(i x:Nat)(xi:Int)(hx:xi=(x:Nat)):CRows w0 w1 (w.setCell ⟨gl,i,none⟩ (.int .i64 xi)) gl gb f n (Ls.set (f+i) x) Bs:=by
 subst hx;have hx:=h.ltl;have ho:=h.o;have e:ncells ((Ls.set (f+i) x).drop f)=(ncells (Ls.drop f)).set i (.int .i64 (x:Nat)):=by rw[drop_set_at];simp[ncells,List.map_set]
 exact⟨by rw[e];exact(h.l.stored i _).1,kbt7 h.b (by show gl≠gb;omega) _,h.y.setCell (by show w0.heap.size≤gl;omega) _,h.z.setCell (by show gl≤gl;omega) _,h.o⟩
theorem CRows.setb(h:CRows w0 w1 w gl gb f n Ls Bs)(i:Nat)(hi:i<n)(d m lit:Int)(t:Tok)(ht:t.d=d∧t.n=m∧((t.lit:Nat):Int)=lit) :
  CRows w0 w1 (((w.setCell ⟨gb,i*3,none⟩ (.int .i64 d)).setCell ⟨gb,i*3+1,none⟩ (.int .i64 m)).setCell ⟨gb,i*3+2,none⟩ (.int .u8 lit)) gl gb f n Ls (Bs.set (f+i) t):=by
 obtain⟨rfl,rfl,rfl⟩:=ht;have hx:=h.ltb;have ho:=h.o;have hl:=h.b.1;rw[kbl7] at hl;have e2:gb≠gl:=by omega
 have e4:w0.heap.size≤gb:=by omega
 have e5:gl≤gb:=by omega
 refine⟨kbt7 (kbt7 (kbt7 h.l e2 _) e2 _) e2 _,?_,((h.y.setCell e4 _).setCell e4 _).setCell e4 _,((h.z.setCell e5 _).setCell e5 _).setCell e5 _,h.o⟩;rw[drop_set_at,←tcells_set (Bs.drop f) i t (by omega)];exact(((h.b.stored (i*3) _).1.stored (i*3+1) _).1.stored (i*3+2) _).1
theorem CRows.grown(h:CRows w0 w1 w gl gb f n Ls Bs){row:Option Nat}(hg:w.grownBy w' row)(hr:∀ g,row=some g→gb<g):CRows w0 w1 w' gl gb f n Ls Bs:=by
 have ho:=h.o;have a2:=h.ltl;have a3:=h.ltb;have key:∀ q,q≤gb→some q≠row:=fun q hq e=>by have:=hr q e.symm;omega
 have kb:∀ {base e size n c xs g},w.ownsRow base e size (.slice (some ⟨g,0,none⟩) n c) n xs→g≤gb→w'.ownsRow base e size (.slice (some ⟨g,0,none⟩) n c) n xs:=by
  intro base e size n c xs g hw hq;rcases hw.2 with⟨q1,_⟩|⟨g',cap,cur,q1,q2,q3,q4⟩
  ·cases q1
  ·injection q1 with q1 q5 q6;injection q1 with q1;injection q1 with q1;subst q1 q6;refine⟨hw.1,.inr ⟨g,c,cur,rfl,q2,?_,q4⟩⟩;have hlt:g<w.heap.size:=by
    rcases Nat.lt_or_ge g w.heap.size with h|h
    ·exact h
    ·rw[Array.getElem?_eq_none h] at q3;cases q3
   exact(hg.block g hlt (key g hq)).trans q3
 refine⟨kb h.l (by omega),kb h.b (Nat.le_refl _),h.y.grown hg h.y.size (fun g hq=>by have:=hr g hq;omega),h.z.grown hg (by omega) (fun g hq=>by have:=hr g hq;omega),h.o⟩
theorem CRows.lat(h:CRows w0 w1 w gl gb f n Ls Bs)(i:Nat)(hi:i≤n):w.cell? ⟨gl,i,none⟩=some (.int .i64 (Ls.getD (f+i) 0:Nat))∧w.frozen? ⟨gl,i,none⟩=false:=by
 have hl:=h.l.1;rw[kz7] at hl;refine⟨?_,h.l.frozenAt i⟩;rw[h.l.cellAt i (by omega),kad7 _ _ (by omega),getD_drop_at]
theorem CRows.bat(h:CRows w0 w1 w gl gb f n Ls Bs)(i:Nat)(hi:i<n):∃ t,Bs[f+i]?=some t∧w.cell? ⟨gb,i*3,none⟩=some (.int .i64 t.d)∧w.cell? ⟨gb,i*3+1,none⟩=some (.int .i64 t.n)∧w.cell? ⟨gb,i*3+2,none⟩=some (.int .u8 (t.lit:Nat)) ∧
  w.frozen? ⟨gb,i*3,none⟩=false∧w.frozen? ⟨gb,i*3+1,none⟩=false∧w.frozen? ⟨gb,i*3+2,none⟩=false:=by
 have hl:=h.b.1;rw[kbl7] at hl;have e:(Bs.drop f)[i]?=some ((Bs.drop f)[i]'(by omega)):=List.getElem?_eq_getElem (by omega);obtain⟨q1,q2,q3⟩:=kfv7 (Bs.drop f) i _ e;exact⟨_,by rw[←List.getElem?_drop];exact e,by rw[h.b.cellAt _ (by omega),q1],by rw[h.b.cellAt _ (by omega),q2],by rw[h.b.cellAt _ (by omega),q3],h.b.frozenAt _,h.b.frozenAt _,h.b.frozenAt _⟩
end
def CheapOut(all:List Nat)(f:Nat)(w:World)(e:Ending)(w':World):Prop :=
 ∃ L nn dd A' m c',e=.returned (.slice A' m c')∧Tab gsz all f L nn dd∧w'.ownsRow w.heap.size 79 3 (.slice A' m c') m (tcells (tokens all nn dd f))∧Below w.heap.size w w'
theorem cheapest_any{A:Option Addr}{n c:Nat}{data:List Nat}{A2:Option Addr}{n2 c2:Nat}{dict:List Nat}{w:World}(h:Rd w A n c (bcells data))(h2:Rd w A2 n2 c2 (bcells dict))(hn:n≤1024)(hn2:n2≤512) :
  Calls Tryz.prog 24 #[.slice A n c,.slice A2 n2 c2] w (CheapOut (dict++data) n2 w):=by
 obtain⟨j0,bi,bz0,bz1,bz2⟩:=info_parts kbi7;obtain⟨i0,hi,hz0,hz1,hz2⟩:=info_parts kce7;obtain⟨i1,ti,tz0,tz1,tz2⟩:=info_parts kij7;have hcap:=Reads.cap h;have hcm:=Reads.capMax h;unfold maxLen at hcm;obtain⟨all,hall⟩:∃ all,all=dict++data:=⟨_,rfl⟩
 have e1:=h.len;have e2:=h2.len;rw[ka7] at e1 e2;have hN:n2+n=all.length:=by rw[hall,List.length_append,e1,e2]
 rw[←hall];have HBC:=Lib.hid (show bcells dict++bcells data=bcells all by rw[hall];simp[bcells]);have HDA:=Lib.hid (show ∀ i,data.getD i 0=all.getD (n2+i) 0 by
  intro i;rw[hall,List.getD_eq_getElem?_getD,List.getD_eq_getElem?_getD,List.getElem?_append_right (by omega),e2,Nat.add_sub_cancel_left])
 have HE1:=Lib.hid e1;have HH:=Lib.hid h;have hNle:all.length≤1536:=by omega
 have hfN:n2≤all.length:=by omega
 have HN:=Lib.hid hN;clear e1 e2 hall h hN;have z0:0+n2=n2:=Nat.zero_add n2
 go_enter Tryz.func24,Tryz.ntmps24
 go_wp2_with (at_builtin;refine ko7 _ rfl _ _ _ rfl w.heap.size 5 j0 _ 1 Tryz.underlying22 bi bz0 bz1 bz2 rfl _ _ _ rfl (World.ownsRow_nil _ _ _ _) _ _ n2 c2 _ rfl h2 (kcp7 _) ?g1 ?g2 (Nat.le_refl _) ?_)
 case g1=>unfold maxLen;omega
 case g2=>omega
 intro A3 c3 w3 o3 g3 a3;have Y3:=(Below.refl w.heap.size w).grown g3 (Nat.le_refl _) (fun g hg=>by cases hg)
 (try simp only[Nat.zero_add,List.nil_append] at o3)
 have HO3:=Lib.hid o3;have D3:=HH.out.on Y3;have Y3s:=Y3.size;clear o3 g3 a3 h2
 go_wp2_with (at_builtin;refine ko7 _ rfl _ _ _ rfl w.heap.size 5 j0 _ 1 Tryz.underlying22 bi bz0 bz1 bz2 rfl _ _ _ rfl (by have:=HO3.out;(try rw[z0] at this);(try rw[z0]);exact this) _ _ n c _ rfl D3 (kcp7 _) ?g1 ?g2 Y3s ?_)
 case g1=>unfold maxLen;omega
 case g2=>omega
 intro Aa ca w1 o4 g4 a4;have Y4:=kr7 Y3 (by have:=HO3.out;(try rw[z0] at this);(try rw[z0]);exact this) g4 (Nat.le_refl _) Y3s;rw[HBC.out] at o4;have RA:=Rd.own o4;have hRA:Rd w1 Aa all.length ca (bcells all):=by have:=RA;(try rw[z0] at this);rwa [HN.out] at this
 have HRA:=Lib.hid (show Reads w1 w1.heap.size Aa all.length ca (bcells all) from hRA);have hca:=Reads.cap hRA;have hcam:=Reads.capMax hRA;unfold maxLen at hcam;clear o4 g4 a4 RA hRA D3 HO3 Y3 Y3s
 (try simp only[Nat.zero_add])
 try rw[HN.out]
 have s1:=Y4.size
 go_wp2_with (with_reducible refine kcr7 _ rfl _ _ 41 rfl 3 i0 _ 8 Tryz.underlying41 hi hz0 hz1 hz2 rfl _ _ _ _ (n+1) rfl rfl ?b0 ?b1 ?b2 ?b3 ?_)
 case b0=>omega
 case b1=>omega
 case b2=>omega
 case b3=>unfold maxLen;omega
 intro w2 o2 y2 s2
 go_wp2_with (with_reducible refine wpList_make_full _ rfl _ _ 44 rfl w2.heap.size 79 i1 _ 3 Tryz.underlying44 ti tz0 tz1 _ _ _ _ n rfl rfl rfl rfl ?f2 ?f3 (Nat.le_refl _) ?_)
 case f2=>rw[tz2];omega
 case f3=>unfold maxLen;omega
 intro w4 o4 g4;have y4:Below w2.heap.size w2 w4:=(Below.refl _ _).grown g4 (Nat.le_refl _) (by simp)
 (try simp only[Value.cells] at o4)
 rw[madeTok] at o4;have o24:=kbn7 o2 y4;have zr:List.replicate (n+1) (Value.int .i64 0)=ncells ((List.replicate (all.length+1) 0).drop n2):=by
  rw[List.drop_replicate,show all.length+1-n2=n+1 by have:=HN.out;omega];simp[ncells]
 have zb:(List.replicate n (⟨0,0,0⟩:Tok))=(List.replicate all.length ⟨0,0,0⟩).drop n2:=by
  rw[List.drop_replicate,show all.length-n2=n by have:=HN.out;omega]
 rw[zr] at o24;rw[zb] at o4;have HP:=Lib.hid (show CRows w w1 w4 w1.heap.size w2.heap.size n2 n (List.replicate (all.length+1) 0) (List.replicate all.length ⟨0,0,0⟩) from
  ⟨kaw7 o24 s1,kaw7 o4 (by omega),Y4.trans ((y2.trans (y4.mono y2.size)).mono s1),y2.trans (y4.mono y2.size),s2⟩)
 clear o4 g4 y4 o24 zr zb y2 o2;obtain⟨gl,hgl⟩:∃ g,g=w1.heap.size:=⟨_,rfl⟩
 obtain⟨gb,hgb⟩:∃ g,g=w2.heap.size:=⟨_,rfl⟩
 rw[←hgl] at s1 s2 HP HRA ⊢;rw[←hgb] at s2 HP ⊢;clear hgl hgb hi ti hz0 hz1 hz2 tz0 tz1 tz2 bi bz0 bz1 bz2
 go_wp2_with fail
 go_loopw [8] (fun i wr=>∃ p:Nat,p≤n∧i=.int .i64 ((p:Int)-1)∧∃ Ls Bs nn dd,CRows w w1 wr gl gb n2 n Ls Bs∧TabL gsz all (n2+p) Ls Bs nn dd) (fun i _=>(intOf i+1).toNat)
 case atStart=>exact⟨n,Nat.le_refl _,rfl,_,_,_,_,HP.out,by rw[HN.out];exact TabL.start⟩
 case round =>
  obtain⟨p,hp2,rfl,Ls,Bs,nn,dd,hP,hT⟩:=hrel;clear HP;have HT:=Lib.hid hT;clear hT;by_cases hlt:0<p
  ·obtain⟨i,rfl⟩:∃ i,p=i+1:=⟨p-1,by omega⟩
   have hil:i<n:=by omega
   have hil2:n2+i<all.length:=by have:=HN.out;omega
   rw[show(((i+1:Nat):Int)-1)=(i:Int) by omega];obtain⟨b,off,rfl,hb,hc⟩:=(HH.out.on hP.y).2.2.2 (by omega);have hci:=hc i _ (kbo7 data i (by have:=HE1.out;omega));rw[HDA.out] at hci;obtain⟨x,hx⟩:∃ x,x=all.getD (n2+i) 0:=⟨_,rfl⟩
   rw[←hx] at hci;have HX:=Lib.hid hx;have k1:(0:Int)≤(i:Int):=by omega
   have k2:(i:Int)<(n:Int):=by omega
   obtain⟨t0,-,q0,q1,q2,z0',z1,z2⟩:=hP.bat i hil;clear hc hx
   go_upto_region 11 with(fail)
   have hP2:=hP.setb i hil 0 0 ((x:Nat):Int) (tk all (n2+i) 0 0) ⟨rfl,rfl,by rw[HX.out];rfl⟩;generalize (((wr.setCell ⟨gb,i*3,none⟩ (.int .i64 0)).setCell ⟨gb,i*3+1,none⟩ (.int .i64 0)).setCell ⟨gb,i*3+2,none⟩ (.int .u8 ((x:Nat):Int)))=wa at hP2 ⊢;clear hP q0 q1 q2 z0' z1 z2 hci;have hv1:=HT.out.tab.le (all.length-(n2+(i+1))) (n2+(i+1)) (Nat.le_refl _) (by omega);obtain⟨v,hv⟩:∃ v,v=Ls.getD (n2+(i+1)) 0:=⟨_,rfl⟩
   have hv2:v≤13824:=by rw[hv];(try simp only at hv1);omega
   obtain⟨l0,-⟩:=hP2.lat (i+1) (by omega);obtain⟨l1,l2⟩:=hP2.lat i (by omega);rw[←hv] at l0;have HV:=Lib.hid hv;clear hv hv1
   go_upto_region 12 with(fail)
   have hP3:=hP2.setl i (9+v) (9+(v:Int)) (by omega);generalize (wa.setCell ⟨gl,i,none⟩ (.int .i64 (9+(v:Int))))=wb at hP3 ⊢;clear hP2 l0 l1 l2;have HP3:=Lib.hid hP3;clear hP3
   go_wp2_with fail
   go_loopw [10] (fun d wr=>∃ D cc nn0 dd0:Nat,D≤n2+i∧d=.int .i64 D∧CRows w w1 wr gl gb n2 n (Ls.set (n2+i) cc) (Bs.set (n2+i) (tk all (n2+i) nn0 dd0)) ∧
     Good gsz all (fun j=>Ls.getD j 0) (n2+i) (Seen D 3) cc nn0 dd0) (fun d _=>(intOf d).toNat)
   case atStart =>
    refine⟨n2+i,_,0,0,Nat.le_refl _,by go_num,HP3.out,?_⟩;rw[HV.out];exact Good.rstart
   case round =>
    obtain⟨D,cc,nn0,dd0,hDi,rfl,hP,hG⟩:=hrel;have HG:=Lib.hid hG;clear HP3 hG;by_cases hD1:1≤D
    ·obtain⟨R,hR⟩:∃ R,R=rep all (n2+i) D:=⟨_,rfl⟩
     have hRle:R≤all.length-(n2+i):=by rw[hR];exact rep_le
     have HR:=Lib.hid hR;have HREP:=Lib.hid (repeats_any (i:=n2+i) (d:=D) (w:=wr) (((HRA.out.below hP.z).more (by have:=hP.ltl;omega))) rfl hD1 hDi (by omega) hNle);rw[←hR] at HREP;clear hR
     go_wp2_with fail
     have cc0:=HREP.out;rw[show(((n2+i:Nat)):Int)=(n2:Int)+(i:Int) by omega] at cc0;refine cc0.mono ?_;clear cc0 HREP;rintro e w5 ⟨rfl,y5⟩;have HP5:=Lib.hid (hP.on y5);clear hP y5
     go_wp2_with fail
     go_loopw [12] (fun m wr=>∃ m' cc nn0 dd0:Nat,3≤m'∧(m'=3∨m'≤R+1)∧m=.int .i64 m'∧CRows w w1 wr gl gb n2 n (Ls.set (n2+i) cc) (Bs.set (n2+i) (tk all (n2+i) nn0 dd0)) ∧
       Good gsz all (fun j=>Ls.getD j 0) (n2+i) (Seen D m') cc nn0 dd0) (fun m _=>R+1-(intOf m).toNat)
     case atStart=>exact⟨3,cc,nn0,dd0,Nat.le_refl _,.inl rfl,rfl,HP5.out,HG.out⟩
     case round =>
      clear HP5 HG;obtain⟨m,cc,nn0,dd0,hm3,hmR,rfl,hP,hG⟩:=hrel;have HG:=Lib.hid hG;have HMR:=Lib.hid hmR;have hcc:=hG.lit;clear hG hmR;rw[show n2+i+1=n2+(i+1) from rfl,←HV.out] at hcc;by_cases hmr:m≤R
      ·have hcand:=Lib.hid (show Cand all (n2+i) m D from⟨by omega,hD1,hDi,by rw[←HR.out];omega⟩);have him:i+m≤n:=by have:=HN.out;omega
       obtain⟨m0,-⟩:=hP.lat (i+m) him;rw[kam7 (by omega)] at m0;obtain⟨v2,hv2'⟩:∃ v2,v2=Ls.getD (n2+(i+m)) 0:=⟨_,rfl⟩
       have hv3:=HT.out.tab.le (all.length-(n2+(i+m))) (n2+(i+m)) (by omega) (by have:=HN.out;omega);have hv4:v2≤13824:=by rw[hv2'];(try simp only at hv3);omega
       rw[←hv2'] at m0;have HV2:=Lib.hid hv2';obtain⟨G1,hG1⟩:∃ G,G=gsz D:=⟨_,rfl⟩
       obtain⟨G2,hG2⟩:∃ G,G=gsz (m-2):=⟨_,rfl⟩
       have hg1:G1≤22:=by rw[hG1];unfold gsz;have:=Lib.bitLen_le D 11 (by decide) (by omega);omega
       have hg2:G2≤22:=by rw[hG2];unfold gsz;have:=Lib.bitLen_le (m-2) 11 (by decide) (by omega);omega
       have C1:=Lib.hid (fun W=>kdo7 D ((D:Nat):Int) rfl (by omega) (by omega) W);have C2:=Lib.hid (fun W=>kdo7 (m-2) ((m:Int)-2) (by omega) (by omega) (by omega) W);rw[←hG1] at C1;rw[←hG2] at C2;have HC:=Lib.hid (show 1+G1+G2=mcost gsz D m by rw[hG1,hG2];rfl);clear hv2' hv3 hG1 hG2;have u1:IntKind.i64.wrap ((i:Int)+(m:Int))=(i:Int)+(m:Int):=IntWalk.i64_in _ (by omega);have u3:((i:Int)+(m:Int)).toNat=i+m:=by omega
       have u4:(0:Int)≤(i:Int)+(m:Int):=by omega
       have u5:(i:Int)+(m:Int)<(n:Int)+1:=by omega
       have u6:IntKind.i64.wrap ((m:Int)-2)=(m:Int)-2:=IntWalk.i64_in _ (by omega);have u7:IntKind.i64.wrap (1+(G1:Int))=1+(G1:Int):=IntWalk.i64_in _ (by omega);have u8:IntKind.i64.wrap (1+(G1:Int)+(G2:Int))=1+(G1:Int)+(G2:Int):=IntWalk.i64_in _ (by omega);have u9:IntKind.i64.wrap (1+(G1:Int)+(G2:Int)+(v2:Int))=1+(G1:Int)+(G2:Int)+(v2:Int):=IntWalk.i64_in _ (by omega)
       go_upto_region 19 with(fail)
       go_region_held3 (fun w'=>w'.cell? ⟨gl,i+m,none⟩=some (.int .i64 (v2:Nat))) (go_keep) (first
        | (go_at_call 42;have cc1:=C1.out (World.drew wr);(with_reducible refine cc1.mono ?_);clear cc1;rintro e w6 ⟨Ag1,cg1,rfl,og1,y6⟩;have hP6:=CRows.on (w:=wr.drew) hP.drew y6;have m6:=(hP6.lat (i+m) him).1;rw[kam7 (by omega),←HV2.out] at m6)
        | (go_at_call 42;have cc2:=C2.out w6;(with_reducible refine cc2.mono ?_);clear cc2;rintro e w7 ⟨Ag2,cg2,rfl,og2,y7⟩;have hP7:=hP6.on y7;have m7:=(hP7.lat (i+m) him).1;rw[kam7 (by omega),←HV2.out] at m7))
       clear u1 u3 u4 u5 u6 u7 u8 u9 m0 m6 m7 og1 og2 y6 y7 hP hP6;obtain⟨n0,n1⟩:=hP7.lat i (by omega);rw[kbw7 (by have:=HT.out.ll;omega)] at n0;obtain⟨t1,ht1,q0,q1,q2,z0',z1,z2⟩:=hP7.bat i hil;obtain rfl:t1=tk all (n2+i) nn0 dd0:=by
        rw[List.getElem?_set_self (by rw[HT.out.bl];exact hil2)] at ht1;injection ht1 with ht1;exact ht1.symm
       clear ht1;obtain⟨cv,hcv⟩:∃ cv,cv=1+G1+G2+v2:=⟨_,rfl⟩
       have hcv1:cv≤13900:=by omega
       rw[show(1:Int)+(G1:Int)+(G2:Int)+(v2:Int)=(cv:Int) by omega];have HCV:=Lib.hid (show cv=mcost gsz D m+Ls.getD (n2+i+m) 0 by rw[hcv,HC.out,HV2.out,Nat.add_assoc n2 i m]);clear hcv C1 C2;have HTAKE:RowKit.Hid (cv<cc∨(cv=cc∧nn0≤m)→Good gsz all (fun j=>Ls.getD j 0) (n2+i) (Seen D (m+1)) cv m D):=Lib.hid fun hh=>by
        have:=HG.out.rtake hcand.out (by show mcost gsz D m+Ls.getD (n2+i+m) 0<cc∨(mcost gsz D m+Ls.getD (n2+i+m) 0=cc∧nn0≤m);rw[←HCV.out];exact hh);rw[HCV.out];exact this
       have HPASS:RowKit.Hid (cc<cv∨(cv=cc∧m<nn0)→Good gsz all (fun j=>Ls.getD j 0) (n2+i) (Seen D (m+1)) cc nn0 dd0):=Lib.hid fun hh =>
        HG.out.rpass (by show cc<mcost gsz D m+Ls.getD (n2+i+m) 0∨(mcost gsz D m+Ls.getD (n2+i+m) 0=cc∧m<nn0);rw[←HCV.out];exact hh)
       by_cases hlc:cv<cc
       ·go_upto_region 22 with(fail)
        have PA:=hP7.setl i cv (cv:Int) rfl;generalize (w7.setCell ⟨gl,i,none⟩ (.int .i64 (cv:Int)))=wc at PA ⊢;clear n0 n1 q0 q1 q2 z0' z1 z2 hP7;obtain⟨t2,-,q0,q1,q2,z0',z1,z2⟩:=PA.bat i hil
        go_wp2_with fail
        have PB6:=PA.setb i hil (D:Nat) (m:Nat) 0 (tk all (n2+i) m D) (by unfold tk;rw[if_neg (by omega)];exact⟨rfl,rfl,rfl⟩);rw[List.set_set,List.set_set] at PB6
        go_roundw
        case rel=>exact⟨m+1,cv,m,D,by omega,.inr (by omega),by go_num,PB6,HTAKE.out (.inl hlc)⟩
        case measure=>simp[intOf]<;>omega
       ·have hl1:decide ((cv:Int)<(cc:Int))=false:=by simp;omega
        by_cases heq:cv=cc
        ·subst heq;have hl2:(((cv:Nat):Int) == ((cv:Nat):Int))=true:=by simp
         obtain⟨mx,hmx⟩:∃ mx,mx=max nn0 1:=⟨_,rfl⟩
         have hlen:((mx:Nat):Int)=if (tk all (n2+i) nn0 dd0).d=0 then 1 else(tk all (n2+i) nn0 dd0).n:=by
          rw[hmx];unfold tk;rcases HG.out.one with⟨rfl,rfl,-⟩|⟨hc,-⟩
          ·rfl
          ·have a1:=hc.1;have a2:=hc.2.1;rw[if_neg (show ¬nn0=0 by omega)];show((max nn0 1:Nat):Int)=if ((dd0:Nat):Int)=0 then 1 else((nn0:Nat):Int)
           rw[if_neg (by omega)];omega
         have HLEN:=Lib.hid hlen;clear hlen
         go_wp2_with fail
         refine(reflen_any _ _ _ ((mx:Nat):Int) HLEN.out _).mono ?_;rintro e w8 ⟨rfl,y8⟩;have hP8:=hP7.on y8;clear n0 n1 q0 q1 q2 z0' z1 z2 hP7 y8;obtain⟨n0,n1⟩:=hP8.lat i (by omega);obtain⟨t1,-,q0,q1,q2,z0',z1,z2⟩:=hP8.bat i hil;by_cases hnm:nn0≤m
         ·have hl3:decide (((mx:Nat):Int)≤(m:Int))=true:=by simp;omega
          go_upto_region 22 with(fail)
          have PA:=hP8.setl i cv (cv:Int) rfl;generalize (w8.setCell ⟨gl,i,none⟩ (.int .i64 (cv:Int)))=wc at PA ⊢;clear n0 n1 q0 q1 q2 z0' z1 z2 hP8;obtain⟨t2,-,q0,q1,q2,z0',z1,z2⟩:=PA.bat i hil
          go_wp2_with fail
          have PB6:=PA.setb i hil (D:Nat) (m:Nat) 0 (tk all (n2+i) m D) (by unfold tk;rw[if_neg (by omega)];exact⟨rfl,rfl,rfl⟩);rw[List.set_set,List.set_set] at PB6
          go_roundw
          case rel=>exact⟨m+1,cv,m,D,by omega,.inr (by omega),by go_num,PB6,HTAKE.out (.inr ⟨by simp,hnm⟩)⟩
          case measure=>simp[intOf]<;>omega
         ·have hl3:decide (((mx:Nat):Int)≤(m:Int))=false:=by simp;omega
          go_wp2_with fail
          go_roundw
          case rel=>exact⟨m+1,cv,nn0,dd0,by omega,.inr (by omega),by go_num,hP8,HPASS.out (.inr ⟨by simp,by omega⟩)⟩
          case measure=>simp[intOf]<;>omega
        ·have hl2:(((cv:Nat):Int) == ((cc:Nat):Int))=false:=by rw[beq_eq_false_iff_ne];omega
         go_wp2_with fail
         go_roundw
         case rel=>exact⟨m+1,cc,nn0,dd0,by omega,.inr (by omega),by go_num,hP7,HPASS.out (.inl (by omega))⟩
         case measure=>simp[intOf]<;>omega
      ·obtain⟨D',rfl⟩:∃ D',D=D'+1:=⟨D-1,by omega⟩
       go_wp2_with fail
       go_roundw
       case rel=>exact⟨D',cc,nn0,dd0,by omega,by go_num,hP,HG.out.rdown (by rw[←HR.out];omega)⟩
       case measure=>simp[intOf]<;>omega
    ·obtain rfl:D=0:=by omega
     go_wp2_with fail
     go_roundw
     case rel=>exact⟨i,by omega,by go_num,_,_,_,_,hP,HT.out.cons hil2 HG.out.rall⟩
     case measure=>simp[intOf]<;>omega
  ·obtain rfl:p=0:=by omega
   rw[show((((0:Nat)):Int)-1)=-1 from rfl];obtain⟨wx,hwx⟩:∃ wx:World,wx=wr:=⟨_,rfl⟩
   rw[←hwx] at hP ⊢;clear hwx;have HPX:=Lib.hid hP;clear hP;obtain⟨i1,ti,tz0,tz1,tz2⟩:=info_parts kij7
   go_wp2_with fail
   go_loopw [14,15] (fun o i wr=>∃ k m:Nat,∃ A' c' done,k≤n∧m≤k∧i=.int .i64 k∧o=.slice A' m c'∧CRows w w1 wr gl gb n2 n Ls Bs∧Below wx.heap.size wx wr∧wr.ownsRow wx.heap.size 79 3 (.slice A' m c') m (tcells done) ∧
     done++tokens all nn dd (n2+k)=tokens all nn dd n2) (fun _ i _=>n-(intOf i).toNat)
   case atStart=>exact⟨0,0,none,0,[],Nat.zero_le _,Nat.zero_le _,rfl,rfl,HPX.out,Below.refl _ _,World.ownsRow_nil _ _ _ _,rfl⟩
   case round =>
    obtain⟨k,m,A',c',done,hk2,hmk,rfl,rfl,hP,yx,ho,hd⟩:=hrel;have HD:=Lib.hid hd;have HO:=Lib.hid ho;have yxs:=yx.size;clear hd ho;by_cases hkl:k<n
    ·have hkl2:n2+k<all.length:=by have:=HN.out;omega
     have htok:=HT.out.tok (n2+k) (by omega) hkl2;have hst:=kdh7 (nn:=nn) (dd:=dd) hkl2;have hnn:=HT.out.tab.nn0 (j:=n2+k) (by omega) hkl2;obtain⟨t,ht,q0,q1,q2,z0',z1,z2⟩:=hP.bat k hkl;obtain rfl:tokOf all nn dd (n2+k)=t:=by rw[htok] at ht;injection ht
     have hgb:=hP.ltb;have hxb:gb<wx.heap.size:=HPX.out.ltb.2;obtain⟨n1,hn1⟩:∃ n1,n1=nn (n2+k):=⟨_,rfl⟩
     obtain⟨d1,hd1⟩:∃ d1,d1=dd (n2+k):=⟨_,rfl⟩
     rw[←hn1] at hst hnn;rw[←hd1] at hnn;have hcs:n1≤n-k:=by
      rcases hnn with⟨h0,_⟩|⟨h0,_⟩
      ·omega
      ·have a:=h0.2.2.2;have b:=rep_le (all:=all) (i:=n2+k) (d:=d1);have:=HN.out;omega
     obtain⟨mx,hmx⟩:∃ mx,mx=max n1 1:=⟨_,rfl⟩
     rw[←hmx] at hst;have HST:=Lib.hid hst;obtain⟨td,htd⟩:∃ td,td=(tokOf all nn dd (n2+k)).d:=⟨_,rfl⟩
     obtain⟨tn,htn⟩:∃ tn,tn=(tokOf all nn dd (n2+k)).n:=⟨_,rfl⟩
     obtain⟨tl,htl⟩:∃ tl,tl=(tokOf all nn dd (n2+k)).lit:=⟨_,rfl⟩
     have HLEN:=Lib.hid (show((mx:Nat):Int)=if td=0 then 1 else tn by
      rw[hmx,htd,htn];unfold tokOf;rw[←hn1,←hd1];rcases hnn with⟨rfl,rfl,-⟩|⟨hc,-⟩
      ·rfl
      ·have a1:=hc.1;have a2:=hc.2.1;rw[if_neg (show ¬n1=0 by omega)];show((max n1 1:Nat):Int)=if ((d1:Nat):Int)=0 then 1 else((n1:Nat):Int)
       rw[if_neg (by omega)];omega)
     clear htok ht hnn hst z0' z1 z2 s1 s2;rw[←htd] at q0;rw[←htn] at q1;rw[←htl] at q2;have HTC:=Lib.hid (show tcell (tokOf all nn dd (n2+k))=[.int .i64 td,.int .i64 tn,.int .u8 (tl:Nat)] by rw[htd,htn,htl];rfl);have hmx1:1≤mx:=by omega
     have hmx2:k+mx≤n:=by omega
     clear htd htn htl hn1 hd1 hmx
     go_upto_region 26 with(at_builtin;refine kgl7 _ rfl _ _ 44 rfl wx.heap.size 79 i1 _ 24 Tryz.underlying44 ti tz0 tz1 tz2 rfl _ _ _ rfl HO.out _ _ _ (kik7 [⟨td,tn,tl⟩]) rfl ?g1 ?g2 yxs ?_)
     case g1=>unfold maxLen;omega
     case g2=>omega
     intro A5 c5 w5 ho5 hg5;have hrow:∀ g,(Value.slice A' m c').ownBlock=some g→gb<g:=fun g hg=>by have:=(HO.out.lt g hg).1;omega
     have hP5:=hP.grown hg5 hrow;have y5:=yx.grown hg5 yxs (fun g hg=>(HO.out.lt g hg).1);rw[←HTC.out] at ho5;have HO5:=Lib.hid (show w5.ownsRow wx.heap.size 79 3 (.slice A5 (m+1) c5) (m+1) (tcells (done++[tokOf all nn dd (n2+k)])) by rw[kej7];simpa [tcells] using ho5);have hq5:∀ j v,wr.cell? ⟨gb,j,none⟩=some v→w5.cell? ⟨gb,j,none⟩=some v:=fun j v hv=>(World.cell?_of_block (hg5.block gb (by omega) (fun e=>by have:=hrow gb e.symm;omega))).trans hv;have r0:=hq5 _ _ q0;have r1:=hq5 _ _ q1;have r2:=hq5 _ _ q2;clear ho5 hg5 hrow q0 q1 q2 hP ti tz0 tz1 tz2 yx hq5;have y5s:=y5.size
     go_wp2_with fail
     refine(reflen_any _ _ _ ((mx:Nat):Int) HLEN.out _).mono ?_;rintro e w8 ⟨rfl,y8⟩;have hP8:=hP5.on y8;have y58:=y5.trans (y8.mono y5s);have HO8:=Lib.hid (kbn7 HO5.out y8);clear hP5 y5 HO5 r0 r1 r2;clear HLEN
     go_wp2_with fail
     go_roundw
     case rel=>exact⟨k+mx,m+1,A5,c5,_,by omega,by omega,by go_num,rfl,hP8,y58,HO8.out,by rw[←HD.out,HST.out,List.append_assoc,Nat.add_assoc];rfl⟩
     case measure=>simp[intOf]<;>omega
    ·obtain rfl:k=n:=by omega
     have e:done=tokens all nn dd n2:=by
      have:=HD.out;rw[HN.out,kcb7 (Nat.le_refl _),List.append_nil] at this;exact this
     have HE:=Lib.hid e;clear e
     go_wp2
     go_ret
     refine⟨_,nn,dd,A',m,c',rfl,HT.out.tab,?_,hP.y⟩;rw[←HE.out];exact kaw7 HO.out HPX.out.y.size
end PB
end
section
open Go.RowKit
attribute [local go_sem ↓] Go.wp_at_zero Go.wp_at_succ
namespace PB
def ccell(x:Cho):List Value:=[.int .i64 x.b,.int .i64 x.p]
def ccells(l:List Cho):List Value:=l.flatMap ccell
theorem ccells_length(l:List Cho):(ccells l).length=l.length*2:=by
 induction l with
 | nil=>rfl
 | cons t l ih=>simp only[ccells,List.flatMap_cons,List.length_append,List.length_cons] at ih ⊢;simp only[ccell,List.length_cons,List.length_nil] at ih ⊢;omega
theorem ccells_get(l:List Cho)(i:Nat)(t:Cho)(h:l[i]?=some t):(ccells l)[i*2]?=some (.int .i64 t.b)∧(ccells l)[i*2+1]?=some (.int .i64 t.p):=by
 induction l generalizing i with
 | nil=>simp at h
 | cons x l ih =>
  have e:ccells (x::l)=ccell x++ccells l:=by simp[ccells]
  rw[e];cases i with
  | zero =>
   obtain rfl:x=t:=by simpa using h
   simp[ccell]
  | succ i =>
   have:=ih i (by simpa using h);have hl:(ccell x).length=2:=rfl;rw[List.getElem?_append_right (by omega),List.getElem?_append_right (by omega),hl];rw[show(i+1)*2-2=i*2 by omega,show(i+1)*2+1-2=i*2+1 by omega];exact this
theorem RdC.own{w:World}{A:Option Addr}{n c:Nat}{xs:List Cho}{base:Nat}{e:TypeId}(h:w.ownsRow base e 2 (.slice A n c) n (ccells xs)):RdC w A n c xs:=by
 have hl:=h.1;rw[ccells_length] at hl;have hl2:xs.length=n:=by omega
 rcases h.2 with⟨h1,h2⟩|⟨g,cap,cur,h1,h2,h3,h4,h5,h6,h7⟩
 ·injection h1 with e1 e2 e3;subst e1 e2 e3;exact⟨hl2,Nat.le_refl _,Nat.zero_le _,fun h=>absurd h (by decide)⟩
 ·injection h1 with e1 e2 e3;subst e1 e3;refine⟨hl2,h4,h5,fun hn=>?_⟩;have hcells:=World.ownsRow.cells h (g:=g) rfl;have key:∀ j u,(ccells xs)[j]?=some u→w.cell? ⟨g,j,none⟩=some u:=by
   intro j u hu;have:=hcells j u hu;have e:(⟨g,0,none⟩:Addr).add j=⟨g,j,none⟩:=by
    unfold Addr.add;by_cases hj:j=0<;>simp[hj]
   rwa [e] at this
  refine⟨g,0,rfl,?_,fun i x hx=>?_⟩
  ·rcases Nat.lt_or_ge g w.heap.size with h|h
   ·exact h
   ·rw[Array.getElem?_eq_none h] at h3;cases h3
  ·obtain⟨q1,q2⟩:=ccells_get xs i x hx;rw[show 0+i*2=i*2 by omega];exact⟨key _ _ q1,key _ _ q2⟩
theorem cho_info:(Tryz.prog.info? 75).map (fun i=>(i.zero,i.size,i.bytes))=some (some (.agg #[.int .i64 0,.int .i64 0]),2,16):=by kernel_rfl
theorem mch_take_succ(l:List Nat)(k:Nat)(h:k<l.length):mch (l.take (k+1))=mch (l.take k)++[⟨((l.getD k 0:Nat):Int),((predv l k 1:Nat):Int)⟩]:=by
 rw[List.take_succ_eq_append_getElem h,mch_snoc,←kap7 h]
 congr 3
 rw[List.length_take,Nat.min_eq_left (Nat.le_of_lt h),predv_take l k k 1 (Nat.le_refl _) (Nat.le_of_lt h)]
section
variable {P:Program}
theorem step_append_cho{w:World}(c:Cho)(e:TypeId){o:Oper}{a:Act}{K:Act→World→Prop}{Q:Exit→Act→World→Prop}{E:Prop}{ops:Array Oper}(hw:Region.wanted o (yielded ops a.tmps)=true)(W:World)(hW:w=W.alloc (.cells (ccell c).toArray e))(s x:Operand)(t:TypeId)
  (ho:o.op=.call { callee:=.builtin .append,args:=#[s,x],argTypes:=#[t,t] })
  (base:Nat) (i:TypeInfo) (z:Value) (bytes:Nat) (ht:P.underlying t=some (.slice e)) (hi:P.info? e=some i) (hz:i.zero=some z)
  (hsize:i.size=2) (hby:i.bytes=bytes) (hzs:z.cells.size=2)
  (v:Value) (n:Nat) (l:List Cho) (hs:a.eval s=v) (hown:W.ownsRow base e 2 v n (ccells l)) (hx:a.eval x=.slice (some ⟨W.heap.size,0,none⟩) 1 1)
  (h63:n+1≤maxLen) (hbytes:(n+1)*bytes≤140737488355328) (hbase:base≤W.heap.size)
  (h:∀ A' c' w',w'.ownsRow base e 2 (.slice A' (n+1) c') (n+1) (ccells (l++[c]))→W.grownBy w' v.ownBlock→K (a.put o.dst (.slice A' (n+1) c')) w') :
  if Region.wanted o (yielded ops a.tmps)=true then Oper.wp P o a w K Q else E:=by
 rw[if_pos hw];subst hW;have hB:=Blk.new W e (ccell c).toArray;obtain⟨v',w',hrun,h2,h3,h4,h5⟩:=run_append_own_at (P:=P) (W.alloc (.cells (ccell c).toArray e)) base t o.type e i z 2 bytes ht hi hz hsize hby hzs (by decide) v n (ccells l) (hown.alloc _) ⟨W.heap.size,0,none⟩ 1 1 (ccell c) rfl
  (fun j u hj=>by
   have e:(⟨W.heap.size,0,none⟩:Addr).add j=⟨W.heap.size,j,none⟩:=by
    unfold Addr.add;by_cases hj:j=0<;>simp[hj]
   rw[e,hB.cell j];rw[List.getElem?_toArray];exact hj)
  (by intro u hu;simp only[ccell,List.mem_cons,List.not_mem_nil,or_false] at hu;rcases hu with rfl|rfl<;>rfl) h63 hbytes (by simp;omega)
 obtain⟨A',c',rfl⟩:=khc7 h2;unfold Oper.wp execOp;simp only[ho,resolve,invoke,builtin,Sem.run_bind,Sem.run_pure,Result.andThen_ok,List.map_toArray,List.map_cons,List.map_nil,hs,hx,hrun];refine h A' c' w' ?_ ?_
 ·have e1:ccells (l++[c])=ccells l++ccell c:=by simp[ccells]
  rw[e1];exact h2
 ·exact⟨h3.os,h3.tape,h3.output,Nat.le_trans (by simp) h3.size,fun k hk hne=>(h3.block k (by simp;omega) hne).trans (Below.heap_alloc W _ k hk)⟩
end
theorem modeled_any{A:Option Addr}{n c:Nat}{d:List Nat}{w:World}(h:Rd w A n c (bcells d))(hd:∀ k,d.getD k 0<256)(hn:n≤1024) :
  Calls Tryz.prog 22 #[.slice A n c] w fun e w'=>∃ A' n' c',e=.returned (.slice A' n' c')∧Rd w' A' n' c' (ncells (acode (mch (allbits d))))∧Below w.heap.size w w':=by
 obtain⟨i0,hi0,hz0,hz1,hz2⟩:=info_parts kce7;obtain⟨i1,ci,cz0,cz1,cz2⟩:=info_parts cho_info;have hN:=h.len;rw[ka7] at hN;obtain⟨l,hl⟩:∃ l,l=allbits d:=⟨_,rfl⟩
 have hll:l.length=8*n:=by rw[hl,kax7,hN]
 have H01:=Lib.hid (show Is01 l by rw[hl];exact kbs7 d);have HL:=Lib.hid hll;have HE:=Lib.hid hl;have HA:=Lib.hid (allbits_any h hd (by omega) (8*n) rfl);clear h hd hN hl hll;rw[←HE.out] at HA ⊢;clear HE
 go_enter Tryz.func22,Tryz.ntmps22
 go_wp2_with fail
 refine HA.out.mono ?_;rintro e w1 ⟨A1,c1,rfl,o1,y1⟩;have R1:=Rd.own o1;have y1s:=y1.size
 go_wp2_with fail
 go_loopw [4,5] (fun s i wr=>∃ (k:Nat) (A':Option Addr) (c':Nat),k≤8*n∧i=.int .i64 (k:Nat)∧s=.slice A' k c'∧Below w1.heap.size w1 wr∧wr.ownsRow w1.heap.size 75 2 (.slice A' k c') k (ccells (mch (l.take k)))) (fun _ i _=>8*n-(intOf i).toNat)
 case atStart=>exact⟨0,none,0,Nat.zero_le _,rfl,rfl,Below.refl _ _,World.ownsRow_nil _ _ _ _⟩
 case round =>
  obtain⟨k,A',c',hk,rfl,rfl,yr,ho⟩:=hrel;have HO:=Lib.hid ho;have hys:=yr.size;have RR:=R1.on yr;clear ho;by_cases hlt:k<8*n
  ·obtain⟨b,off,rfl,hb,hc⟩:=RR.2.2.2 (by omega);have hcell:=hc k _ (kad7 l k (by rw[HL.out];exact hlt));obtain⟨x,hx⟩:∃ x,x=l.getD k 0:=⟨_,rfl⟩
   rw[←hx] at hcell;obtain⟨pv,hpv⟩:∃ pv,pv=predv l k 1:=⟨_,rfl⟩
   have HS:=Lib.hid (show mch (l.take (k+1))=mch (l.take k)++[⟨((x:Nat):Int),((pv:Nat):Int)⟩] by rw[mch_take_succ l k (by rw[HL.out];exact hlt),hx,hpv]);have HP:=Lib.hid (fun(W:World) (hW:Rd W (some ⟨b,off,none⟩) (8*n) c1 (ncells l))=>predicted_any hW H01.out k 1 (by rw[HL.out];exact hk) (by omega) (by decide) ((k:Nat):Int) 1 rfl rfl);rw[←hpv] at HP;have HX:=Lib.hid (show(ncells l)[k]?=some (.int .i64 (x:Nat)) by rw[hx];exact kad7 l k (by rw[HL.out];exact hlt));have j1:(0:Int)≤(k:Int):=by omega
   have j2:(k:Int)<((8*n:Nat):Int):=by omega
   clear hc hx hpv
   go_wp2_with fail
   go_region_held_law (fun w'=>w'.cell? ⟨b,off+k,none⟩=some (.int .i64 (x:Nat))) (go_keep) (first
    | (go_at_call 38;refine(HP.out _ (Rd.drew RR)).mono ?_;rintro e w5 ⟨rfl,y5⟩;have Y5:Below wr.heap.size wr.drew w5:=y5;have R5:=Rd.on (w:=wr.drew) (Rd.drew RR) Y5;have hcell5:=R5.elem HX.out;have HO5:=Lib.hid (kbn7 (w:=wr.drew) (kcf7 HO.out) Y5);have Z5:=(belowD yr).trans (Below.mono (w:=wr.drew) Y5 yr.size);have z5s:=Z5.size)
    | (refine step_append_cho (⟨((x:Nat):Int),((pv:Nat):Int)⟩:Cho) 75 (by rfl) w5 rfl _ _ _ (by rfl) w1.heap.size i1 _ 16 Tryz.underlying72 ci cz0 cz1 cz2 (by rfl) _ k (mch (l.take k)) (by rfl) HO5.out (by rfl) (by unfold maxLen;omega) (by omega) z5s ?_;intro A6 c6 w6 ho6 hg6;have Y6:=kr7 Z5 HO5.out hg6 (Nat.le_refl _) z5s;have HO6:=Lib.hid (show w6.ownsRow w1.heap.size 75 2 (.slice A6 (k+1) c6) (k+1) (ccells (mch (l.take (k+1)))) by rw[HS.out];exact ho6);have hcell6:=(R1.on Y6).elem HX.out;clear ho6 hg6))
   go_wp2_with fail
   go_roundw
   case rel=>exact⟨k+1,A6,c6,by omega,by go_num,rfl,Y6,HO6.out⟩
   case measure=>simp[intOf]<;>omega
  ·obtain rfl:k=8*n:=by omega
   have hfull:=HO.out;rw[List.take_of_length_le (Nat.le_of_eq HL.out)] at hfull;have RC:=RdC.own hfull;have hall:=kit7 H01.out;clear hfull
   go_wp2_with fail
   refine(refcode_any RC hall (by rw[kdj7,HL.out];omega)).mono ?_;rintro e w2 ⟨A2,n2,c2,rfl,hn2,o2,y2⟩
   go_wp2_with fail
   go_ret
   exact⟨A2,n2,c2,rfl,Rd.own o2,y1.trans ((yr.trans (y2.mono hys)).mono y1s)⟩
end PB
end
section
open Go.RowKit
attribute [local go_sem ↓] Go.wp_at_zero Go.wp_at_succ
namespace PB
theorem bits_field(x0 x1:Value)(W:World):(Instr.field 70 (.agg #[x0,x1]) 0).run Tryz.prog W=.ok x0 W:=by kernel_rfl
theorem framed_any{A:Option Addr}{n c:Nat}{l:List Nat}{w:World}(m sz:Nat)(hm:m<256)(hsz:sz≤1024)(h:Rd w A n c (ncells l))(h01:Is01 l)(hl:l.length≤1000000)(mi:Int)(hmi:mi=(m:Nat)) :
  Calls Tryz.prog 21 #[.int .i64 mi,.int .i64 (sz:Nat),.slice A n c] w fun e w'=>∃ A' n' c',e=.returned (.slice A' n' c')∧Rd w' A' n' c' (bcells ([m,sz % 256,sz / 256]++pack l))∧Below w.heap.size w w':=by
 subst hmi;obtain⟨i0,hi0,hz0,hz1,hz2⟩:=info_parts kbi7;have o0:=World.ownsRow_lit (base:=w.heap.size) (e:=5) (size:=1) w #[.int .u8 (m:Nat),.int .u8 ((sz % 256:Nat):Int),.int .u8 ((sz / 256:Nat):Int)] 3 (Nat.le_refl _) (by simp[maxLen]) rfl;have y0:Below w.heap.size w (w.alloc (.cells #[.int .u8 (m:Nat),.int .u8 ((sz % 256:Nat):Int),.int .u8 ((sz / 256:Nat):Int)] 5)):=(Below.refl _ _).alloc (Nat.le_refl _) _;have u1:IntKind.u8.wrap ((m:Nat):Int)=((m:Nat):Int):=by rw[IntKind.wrap_u8];omega
 have u2:IntKind.u8.wrap (((sz:Nat):Int) % 256)=((sz % 256:Nat):Int):=by rw[IntKind.wrap_u8];omega
 have u3:IntKind.u8.wrap (((sz:Nat):Int) / 256)=((sz / 256:Nat):Int):=by rw[IntKind.wrap_u8];omega
 have s0:(0:Int)≤((sz:Nat):Int):=by omega
 have HN:=Lib.hid (show n=l.length by have:=h.len;rw[kz7] at this;omega);have HH:=Lib.hid h;clear h
 go_enter Tryz.func21,Tryz.ntmps21
 go_wp2_with fail
 rw[show((sz:Nat):Int) % 256=((sz % 256:Nat):Int) by omega,show((sz:Nat):Int) / 256=((sz / 256:Nat):Int) by omega];generalize w.alloc (.cells #[.int .u8 (m:Nat),.int .u8 ((sz % 256:Nat):Int),.int .u8 ((sz / 256:Nat):Int)] 5)=w1 at o0 y0 ⊢;have y0s:=y0.size;have HO:=Lib.hid o0;clear o0 u1 u2 u3;refine(packed_any n HN.out (HH.out.on y0) h01 hl).mono ?_;rintro e w2 ⟨A2,n2,c2,rfl,R2,y2⟩;have Y2:=y0.trans (y2.mono y0s);have Y2s:=Y2.size;have O2:=Lib.hid (kbn7 HO.out y2);have hn2:=R2.len;rw[ka7,kl7] at hn2;have HR2:=Lib.hid R2;have hn3:n2≤125001:=by omega
 clear hn2 R2;have bf:=bits_field (.slice A2 n2 c2) (.int .i64 (n:Nat))
 go_wp2_with (at_builtin;refine ko7 _ rfl _ _ _ rfl w.heap.size 5 i0 _ 1 Tryz.underlying22 hi0 hz0 hz1 hz2 rfl _ _ _ rfl O2.out _ _ n2 c2 _ rfl HR2.out (kcp7 _) ?g1 ?g2 Y2s ?_)
 case g1=>unfold maxLen;omega
 case g2=>omega
 intro A4 c4 w4 o4 g4 a4;have Y4:=kr7 Y2 O2.out g4 (Nat.le_refl _) Y2s
 go_wp2
 go_ret
 exact⟨_,_,_,rfl,Rd.own o4,Y4⟩
theorem smallest_any{A:Option Addr}{n c:Nat}{blk:List Nat}{A2:Option Addr}{n2 c2:Nat}{dict:List Nat}{w:World}(h:Rd w A n c (bcells blk))(h2:Rd w A2 n2 c2 (bcells dict))(hn:n≤1024)(hn2:n2≤512)(hd:∀ k,blk.getD k 0<256)(hd2:∀ k,dict.getD k 0<256) :
  Calls Tryz.prog 12 #[.slice A n c,.slice A2 n2 c2] w fun e w'=>∃ A' n' c' ts,e=.returned (.slice A' n' c')∧PTok blk dict ts∧Rd w' A' n' c' (bcells (pk2 blk ts))∧Below w.heap.size w w':=by
 obtain⟨i0,hi0,hz0,hz1,hz2⟩:=info_parts kbi7;have e1:=h.len;have e2:=h2.len;rw[ka7] at e1 e2;have E1:=Lib.hid e1;have E2:=Lib.hid e2;have HD:=Lib.hid hd;have HD2:=Lib.hid hd2;have o0:=World.ownsRow_lit (base:=w.heap.size) (e:=5) (size:=1) w #[.int .u8 0] 1 (Nat.le_refl _) (by simp[maxLen]) rfl;have y0:Below w.heap.size w (w.alloc (.cells #[.int .u8 0] 5)):=(Below.refl _ _).alloc (Nat.le_refl _) _;have y0s:=y0.size;have HO:=Lib.hid o0;have HB:=Lib.hid (h.on y0);have HH:=Lib.hid h;have HH2:=Lib.hid h2;clear hd hd2 e1 e2 h h2 o0
 go_enter Tryz.func12,Tryz.ntmps12
 go_wp2_with (at_builtin;refine ko7 _ rfl _ _ _ rfl w.heap.size 5 i0 _ 1 Tryz.underlying22 hi0 hz0 hz1 hz2 rfl _ _ _ rfl HO.out _ _ n c _ rfl HB.out (kcp7 _) ?g1 ?g2 y0s ?_)
 case g1=>unfold maxLen;omega
 case g2=>omega
 intro A3 c3 w3 o3 g3 a3;have y3:=kr7 y0 HO.out g3 (Nat.le_refl _) y0s;have y3s:=y3.size;have R3:=Lib.hid (show Rd w3 A3 (1+n) c3 (bcells (0::blk)) from Rd.own o3);have B3:=Lib.hid (HH.out.on y3);clear o3 g3 a3
 go_wp2_with fail
 refine(modeled_any B3.out HD.out hn).mono ?_;rintro e w4 ⟨A4,n4,c4,rfl,r4,y4⟩;have y4':=y3.trans (y4.mono y3s);have y4s:=y4'.size;have R4:=Lib.hid r4;have R34:=Lib.hid (R3.out.on y4);have L1:=Lib.hid (show blk.length≤1024 by rw[E1.out];exact hn);have L2:=Lib.hid (show dict.length≤512 by rw[E2.out];exact hn2);have A01:=Lib.hid (show Is01 (acode (mch (allbits blk)))∧(acode (mch (allbits blk))).length≤1000000 from⟨acode_01 (kit7 (kbs7 blk)),by
  have a:=acode_le (cs:=mch (allbits blk)) (kit7 (kbs7 blk)) (by rw[kdj7,kax7];have:=L1.out;omega);omega⟩)
 clear r4 y4
 go_wp2_with fail
 refine(framed_any 1 n (by decide) hn R4.out A01.out.1 A01.out.2 1 rfl).mono ?_;rintro e w5 ⟨A5,n5,c5,rfl,r5,y5⟩;have y5':=y4'.trans (y5.mono y4s);have y5s:=y5'.size;have R5:=Lib.hid (show Rd w5 A5 n5 c5 (bcells (fr1 blk)) by unfold fr1;rw[E1.out];exact r5);have R35:=Lib.hid (R34.out.on y5);have B5:=Lib.hid (HH.out.on y5');have D5:=Lib.hid (HH2.out.on y5');clear r5 y5 A01
 go_wp2_with fail
 refine(cheapest_any B5.out D5.out hn hn2).mono ?_;rintro e w6 ⟨L,nn,dd,A6,m6,c6,rfl,hT,o6,y6⟩;have HP:=Lib.hid (show PTok blk dict (tokens (dict++blk) nn dd n2) by
  have q:=E2.out;exact⟨L,nn,dd,by rw[q];exact hT,by rw[q]⟩)
 have T6:=RdT.own o6;generalize tokens (dict++blk) nn dd n2=ts at HP T6;obtain⟨ok1,ok2,-⟩:=HP.out.ok L1.out L2.out;have OK1:=Lib.hid ok1;have OK2:=Lib.hid ok2;have LT:=Lib.hid (HP.out.lit HD.out HD2.out);have TT:=Lib.hid T6;have y6':=y5'.trans (y6.mono y5s);have y6s:=y6'.size;have R36:=Lib.hid (R35.out.on y6);have R56:=Lib.hid (R5.out.on y6);clear ok1 ok2 T6 o6 hT y6
 go_wp2_with fail
 refine(tokensbits_any TT.out OK2.out (AllTok.of _ OK1.out) LT.out _ rfl).mono ?_;rintro e w7 ⟨A7,c7,rfl,o7,y7⟩;have y7':=y6'.trans (y7.mono y6s);have y7s:=y7'.size;have R37:=Lib.hid (R36.out.on y7);have R57:=Lib.hid (R56.out.on y7);have R7:=Lib.hid (Rd.own o7);have C01:=Lib.hid (show Is01 (codeOf ts)∧(codeOf ts).length≤1000000 from⟨codeOf_01 _,by
  rw[kgx7 _ (AllTok.of _ OK1.out)];have:=HP.out.cost_le L1.out L2.out;have q:=L1.out;omega⟩)
 clear o7 y7
 go_wp2_with fail
 refine(framed_any 2 n (by decide) hn R7.out C01.out.1 C01.out.2 2 rfl).mono ?_;rintro e w8 ⟨A8,n8,c8,rfl,r8,y8⟩;have y8':=Lib.hid (y7'.trans (y8.mono y7s));have R8:=Lib.hid (show Rd w8 A8 n8 c8 (bcells (fr2 blk ts)) by unfold fr2;rw[E1.out];exact r8);have R38:=Lib.hid (R37.out.on y8);have R58:=Lib.hid (R57.out.on y8);have N5:=Lib.hid (show(fr1 blk).length=n5 by have:=R5.out.len;rwa [ka7] at this);have N8:=Lib.hid (show(fr2 blk ts).length=n8 by have:=R8.out.len;rwa [ka7] at this);have N3:=Lib.hid (show(0::blk).length=1+n by have:=R3.out.len;rwa [ka7] at this);clear r8 y8 C01;by_cases k1:n5<1+n
 ·have P1:=Lib.hid (show pk1 blk=fr1 blk by unfold pk1;rw[if_pos (by rw[N5.out,N3.out];exact k1)]);have z1:(n5:Int)<1+(n:Int):=by omega
  by_cases k2:n8<n5
  ·have P2:=Lib.hid (show pk2 blk ts=fr2 blk ts by unfold pk2;rw[P1.out,if_pos (by rw[N8.out,N5.out];exact k2)]);have z2:(n8:Int)<(n5:Int):=by omega
   go_wp2_with fail
   go_ret
   exact⟨A8,n8,c8,ts,rfl,HP.out,by rw[P2.out];exact R8.out,y8'.out⟩
  ·have P2:=Lib.hid (show pk2 blk ts=fr1 blk by unfold pk2;rw[P1.out,if_neg (by rw[N8.out,N5.out];exact k2)]);have z2:¬(n8:Int)<(n5:Int):=by omega
   go_wp2_with fail
   go_ret
   exact⟨A5,n5,c5,ts,rfl,HP.out,by rw[P2.out];exact R58.out,y8'.out⟩
 ·have P1:=Lib.hid (show pk1 blk=0::blk by unfold pk1;rw[if_neg (by rw[N5.out,N3.out];exact k1)]);have z1:¬(n5:Int)<1+(n:Int):=by omega
  by_cases k2:n8<1+n
  ·have P2:=Lib.hid (show pk2 blk ts=fr2 blk ts by unfold pk2;rw[P1.out,if_pos (by rw[N8.out,N3.out];exact k2)]);have z2:(n8:Int)<1+(n:Int):=by omega
   go_wp2_with fail
   go_ret
   exact⟨A8,n8,c8,ts,rfl,HP.out,by rw[P2.out];exact R8.out,y8'.out⟩
  ·have P2:=Lib.hid (show pk2 blk ts=0::blk by unfold pk2;rw[P1.out,if_neg (by rw[N8.out,N3.out];exact k2)]);have z2:¬(n8:Int)<1+(n:Int):=by omega
   go_wp2_with fail
   go_ret
   exact⟨A3,1+n,c3,ts,rfl,HP.out,by rw[P2.out];exact R38.out,y8'.out⟩
end PB
end
section
open Go.RowKit
attribute [local go_sem ↓] Go.wp_at_zero Go.wp_at_succ
namespace PB
open Cw (sq1 sq2)
theorem cons3_256{a b c:Nat}{p:List Nat}(ha:a<256)(hb:b<256)(hc:c<256)(hp:∀ k,p.getD k 0<256):∀ k,([a,b,c]++p).getD k 0<256:=by
 intro k;rcases k with _|_|_|k
 ·exact ha
 ·exact hb
 ·exact hc
 ·have:=hp k
  simpa using this
theorem pk2_256{blk:List Nat}{ts:List Tok}(hl:blk.length≤1024)(hd:∀ k,blk.getD k 0<256):∀ k,(pk2 blk ts).getD k 0<256:=by
 have h0:∀ k,(0::blk).getD k 0<256:=by
  intro k;rcases k with _|k
  ·show 0<256;decide
  ·have:=hd k
   simpa using this
 have h1:∀ k,(fr1 blk).getD k 0<256:=cons3_256 (by decide) (Nat.mod_lt _ (by decide)) (by omega) (pack_lt (acode_01 (kit7 (kbs7 blk))));have h2:∀ k,(fr2 blk ts).getD k 0<256:=cons3_256 (by decide) (Nat.mod_lt _ (by decide)) (by omega) (pack_lt (codeOf_01 _));unfold pk2 pk1
 (repeat' split)<;>first
  | exact h2
  | exact h1
  | exact h0
theorem Two.grew{w w':World}{g:Nat}{t:TypeId}{x y:Value}(h:Two w g t x y)(k:Cw.Grew w w'):Two w' g t x y:=(k.2 g (Blk.lt h)).trans h
theorem PTok.one{data dict:List Nat}{ts us:List Tok}(h:PTok data dict ts)(h':PTok data dict us):ts=us:=by
 obtain⟨L,nn,dd,hT,rfl⟩:=h;obtain⟨L',nn',dd',hT',rfl⟩:=h';exact Tab.tokens hT hT'
def T3z(A:Option Addr)(n c:Nat)(A2:Option Addr)(n2 c2:Nat):Array Value:=#[.slice A n c,.slice A2 n2 c2,undef,undef,undef,undef,undef,undef,undef,undef,undef,undef,undef,undef,undef,undef,undef,undef,undef,undef,undef,undef,undef,undef,undef,undef,undef,undef,undef,undef,undef,undef,undef,undef,undef,undef,undef,undef,undef,undef,undef,undef,undef,undef,undef]
def T3a(A:Option Addr)(n c:Nat)(A2:Option Addr)(n2 c2:Nat):Array Value:=#[.slice A n c,.slice A2 n2 c2,undef,undef,.bool false,undef,undef,undef,undef,undef,undef,undef,undef,undef,undef,undef,undef,undef,undef,undef,undef,undef,undef,undef,undef,undef,undef,undef,undef,undef,undef,undef,undef,undef,undef,undef,undef,undef,undef,undef,undef,undef,undef,undef,undef]
def T3b(A:Option Addr)(n c:Nat)(A2:Option Addr)(n2 c2:Nat)(A3:Option Addr)(n3 c3 g:Nat)(fc fi:Int):Array Value:=#[.slice A n c,.slice A2 n2 c2,undef,undef,.bool false,.slice A3 n3 c3,.pointer (some ⟨g,0,none⟩),undef,.tuple #[.slice A3 n3 c3,.agg #[.int .i64 fc,.int .i64 fi]],.slice A n c,.slice A2 n2 c2,.tuple #[.slice A3 n3 c3,.agg #[.int .i64 fc,.int .i64 fi]],.slice A3 n3 c3,.agg #[.int .i64 fc,.int .i64 fi],undef,undef,undef,undef,undef,undef,undef,undef,undef,undef,undef,undef,undef,undef,undef,undef,undef,undef,undef,undef,undef,undef,undef,undef,undef,undef,undef,undef,undef,undef,undef]
def T3c(A:Option Addr)(n c:Nat)(A2:Option Addr)(n2 c2:Nat)(A3:Option Addr)(n3 c3 g:Nat)(fc fi:Int)(g2:Nat):Array Value:=#[.slice A n c,.slice A2 n2 c2,undef,undef,.bool false,.slice A3 n3 c3,.pointer (some ⟨g,0,none⟩),.pointer (some ⟨g2,0,none⟩),.tuple #[.slice A3 n3 c3,.agg #[.int .i64 fc,.int .i64 fi]],.slice A n c,.slice A2 n2 c2,.tuple #[.slice A3 n3 c3,.agg #[.int .i64 fc,.int .i64 fi]],.slice A3 n3 c3,.agg #[.int .i64 fc,.int .i64 fi],.slice A n c,.slice A2 n2 c2,.agg #[.int .i64 fc,.int .i64 fi],undef,undef,undef,undef,undef,undef,undef,undef,undef,undef,undef,undef,undef,undef,undef,undef,undef,undef,undef,undef,undef,undef,undef,undef,undef,undef,undef,undef]
def T3d(A:Option Addr)(n c:Nat)(A2:Option Addr)(n2 c2:Nat)(A3:Option Addr)(n3 c3 g:Nat)(fc fi:Int)(g2:Nat):Array Value:=#[.slice A n c,.slice A2 n2 c2,undef,undef,.bool false,.slice A3 n3 c3,.pointer (some ⟨g,0,none⟩),.pointer (some ⟨g2,0,none⟩),.tuple #[.slice A3 n3 c3,.agg #[.int .i64 fc,.int .i64 fi]],.slice A n c,.slice A2 n2 c2,.tuple #[.slice A3 n3 c3,.agg #[.int .i64 fc,.int .i64 fi]],.slice A3 n3 c3,.agg #[.int .i64 fc,.int .i64 fi],.slice A n c,.slice A2 n2 c2,.agg #[.int .i64 fc,.int .i64 fi],.bool true,.bool false,.bool false,.agg #[.int .i64 fc,.int .i64 fi],.agg #[.int .i64 fc,.int .i64 fi],.bool false,.bool false,undef,undef,undef,undef,undef,undef,undef,undef,undef,undef,undef,undef,undef,undef,undef,undef,undef,undef,undef,undef,undef]
def T3e(A:Option Addr)(n c:Nat)(A2:Option Addr)(n2 c2:Nat)(A3:Option Addr)(n3 c3 g:Nat)(fc fi:Int)(g2:Nat)(q:Bool):Array Value:=#[.slice A n c,.slice A2 n2 c2,undef,undef,.bool false,.slice A3 n3 c3,.pointer (some ⟨g,0,none⟩),.pointer (some ⟨g2,0,none⟩),.tuple #[.slice A3 n3 c3,.agg #[.int .i64 fc,.int .i64 fi]],.slice A n c,.slice A2 n2 c2,.tuple #[.slice A3 n3 c3,.agg #[.int .i64 fc,.int .i64 fi]],.slice A3 n3 c3,.agg #[.int .i64 fc,.int .i64 fi],.slice A n c,.slice A2 n2 c2,.agg #[.int .i64 fc,.int .i64 fi],.bool true,.bool false,.bool false,.agg #[.int .i64 fc,.int .i64 fi],.agg #[.int .i64 fc,.int .i64 fi],.bool false,.bool false,.pointer (some ⟨g2,0,none⟩),.int .i64 fc,.bool q,undef,undef,undef,undef,undef,undef,undef,undef,undef,undef,undef,undef,undef,undef,undef,undef,undef,undef]
noncomputable def C3:Nat→Code
 | 0=>Tryz.f3.body.getD .skip
 | n+1=>sq2 (C3 n)
noncomputable def R3_3:Code:=sq1 (sq1 (C3 3))
noncomputable def ops3_3:Array Oper:=match R3_3 with|.region _ ops _=>ops|_=>#[]
noncomputable def R3_4:Code:=match sq2 (sq1 (C3 3)) with|.cond _ x _=>x|_=>.skip
noncomputable def R3_6:Code:=match sq2 (sq1 (C3 4)) with|.cond _ x _=>sq1 x|_=>.skip
theorem seq3_0:C3 0=.seq (sq1 (C3 0)) (C3 1):=by kernel_rfl
theorem seq3_1:C3 1=.seq (sq1 (C3 1)) (C3 2):=by kernel_rfl
theorem seq3_2:C3 2=.seq (sq1 (C3 2)) (C3 3):=by kernel_rfl
theorem seq3_3:C3 3=.seq (.seq (.region 3 ops3_3 false) (.cond (.tmp 23) R3_4 .skip)) (C3 4):=by kernel_rfl
theorem seq3_4:C3 4=.seq (.seq (sq1 (sq1 (C3 4))) (.cond (.tmp 26) (.seq R3_6 .ret) .skip)) (C3 5):=by kernel_rfl
theorem seq3_5:C3 5=.seq (sq1 (C3 5)) .ret:=by kernel_rfl
theorem range3_3:List.range ops3_3.size=[0,1,2,3,4,5,6]:=by kernel_rfl
theorem r3_0{A:Option Addr}{n c:Nat}{A2:Option Addr}{n2 c2:Nat}(w:World):(sq1 (C3 0)).wp Tryz.prog (fun e a w'=>e=.normal∧a.defers=[]∧(a.tmps=T3a A n c A2 n2 c2∧Cw.Grew w w')) ⟨T3z A n c A2 n2 c2,[]⟩ w:=by
 dsimp only[C3,sq1,sq2,Tryz.f3,Option.getD_some,T3z]
 go_wp2
 exact⟨rfl,Cw.Grew.of (Below.refl _ _)⟩
def P3(A:Option Addr)(n c:Nat)(blk:List Nat)(A2:Option Addr)(n2 c2:Nat)(dict:List Nat)(w:World)(T:Array Value)(w':World):Prop :=
 ∃ A3 n3 c3 g fc fi,T=T3b A n c A2 n2 c2 A3 n3 c3 g fc fi∧Two w' g 24 (.int .i64 fc) (.int .i64 fi)∧Cw.Grew w w'∧(fc,fi)=szf n 1024 n2 ∧
  ((n≤1024∧n2≤512∧fc=0∧∃ ts,PTok blk dict ts∧Rd w' A3 n3 c3 (bcells (pk2 blk ts)))∨(fc=3∧n3=0))
theorem r3_1_ok{A:Option Addr}{n c:Nat}{blk:List Nat}{A2:Option Addr}{n2 c2:Nat}{dict:List Nat}{w:World}(h:Rd w A n c (bcells blk))(h2:Rd w A2 n2 c2 (bcells dict))(hd:∀ k,blk.getD k 0<256)(hd2:∀ k,dict.getD k 0<256)(hn:n≤1024)(hn2:n2≤512):(sq1 (C3 1)).wp Tryz.prog (fun e a w'=>e=.normal∧a.defers=[]∧P3 A n c blk A2 n2 c2 dict w a.tmps w') ⟨T3a A n c A2 n2 c2,[]⟩ w:=by
 have HS:=Lib.hid (show((0:Int),(0:Int))=szf n 1024 n2 by unfold szf;rw[if_neg (by omega),if_neg (by omega)]);dsimp only[C3,sq1,sq2,Tryz.f3,Option.getD_some,T3a]
 go_wp2_with fail
 refine(api_pack_ok h h2 hn hn2 hd hd2).mono ?_;rintro e w1 ⟨A3,n3,c3,ts,rfl,hT,ho,hb⟩;have Y1:=Lib.hid (hb.alloc hb.size (.cells #[.int .i64 0,.int .i64 0] 24));have F1:=Lib.hid (Two.new w1 24 (.int .i64 0) (.int .i64 0));have R1:=Lib.hid ((Rd.own ho).alloc (.cells #[.int .i64 0,.int .i64 0] 24));have HT:=Lib.hid hT;clear ho hT;clear hb
 go_wp2
 exact⟨A3,n3,c3,w1.heap.size,0,0,rfl,F1.out,Cw.Grew.of Y1.out,HS.out,.inl ⟨hn,hn2,rfl,ts,HT.out,R1.out⟩⟩
theorem r3_1_long{A:Option Addr}{n c:Nat}{blk:List Nat}{A2:Option Addr}{n2 c2:Nat}{dict:List Nat}{w:World}(h:Rd w A n c (bcells blk))(h2:Rd w A2 n2 c2 (bcells dict))(hd:∀ k,blk.getD k 0<256)(hd2:∀ k,dict.getD k 0<256)(hn:1024<n):(sq1 (C3 1)).wp Tryz.prog (fun e a w'=>e=.normal∧a.defers=[]∧P3 A n c blk A2 n2 c2 dict w a.tmps w') ⟨T3a A n c A2 n2 c2,[]⟩ w:=by
 have HS:=Lib.hid (show((3:Int),((-1):Int))=szf n 1024 n2 by unfold szf;rw[if_pos hn]);dsimp only[C3,sq1,sq2,Tryz.f3,Option.getD_some,T3a]
 go_wp2_with fail
 refine(api_pack_long hn h.le_max).mono ?_;rintro e w1 ⟨rfl,hb⟩;have Y1:=Lib.hid (hb.alloc hb.size (.cells #[.int .i64 3,.int .i64 (-1)] 24));have F1:=Lib.hid (Two.new w1 24 (.int .i64 3) (.int .i64 (-1)));clear hb
 go_wp2
 exact⟨none,0,0,w1.heap.size,3,(-1),rfl,F1.out,Cw.Grew.of Y1.out,HS.out,.inr ⟨rfl,rfl⟩⟩
theorem r3_1_dict{A:Option Addr}{n c:Nat}{blk:List Nat}{A2:Option Addr}{n2 c2:Nat}{dict:List Nat}{w:World}(h:Rd w A n c (bcells blk))(h2:Rd w A2 n2 c2 (bcells dict))(hd:∀ k,blk.getD k 0<256)(hd2:∀ k,dict.getD k 0<256)(hn:n≤1024)(hn2:512<n2):(sq1 (C3 1)).wp Tryz.prog (fun e a w'=>e=.normal∧a.defers=[]∧P3 A n c blk A2 n2 c2 dict w a.tmps w') ⟨T3a A n c A2 n2 c2,[]⟩ w:=by
 have HS:=Lib.hid (show((3:Int),((-2):Int))=szf n 1024 n2 by unfold szf;rw[if_neg (by omega),if_pos hn2]);dsimp only[C3,sq1,sq2,Tryz.f3,Option.getD_some,T3a]
 go_wp2_with fail
 refine(api_pack_dict hn hn2 h2.le_max).mono ?_;rintro e w1 ⟨rfl,hb⟩;have Y1:=Lib.hid (hb.alloc hb.size (.cells #[.int .i64 3,.int .i64 (-2)] 24));have F1:=Lib.hid (Two.new w1 24 (.int .i64 3) (.int .i64 (-2)));clear hb
 go_wp2
 exact⟨none,0,0,w1.heap.size,3,(-2),rfl,F1.out,Cw.Grew.of Y1.out,HS.out,.inr ⟨rfl,rfl⟩⟩
theorem r3_1{A:Option Addr}{n c:Nat}{blk:List Nat}{A2:Option Addr}{n2 c2:Nat}{dict:List Nat}{w:World}(h:Rd w A n c (bcells blk))(h2:Rd w A2 n2 c2 (bcells dict))(hd:∀ k,blk.getD k 0<256)(hd2:∀ k,dict.getD k 0<256):(sq1 (C3 1)).wp Tryz.prog (fun e a w'=>e=.normal∧a.defers=[]∧P3 A n c blk A2 n2 c2 dict w a.tmps w') ⟨T3a A n c A2 n2 c2,[]⟩ w:=by
 rcases Nat.lt_or_ge 1024 n with hn|hn
 ·exact r3_1_long h h2 hd hd2 hn
 ·rcases Nat.lt_or_ge 512 n2 with hn2|hn2
  ·exact r3_1_dict h h2 hd hd2 hn hn2
  ·exact r3_1_ok h h2 hd hd2 hn hn2
theorem r3_2{A:Option Addr}{n c:Nat}{A2:Option Addr}{n2 c2:Nat}{A3:Option Addr}{n3 c3 g:Nat}{fc fi:Int}{w:World}(hn:n≤maxLen)(hn2:n2≤maxLen)(hF:(fc,fi)=szf n 1024 n2)(hG:Two w g 24 (.int .i64 fc) (.int .i64 fi)):(sq1 (C3 2)).wp Tryz.prog (fun e a w'=>e=.normal∧a.defers=[]∧∃ g2,a.tmps=T3c A n c A2 n2 c2 A3 n3 c3 g fc fi g2∧Two w' g 24 (.int .i64 fc) (.int .i64 fi)∧Two w' g2 24 (.int .i64 fc) (.int .i64 fi)∧Cw.Grew w w') ⟨T3b A n c A2 n2 c2 A3 n3 c3 g fc fi,[]⟩ w:=by
 dsimp only[C3,sq1,sq2,Tryz.f3,Option.getD_some,T3b]
 go_wp2_with fail
 refine(sizefault_any (most:=1024) (by decide) hn hn2 _ (fc,fi) hF).mono ?_;rintro e w1 ⟨rfl,hb⟩;have Y1:=Lib.hid (hb.alloc hb.size (.cells #[.int .i64 fc,.int .i64 fi] 24));have F1:=Lib.hid (Two.new w1 24 (.int .i64 fc) (.int .i64 fi));have G1:=Lib.hid ((hG.on hb).alloc (.cells #[.int .i64 fc,.int .i64 fi] 24));clear hb hF hG
 go_wp2
 exact⟨w1.heap.size,rfl,G1.out,F1.out,Cw.Grew.of Y1.out⟩
theorem r3_3{A:Option Addr}{n c:Nat}{A2:Option Addr}{n2 c2:Nat}{A3:Option Addr}{n3 c3 g:Nat}{fc fi:Int}{g2:Nat}{w:World}(hF:Two w g 24 (.int .i64 fc) (.int .i64 fi))(hF2:Two w g2 24 (.int .i64 fc) (.int .i64 fi)) :
  wpOps Tryz.prog ops3_3 (fun e a w'=>e=.normal∧a.defers=[]∧(a.tmps=T3d A n c A2 n2 c2 A3 n3 c3 g fc fi g2∧Cw.Grew w w')) [1,2,3,4,5,6] ⟨(T3c A n c A2 n2 c2 A3 n3 c3 g fc fi g2).setIfInBounds 17 (.bool true),[]⟩ w:=by
 have e1:([1,2,3,4,5,6]:List Nat)=List.range' 1 (ops3_3.toList.drop 1).length:=by kernel_rfl
 rw[e1,wpOps_eq_wpList (ops3_3.toList.drop 1) 1 (fun j=>by rw[List.getElem?_drop,Array.getElem?_toList])];have f0:=hF.c0;have f1:=hF.c1;have h0:=hF2.c0;have h1:=hF2.c1;have y0:=Lib.hid (Below.refl w.heap.size w);clear hF hF2;dsimp only[ops3_3,R3_3,C3,sq1,sq2,Tryz.f3,Option.getD_some,T3c,List.drop,List.setIfInBounds_toArray,List.set_cons_zero,List.set_cons_succ]
 go_wp2
 exact⟨rfl,Cw.Grew.of y0.out⟩
theorem r3_5{A:Option Addr}{n c:Nat}{A2:Option Addr}{n2 c2:Nat}{A3:Option Addr}{n3 c3 g:Nat}{fc fi:Int}{g2:Nat}{w:World}(hF2:Two w g2 24 (.int .i64 fc) (.int .i64 fi))(q:Bool)(hq:(fc=0∧q=false)∨(fc=3∧q=true)):(sq1 (sq1 (C3 4))).wp Tryz.prog (fun e a w'=>e=.normal∧a.defers=[]∧(a.tmps=T3e A n c A2 n2 c2 A3 n3 c3 g fc fi g2 q∧Cw.Grew w w')) ⟨T3d A n c A2 n2 c2 A3 n3 c3 g fc fi g2,[]⟩ w:=by
 have h0:=hF2.c0;have y0:=Lib.hid (Below.refl w.heap.size w);clear hF2;rcases hq with⟨rfl,rfl⟩|⟨rfl,rfl⟩
 ·dsimp only[C3,sq1,sq2,Tryz.f3,Option.getD_some,T3d]
  go_wp2
  exact⟨rfl,Cw.Grew.of y0.out⟩
 ·dsimp only[C3,sq1,sq2,Tryz.f3,Option.getD_some,T3d]
  go_wp2
  exact⟨rfl,Cw.Grew.of y0.out⟩
theorem r3_6{A:Option Addr}{n c:Nat}{A2:Option Addr}{n2 c2:Nat}{A3:Option Addr}{c3 g:Nat}{fc fi:Int}{g2:Nat}{w:World}:R3_6.wp Tryz.prog (fun e a w'=>e=.normal∧a.defers=[]∧(a.tmps.getD 4 undef=.bool true∧Cw.Grew w w')) ⟨T3e A n c A2 n2 c2 A3 0 c3 g fc fi g2 true,[]⟩ w:=by
 have y0:=Lib.hid (Below.refl w.heap.size w);dsimp only[R3_6,C3,sq1,sq2,Tryz.f3,Option.getD_some,T3e]
 go_wp2
 exact Cw.Grew.of y0.out
theorem r3_7_long{A:Option Addr}{n c:Nat}{blk:List Nat}{A2:Option Addr}{n2 c2:Nat}{dict:List Nat}{w:World}(h:Rd w A n c (bcells blk))(h2:Rd w A2 n2 c2 (bcells dict)){A3:Option Addr}{n3 c3 g:Nat}{fi:Int}{g2:Nat}(hn:40<n):(sq1 (C3 5)).wp Tryz.prog (fun e a w'=>e=.normal∧a.defers=[]∧(a.tmps.getD 4 undef=.bool true∧Cw.Grew w w')) ⟨T3e A n c A2 n2 c2 A3 n3 c3 g 0 fi g2 false,[]⟩ w:=by
 have y0:=Lib.hid (Below.refl w.heap.size w);have z1:(40:Int)<(n:Int):=by omega
 dsimp only[C3,sq1,sq2,Tryz.f3,Option.getD_some,T3e]
 go_wp2
 exact Cw.Grew.of y0.out
theorem r3_7_dict{A:Option Addr}{n c:Nat}{blk:List Nat}{A2:Option Addr}{n2 c2:Nat}{dict:List Nat}{w:World}(h:Rd w A n c (bcells blk))(h2:Rd w A2 n2 c2 (bcells dict)){A3:Option Addr}{n3 c3 g:Nat}{fi:Int}{g2:Nat}(hn:n≤40)(hn2:100<n2):(sq1 (C3 5)).wp Tryz.prog (fun e a w'=>e=.normal∧a.defers=[]∧(a.tmps.getD 4 undef=.bool true∧Cw.Grew w w')) ⟨T3e A n c A2 n2 c2 A3 n3 c3 g 0 fi g2 false,[]⟩ w:=by
 have y0:=Lib.hid (Below.refl w.heap.size w);have z1:¬(40:Int)<(n:Int):=by omega
 have z2:(100:Int)<(n2:Int):=by omega
 dsimp only[C3,sq1,sq2,Tryz.f3,Option.getD_some,T3e]
 go_wp2
 exact Cw.Grew.of y0.out
theorem r3_7_ok{A:Option Addr}{n c:Nat}{blk:List Nat}{A2:Option Addr}{n2 c2:Nat}{dict:List Nat}{w:World}(h:Rd w A n c (bcells blk))(h2:Rd w A2 n2 c2 (bcells dict))(hd:∀ k,blk.getD k 0<256)(hd2:∀ k,dict.getD k 0<256){A3:Option Addr}{n3 c3 g:Nat}{fi:Int}{g2:Nat}(hn:n≤40)(hn2:n2≤100){ts:List Tok}(hT:PTok blk dict ts)(h3:Rd w A3 n3 c3 (bcells (pk2 blk ts))):(sq1 (C3 5)).wp Tryz.prog (fun e a w'=>e=.normal∧a.defers=[]∧(a.tmps.getD 4 undef=.bool true∧Cw.Grew w w')) ⟨T3e A n c A2 n2 c2 A3 n3 c3 g 0 fi g2 false,[]⟩ w:=by
 have z1:¬(40:Int)<(n:Int):=by omega
 have z2:¬(100:Int)<(n2:Int):=by omega
 have e1:=h.len;rw[ka7] at e1;have HT:=Lib.hid hT;have H3:=Lib.hid h3;have H256:=Lib.hid (fun ts:List Tok=>pk2_256 (blk:=blk) (ts:=ts) (by omega) hd);clear hT h3 e1;dsimp only[C3,sq1,sq2,Tryz.f3,Option.getD_some,T3e]
 go_wp2_with fail
 refine(smallest_any h h2 (by omega) (by omega) hd hd2).mono ?_;rintro e w1 ⟨A4,n4,c4,us,rfl,hU,hr,hb⟩;have hus:=PTok.one hU HT.out;subst hus;have R3:=Lib.hid (H3.out.on hb);have HR:=Lib.hid hr;have HB:=Lib.hid hb;clear hU hr hb
 go_wp2_with fail
 refine(kcy7 _ _ _ (pk2 blk us) _ _ _ (pk2 blk us) _ R3.out HR.out (H256.out us) (H256.out us)).mono ?_;rintro e w2 ⟨rfl,rfl⟩
 go_wp2
 exact Cw.Grew.of HB.out
theorem r3_7{A:Option Addr}{n c:Nat}{blk:List Nat}{A2:Option Addr}{n2 c2:Nat}{dict:List Nat}{w:World}(h:Rd w A n c (bcells blk))(h2:Rd w A2 n2 c2 (bcells dict))(hd:∀ k,blk.getD k 0<256)(hd2:∀ k,dict.getD k 0<256){A3:Option Addr}{n3 c3 g:Nat}{fi:Int}{g2:Nat}(hok:∃ ts,PTok blk dict ts∧Rd w A3 n3 c3 (bcells (pk2 blk ts))):(sq1 (C3 5)).wp Tryz.prog (fun e a w'=>e=.normal∧a.defers=[]∧(a.tmps.getD 4 undef=.bool true∧Cw.Grew w w')) ⟨T3e A n c A2 n2 c2 A3 n3 c3 g 0 fi g2 false,[]⟩ w:=by
 obtain⟨ts,hT,h3⟩:=hok;rcases Nat.lt_or_ge 40 n with hn|hn
 ·exact r3_7_long h h2 hn
 ·rcases Nat.lt_or_ge 100 n2 with hn2|hn2
  ·exact r3_7_dict h h2 hn hn2
  ·exact r3_7_ok h h2 hd hd2 hn hn2 hT h3
end PB
end
section
open Go.ChangeShapes Go.WideShapes Go.ChangeAt Go.RowKit
namespace PB
section
variable {H:Type}{enc:TypeId×Value→H}{w:World}{base:Nat}{spare:Nat→Bool}{held:Bool}
theorem rd_of_ints{P:Program}{t e:TypeId}{k:IntKind}{fuel:Nat}{v:Value}{x:DataW H×List MemPlace}(ht:P.underlying t=some (.slice e))(he:P.underlying e=some (.int k))(hc:P.cellsOf e=1)
  (hval:∃ A n c,v=.slice A n c) (h:DataW.trod enc P w base spare held fuel t [v]=some x) :
  ∃ A n c,∃ zs:List Int,v=.slice A n c∧Rd w A n c (zs.map (Value.int k))∧∀ z∈zs,(Lit.int k z).wf=true:=by
 rcases open_ints ht he hc h with⟨hcs,_⟩|⟨a,len,cap,zs,hcs,_,hl,hm,hz,_,hcell,hwz⟩
 ·cases hcs;exact⟨none,0,0,[],rfl,Reads.nil _ _ none 0 (Nat.zero_le _),by simp⟩
 ·cases hcs;have hlz:len≤zs.length:=by rw[hz];split<;>omega
  refine⟨some a,len,cap,zs.take len,rfl,⟨by simp;omega,hl,hm,fun h0=>?_⟩,fun z hz'=>hwz z (List.mem_of_mem_take hz')⟩;obtain⟨b,off,spot⟩:=a;have h00:=hcell 0 (by omega);have hspot:spot=none:=by simpa [Addr.add] using World.cell?_spot h00
  subst hspot;have hadd:∀ j,(⟨b,off,none⟩:Addr).add j=⟨b,off+j,none⟩:=by
   intro j;unfold Addr.add;by_cases hj:j=0<;>simp[hj]
  refine⟨b,off,rfl,?_,fun j u hu=>?_⟩
  ·have:=World.block_lt_of_cell? _ _ h00
   simpa [hadd] using this
  ·rw[List.getElem?_map] at hu;have hj:j<len:=by
    rcases Nat.lt_or_ge j len with h|h
    ·exact h
    ·rw[List.getElem?_eq_none (by simp;omega)] at hu;simp at hu
   have hcj:=hcell j (by omega);rw[hadd] at hcj;rw[hcj];rw[List.getElem?_take,if_pos hj] at hu;rw[List.getElem?_eq_getElem (by omega)] at hu;simp at hu;rw[←hu,List.getD_eq_getElem?_getD,List.getElem?_eq_getElem (by omega)];rfl
theorem bytes_of_wf(zs:List Int)(h:∀ z∈zs,(Lit.int .u8 z).wf=true):∃ d:List Nat,zs.map (Value.int .u8)=bcells d∧∀ k,d.getD k 0<256:=by
 have hz:∀ z∈zs,0≤z∧z<256:=by
  intro z hz;have:=h z hz;simp[Lit.wf,IntKind.min,IntKind.max,IntKind.signed,IntKind.bits] at this;omega
 refine⟨zs.map Int.toNat,?_,?_⟩
 ·unfold bcells;rw[List.map_map];refine List.map_congr_left fun z hz'=>?_;have:=hz z hz';simp;omega
 ·intro k;rw[List.getD_eq_getElem?_getD,List.getElem?_map];rcases Nat.lt_or_ge k zs.length with hk|hk
  ·rw[List.getElem?_eq_getElem hk];have:=hz _ (List.getElem_mem hk);simp;omega
  ·rw[List.getElem?_eq_none hk];simp
end
end PB
end
section
open Go.ChangeShapes Go.WideShapes Go.ChangeAt Go.RowKit Go.Deep
namespace PB
section
variable {H:Type}{enc:TypeId×Value→H}{w:World}{base:Nat}{spare:Nat→Bool}{held:Bool}
theorem open_bytes{r:Reach}{b0:Nat}{v:Value}{d:DataW H}{p:List MemPlace}(hv:Value.okWide Tryz.prog w r b0 22 v)(h:DataW.Trod enc Tryz.prog w base spare held 22 v d p) :
  ∃ (A:Option Addr) (n c:Nat) (bs:List Nat),v=.slice A n c∧Rd w A n c (bcells bs)∧∀ k,bs.getD k 0<256:=by
 obtain⟨fuel,hf⟩:=h;obtain⟨A,n,c,rfl⟩:=okWide_slice Tryz.underlying22 hv;obtain⟨A',n',c',zs,e,hr,hw⟩:=rd_of_ints Tryz.underlying22 Tryz.underlying5 (by kernel_rfl) ⟨_,_,_,rfl⟩ hf;obtain⟨bs,hb,hlt⟩:=bytes_of_wf zs hw;rw[hb] at hr;exact⟨A',n',c',bs,e,hr,hlt⟩
def Tok.wf(t:Tok):Prop:=t.lit<256∧-9223372036854775808≤t.d∧t.d≤9223372036854775807∧-9223372036854775808≤t.n∧t.n≤9223372036854775807
end
end PB
end
section
namespace Cw
open Go Go.Conc Go.ConcN Rn Go.RowKit
theorem lore_nil(n q:Nat):Lore (InB fun _=>False) n q #[]:=by
 have h:=past_nil;refine⟨h.clean,h.over,h.hears,fun op hop=>by simp at hop,fun i op x hi=>by simp at hi,fun i a ha=>?_,fun i a ha=>?_,fun op hop=>by simp at hop⟩
 ·obtain⟨x,hx,_⟩:=touch_of ha;simp at hx
 ·obtain⟨x,hx,_⟩:=touch_of ha;simp at hx
theorem run_of_fin{P:Program}{PostF:Value→World→Prop}{g:Goroutine}{w:World}(h:Fin P PostF (fun _=>False) 0 g w) :
  ∃ N last o w' t',runNT P (N+1) (solo g w) #[]=(.ended o w',t')∧runN P N (solo g w)=.next last∧step P last=.ended o w'∧Conc.Good P PostF last o w' t' :=
 h #[g] none #[] (fun _=>0) rfl rfl (leavers_one P g) (lore_nil _ _)
section
variable {H:Type}{enc:TypeId×Value→H}
theorem leaving_shaped{a:Assume}{C:Checked}{os:Os}{f:FuncId}{fn:Func}{s:ChangeSpec}{conds:List PathCond}{apart fresh handsOn again:Bool}
  (own:ownKnob C.prog.godebug=none) (started:os.Started) (hfn:C.prog.funcs[f]?=some fn)
  (witness:∃ (w:World) (tape:Tape) (i:Input),w.os=os∧(w.forCall tape i).Shaped C.prog∧i.vars=[]∧Input.okWide C.prog (w.forCall tape i) .any w.heap.size f i ∧
   s.pre6 enc C.prog fn conds apart (w.forCall tape i).memory i.args∧a.holds C.prog (lone (Frame.enter C.prog f i.args .normal) [] (w.forCall tape i)))
  (runs:∀ (W:World) (base:Nat) (args:Array Value) (ds gs:List (DataW H)) (before:List MemPlace),
   (∀ (j:Nat) t v,fn.params[j]?=some t→args[j]?=some v→Value.okWide C.prog W .any base t v) →
   DataW.Whole enc C.prog fn.params.toList s.vars apart W args.toList ds gs before →
   W.ShapedOpen C.prog →
   Fin C.prog (fun v W'=>s.post enc C.prog fn apart fresh handsOn again W args v W') (fun _=>False) 0 (G (Frame.enter C.prog f args .normal) []) W) :
  ReturnsInLeavingWide a C os f .any (s.pre6 enc C.prog fn conds apart) (s.post enc C.prog fn apart fresh handsOn again):=by
 refine returnsInLeavingWide_of_good own started witness ?_;intro w tape i _ hsh _ hok hpre hholds;obtain⟨_,_,_,fn',hfn',_,_,_,_,hval⟩:=hok;have e:fn'=fn:=Option.some.inj (hfn'.symm.trans hfn);subst e;obtain⟨⟨ds,gs,before,hw,hc⟩,hz⟩:=hpre;have hw':=DataW.Whole.of_heap (w':=w.forCall tape i) (by rfl) hw;obtain⟨M,last,o,w',t',h1,h2,h3,h4⟩:=run_of_fin (runs (w.forCall tape i) w.heap.size i.args ds gs before hval hw' hsh);exact⟨M,last,o,w',t',h1,h2,h3,h4.mono fun v hp=>ChangeSpec.post_blind hp⟩
end
theorem Same.below{W w:World}(h:Same W w):Below W.heap.size W w:=⟨h.os,h.tape,h.output,h.size,h.old⟩
theorem fin_mono{P:Program}{Post Post':Value→World→Prop}{B:Nat→Prop}{q0:Nat}{g:Goroutine}{w:World}(hp:∀ v w',Post v w'→Post' v w')(h:Fin P Post B q0 g w):Fin P Post' B q0 g w:=by
 intro gs sl t q h1 h2 h3 h4;obtain⟨N,last,o,w',t',k1,k2,k3,k4⟩:=h gs sl t q h1 h2 h3 h4;exact⟨N,last,o,w',t',k1,k2,k3,by
  obtain⟨v,x1,x2,x3⟩:=k4;exact⟨v,x1,hp v _ x2,x3⟩⟩
theorem kiv7:Tryz.prog.globals.size=1:=by kernel_rfl
theorem rowAt_int{fits:TypeId→Bool}(hf:fits 3=false):∀ d cnt off n,rowAt Tryz.prog fits d 3 cnt off n=false
 | 0,_,_,_=>rfl
 | d+1,cnt,off,n=>by
  unfold rowAt;simp only[Tryz.underlying3,hf,Bool.and_false,Bool.or_false,ite_self]
theorem no_bytes_in_int:∀ D cnt off n:Nat,liesAt Tryz.prog D 3 cnt off 5 n=false
 | 0,_,_,_=>rfl
 | D+1,cnt,off,n=>by
  have h0:sameLayout Tryz.prog Tryz.prog.depth 3 5=false:=by kernel_rfl
  unfold liesAt;simp only[Tryz.underlying5];rw[rowAt_int h0];rfl
theorem row_of_arg{W:World}{base:Nat}(hsh:W.ShapedOpen Tryz.prog){v:Value}(hv:Value.okWide Tryz.prog W .any base 22 v) :
  ∀ a l c,v=.slice (some a) l c→Tryz.prog.globals.size≤a.block∧a.spot=none∧∃ cs t f,W.heap[a.block]?=some (.cells cs t f):=by
 rintro a l c rfl;unfold Value.okWide at hv;rw[Tryz.underlying22] at hv;unfold Cell.okWide at hv;rw[Tryz.underlying22] at hv;unfold Cell.ok at hv;rw[Tryz.underlying22] at hv;obtain⟨h1,h2,h3⟩:=hv;obtain⟨_,hs,row,cells,hsp,hl⟩:=h3;have hx:∃ cs f,W.heap[a.block]?=some (.cells cs row f):=by
  unfold World.shape? at hsp
  split at hsp
  ·rename_i c0 e0 f0 he
   cases hsp;exact⟨_,_,he⟩
  ·cases hsp
 obtain⟨cs,f,hx⟩:=hx;refine⟨?_,hs,cs,row,f,hx⟩;rcases Nat.lt_or_ge a.block Tryz.prog.globals.size with hlt|hge
 ·exfalso;have hg:Tryz.prog.globals.size=1:=by kernel_rfl
  have hb:a.block=0:=by omega
  obtain⟨zero,hz⟩:∃ zero,(((begin Tryz.prog (fun _ _=>0) default).world).heap[0]?).bind Obj.row?=some (zero,3):=⟨#[.int .i64 0],by kernel_rfl⟩
  obtain⟨cs',e1,_⟩:=hsh.1 0 zero 3 (by omega) hz;rw[hb,e1] at hx;cases hx;rw[no_bytes_in_int] at hl;cases hl
 ·exact hge
theorem shaped_low{W:World}(hsh:W.ShapedOpen Tryz.prog):Tryz.prog.globals.size≤W.heap.size:=by
 rw[kiv7];have hz:(((begin Tryz.prog (fun _ _=>0) default).world).heap[0]?).bind Obj.row?=some (#[.int .i64 0],3):=by kernel_rfl
 obtain⟨cs',e1,_⟩:=hsh.1 0 #[.int .i64 0] 3 (by rw[kiv7];decide) hz;have:=(Array.getElem?_eq_some_iff.1 e1).1;omega
end Cw
end
section
namespace Cw
open Go Go.Conc Go.ConcN Rn Go.RowKit
open PB (C3 ops3_3 T3z T3a T3b T3c T3d T3e P3)
theorem body3:Tryz.f3.body=some (C3 0):=by kernel_rfl
theorem ntmps3:Tryz.f3.ntmps=45:=by kernel_rfl
noncomputable def o3_3:Oper:=(ops3_3[0]?).getD default
theorem o3_3_at:ops3_3[0]?=some o3_3:=by kernel_rfl
theorem o3_3_op:o3_3.dst=some 17∧o3_3.guard=none∧o3_3.op=.call { callee:=.value (.func 10),args:=#[],argTypes:=#[] }:=⟨by kernel_rfl,by kernel_rfl,by kernel_rfl⟩
theorem pack_fin{W:World}{A:Option Addr}{n c:Nat}{blk:List Nat}{A2:Option Addr}{n2 c2:Nat}{dict:List Nat}(h:PB.Rd W A n c (PB.bcells blk))(h2:PB.Rd W A2 n2 c2 (PB.bcells dict))(hd:∀ k,blk.getD k 0<256)(hd2:∀ k,dict.getD k 0<256)
  (hA:ArgOk W A) (hA2:ArgOk W A2) (hlo:Tryz.prog.globals.size≤W.heap.size) :
  Fin Tryz.prog (fun v w'=>v=.bool true∧Same W w') (fun _=>False) 0 (G (Frame.enter Tryz.prog 3 #[.slice A n c,.slice A2 n2 c2] .normal) []) W:=by
 rw[enter_at _ Tryz.func3 body3,ntmps3];have hb:Plainb (base 3):=⟨rfl⟩
 have hS:=args_low hA hA2;have hrow:=args_row hA hA2;have hv:PB.Rd (veil (ArgS A A2) W) A n c (PB.bcells blk):=rd_veil h;have hv2:PB.Rd (veil (ArgS A A2) W) A2 n2 c2 (PB.bcells dict):=rd_veil h2;have g0:Gh (ArgS A A2) hS W (fun _=>False) (renA Tryz.prog S0 (ArgS A A2) hS) (veil (ArgS A A2) W) W:=Gh.begin hrow hlo;have eT:T3z A n c A2 n2 c2=#[.slice A n c,.slice A2 n2 c2]++Array.replicate (45-(#[.slice A n c,.slice A2 n2 c2]:Array Value).size) undef:=by kernel_rfl
 have hT0:ARR (renA Tryz.prog S0 (ArgS A A2) hS) (T3z A n c A2 n2 c2) (#[.slice A n c,.slice A2 n2 c2]++Array.replicate (45-(#[.slice A n c,.slice A2 n2 c2]:Array Value).size) undef):=by
  rw[eT];exact args_arr
 rw[PB.seq3_0];refine gh_seq g0 hb (by kernel_rfl) (Q:=fun T w'=>T=T3a A n c A2 n2 c2∧Grew (veil (ArgS A A2) W) w') hT0 (fun u=>PB.r3_0 (tp (veil (ArgS A A2) W) u)) ?_;rintro ρ1 T1 T1' wp1 w1 u1 g1 ⟨rfl,k1⟩ ha1;replace k1:Grew (veil (ArgS A A2) W) wp1:=k1;rw[PB.seq3_1];refine gh_seq g1 hb (by kernel_rfl) (Q:=fun T w'=>P3 A n c blk A2 n2 c2 dict wp1 T w') ha1 (fun u=>PB.r3_1 (w:=tp wp1 u) (PB.Rd.grew hv k1) (PB.Rd.grew hv2 k1) hd hd2) ?_;rintro ρ2 T2 T2' wp2 w2 u2 g2 ⟨A3,n3,c3,g,fc,fi,rfl,q1,q2,qs,q3⟩ ha2;replace q1:PB.Two wp2 g 24 (.int .i64 fc) (.int .i64 fi):=q1;have k2:Grew (veil (ArgS A A2) W) wp2:=k1.trans q2;rw[PB.seq3_2];refine gh_seq g2 hb (by kernel_rfl) (Q:=fun T w'=>∃ gg,T=T3c A n c A2 n2 c2 A3 n3 c3 g fc fi gg∧PB.Two w' g 24 (.int .i64 fc) (.int .i64 fi)∧PB.Two w' gg 24 (.int .i64 fc) (.int .i64 fi)∧Grew wp2 w') ha2 (fun u=>PB.r3_2 (w:=tp wp2 u) h.le_max h2.le_max qs q1) ?_;rintro ρ3 T3 T3' wp3 w3 u3 g3 ⟨gg,rfl,p1,p2,k3⟩ ha3;replace p1:PB.Two wp3 g 24 (.int .i64 fc) (.int .i64 fi):=p1;replace p2:PB.Two wp3 gg 24 (.int .i64 fc) (.int .i64 fi):=p2;replace k3:Grew wp2 wp3:=k3;rw[PB.seq3_3];refine kiu7 g3 rfl (fun w₁=>stepG_seq) fun w4 g4=>?_;refine kiu7 g4 rfl (fun w₁=>stepG_seq) fun w5 g5=>?_;refine kiu7 g5 rfl (fun w₁=>stepG_region) fun w6 g6=>?_;rw[PB.range3_3];refine gh_packs g6 (by decide) o3_3_at (wanted_free o3_3_op.2.1) o3_3_op.1 o3_3_op.2.2 (by decide) ha3 fun w7 N g7 ha7=>?_
 refine gh_ops g7 hb (by kernel_rfl) (Q:=fun T w'=>T=T3d A n c A2 n2 c2 A3 n3 c3 g fc fi gg∧Grew wp3 w') ha7 (fun u=>PB.r3_3 (w:=tp wp3 u) p1 p2) ?_;rintro ρ8 T8 T8' wp8 w8 u8 g8 ⟨rfl,k8⟩ ha8;replace k8:Grew wp3 wp8:=k8;refine kiu7 g8 rfl (fun w₁=>stepG_cond (t:=false) (eval_bool (k:=23) ha8 rfl)) fun w9 g9=>?_;refine kiu7 g9 rfl (fun w₁=>stepG_skip) fun w10 g10=>?_;rw[PB.seq3_4];refine kiu7 g10 rfl (fun w₁=>stepG_seq) fun w11 g11=>?_;have p8:PB.Two wp8 gg 24 (.int .i64 fc) (.int .i64 fi):=p2.grew k8;have k38:Grew (veil (ArgS A A2) W) wp8:=(k2.trans k3).trans k8;rcases q3 with⟨hn,hn2,rfl,hok⟩|⟨rfl,rfl⟩
 ·refine gh_seq g11 hb (by kernel_rfl) (Q:=fun T w'=>T=T3e A n c A2 n2 c2 A3 n3 c3 g 0 fi gg false∧Grew wp8 w') ha8 (fun u=>PB.r3_5 (w:=tp wp8 u) p8 false (.inl ⟨rfl,rfl⟩)) ?_;rintro ρ12 T12 T12' wp12 w12 u12 g12 ⟨rfl,k12⟩ ha12;replace k12:Grew wp8 wp12:=k12;refine kiu7 g12 rfl (fun w₁=>stepG_cond (t:=false) (eval_bool (k:=26) ha12 rfl)) fun w13 g13=>?_;refine kiu7 g13 rfl (fun w₁=>stepG_skip) fun w14 g14=>?_;rw[PB.seq3_5];have k312:=k38.trans k12;obtain⟨ts,hT,hR⟩:=hok;replace hR:PB.Rd wp2 A3 n3 c3 (PB.bcells (PB.pk2 blk ts)):=hR;refine gh_seq g14 hb (by kernel_rfl) (Q:=fun T w'=>T.getD 4 undef=.bool true∧Grew wp12 w') ha12 (fun u=>PB.r3_7 (w:=tp wp12 u) (PB.Rd.grew hv k312) (PB.Rd.grew hv2 k312) hd hd2 ⟨ts,hT,PB.Rd.grew hR ((k3.trans k8).trans k12)⟩) ?_;rintro ρ15 T15 T15' wp15 w15 u15 g15 ⟨hr,k15⟩ ha15;refine kiu7 g15 rfl (fun w₁=>stepG_ret') fun w16 g16=>?_;exact gh_done hrow g16 hb Tryz.func3 (by kernel_rfl) (r:=4) rfl ha15 hr (k312.trans k15).on_veil
 ·refine gh_seq g11 hb (by kernel_rfl) (Q:=fun T w'=>T=T3e A n c A2 n2 c2 A3 0 c3 g 3 fi gg true∧Grew wp8 w') ha8 (fun u=>PB.r3_5 (w:=tp wp8 u) p8 true (.inr ⟨rfl,rfl⟩)) ?_;rintro ρ12 T12 T12' wp12 w12 u12 g12 ⟨rfl,k12⟩ ha12;replace k12:Grew wp8 wp12:=k12;refine kiu7 g12 rfl (fun w₁=>stepG_cond (t:=true) (eval_bool (k:=26) ha12 rfl)) fun w13 g13=>?_;refine gh_seq g13 hb (by kernel_rfl) (Q:=fun T w'=>T.getD 4 undef=.bool true∧Grew wp12 w') ha12 (fun u=>PB.r3_6 (w:=tp wp12 u)) ?_;rintro ρ15 T15 T15' wp15 w15 u15 g15 ⟨hr,k15⟩ ha15;refine kiu7 g15 rfl (fun w₁=>stepG_ret') fun w16 g16=>?_;exact gh_done hrow g16 hb Tryz.func3 (by kernel_rfl) (r:=4) rfl ha15 hr ((k38.trans k12).trans k15).on_veil
end Cw
end
end Go.Proofs.YtnpcandaehejbaaGreat
