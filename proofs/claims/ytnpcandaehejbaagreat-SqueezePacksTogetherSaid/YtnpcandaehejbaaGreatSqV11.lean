/-
  modeled.pack: what its step function does; the code of a block by the model's probabilitie
-/
import Derived.Laws.EntriesVeiled
import Derived.Handy
import Derived.Deep.RegionWith
import Derived.Laws.CopyOwn
import Derived.Test.YtnpcandaehejbaaGreatSqV7
import Derived.Test.YtnpcandaehejbaaGreatSqV8
import Derived.Test.YtnpcandaehejbaaGreatSqV9
import Derived.Test.YtnpcandaehejbaaGreatSqV10
set_option linter.unusedVariables false
set_option linter.unusedSimpArgs false
set_option linter.unusedSectionVars false
set_option maxHeartbeats 6400000
set_option maxRecDepth 100000
namespace Go.Proofs.YtnpcandaehejbaaGreat
section
open Go.RowKit
attribute [local go_sem ↓] Go.wp_at_zero Go.wp_at_succ
namespace PB
def mch(l:List Nat):List Cho:=(List.range l.length).map fun i=>⟨((l.getD i 0:Nat):Int),((predv l i 1:Nat):Int)⟩
theorem kfi7(l:List Nat):(mch l).length=l.length:=by simp[mch]
theorem mch_snoc(l:List Nat)(b:Nat):mch (l++[b])=mch l++[⟨(b:Int),((predv l l.length 1:Nat):Int)⟩]:=by
 unfold mch;rw[List.length_append,List.length_singleton,List.range_succ,List.map_append,List.map_singleton]
 congr 1
 ·refine List.map_congr_left fun i hi=>?_;rw[List.mem_range] at hi;rw[kif7 l [b] i 1 (by omega)]
  congr 2
  simp[List.getElem?_append_left hi]
 ·rw[kif7 l [b] _ 1 (Nat.le_refl _)];simp
theorem mch_all{l:List Nat}(h:Is01 l):AllCho (mch l):=by
 intro c hc;unfold mch at hc;obtain⟨i,hi,rfl⟩:=List.mem_map.1 hc;have h1:=predv_in l i 1;have h2:=h i;refine⟨?_,?_,?_⟩<;>dsimp only<;>omega
theorem bstr_bt(l:List Nat):bstr (l.map (48+·))=bt l:=rfl
theorem clo_add{A:Option Addr}{n c gb:Nat}{L S:List Nat}{w:World}(h:Rd w A n c (bcells (pack S)))(h01:Is01 S)(hl:S.length≤131072)(hb:Bld w gb L)(hL:L.length+S.length≤1000000)(si:Int)(hsi:si=(S.length:Nat)) :
  Calls Tryz.prog 99 #[.agg #[.slice A n c,.int .i64 si],.pointer (some ⟨gb,0,none⟩)] w fun e w'=>e=.returned (.tuple #[])∧Bld w' gb (L++S)∧Below gb w w'∧Oth gb w w':=by
 subst hsi;have H01:=Lib.hid h01;have R_0:=h.alloc (.cells #[.slice A n c,.int .i64 (S.length:Nat)] 70);have B_0:=hb.alloc (.cells #[.slice A n c,.int .i64 (S.length:Nat)] 70);have Z0:=(Below.refl w.heap.size w).alloc (Nat.le_refl _) (.cells #[.slice A n c,.int .i64 (S.length:Nat)] 70);have b0:=Two.new w 70 (.slice A n c) (.int .i64 (S.length:Nat));have b0_c0:=b0.c0;have b0_c1:=b0.c1;have hlt:=hb.lt;clear h h01
 go_enter Tryz.func99,Tryz.ntmps99
 go_wp2_with fail
 refine(text_ok A n c S _ _ R_0 (Nat.le_refl _) H01.out hl).mono ?_;rintro e w1 ⟨rfl,y1⟩;rw[bstr_bt];unfold flt;have B_1:=(B_0.on y1).alloc (.cells #[.int .i64 0,.int .i64 0] 24);have z1:=Z0.trans (y1.mono Z0.size);have Z1:=z1.alloc (by have:=z1.size;omega) (.cells #[.int .i64 0,.int .i64 0] 24);have o1:Oth gb w (w1.alloc (.cells #[.int .i64 0,.int .i64 0] 24)):=fun s ob hs hne hc=>(Z1.block s (Array.getElem?_eq_some_iff.1 hs).1).trans hs
 go_wp2_with fail
 refine(bld_add B_1 hL).mono ?_;rintro e w2 ⟨rfl,hb2,y2,o2⟩
 go_wp2
 exact bodyPost_end (v:=.tuple #[]) (results_none rfl _ _ _) rfl ⟨rfl,hb2,(Z1.mono (Nat.le_of_lt hlt)).trans y2,o1.trans o2⟩
theorem bld_but2{w w':World}{gb s b:Nat}{l:List Nat}(h:Bld w gb l)(hw:But2 s b w w')(hs:∃ t cs,Blk w s t cs∧t≠145∧t≠5)(hb:(∃ es clock,w.heap[b]?=some (Obj.map es clock))∨b=s):Bld w' gb l:=by
 obtain⟨t,cs,hsb,ht1,ht2⟩:=hs;have nb:∀ (g:Nat) (u:TypeId) (vs:Array Value) (fz:Nat×Nat),w.heap[g]?=some (.cells vs u fz)→u≠t→g≠s∧g≠b:=by
  intro g u vs fz hg hu;have k1:g≠s:=by
   rintro rfl;unfold Blk at hsb;rw[hg] at hsb;injection hsb with hsb;injection hsb with _ e _;exact hu e
  refine⟨k1,?_⟩;rcases hb with⟨es,clock,hm⟩|rfl
  ·rintro rfl;rw[hg] at hm;cases hm
  ·exact k1
 have key:∀ p,Lib.BuilderAtF 145 5 gb gb p (Lib.strCells (bt l)) w→Lib.BuilderAtF 145 5 gb gb p (Lib.strCells (bt l)) w':=by
  rintro p ⟨hB,v,hbk,hown,hne⟩;have k1:=nb _ _ _ _ hbk (Ne.symm ht1);refine⟨hB,v,(hw.block _ (Array.getElem?_eq_some_iff.1 hbk).1 k1.1 k1.2).trans hbk,?_,hne⟩;rcases hown with⟨q1,hn|⟨g,cap,cur,fz,hv,hg,hh,r⟩⟩
  ·exact⟨q1,.inl hn⟩
  ·have k2:=nb g _ _ _ hh (Ne.symm ht2);exact⟨q1,.inr ⟨g,cap,cur,fz,hv,hg,(hw.block _ (Array.getElem?_eq_some_iff.1 hh).1 k2.1 k2.2).trans hh,r⟩⟩
 rcases h with h|h
 ·exact .inl (key _ h)
 ·exact .inr (key _ h)
structure SG(B gb gi gc ga gk:Nat)(w0:World)(A:Option Addr)(n c:Nat)(blk:List Nat)(iv lo hi:Int)(q:Nat)(L:List Nat)(w:World):Prop where
 kb:One w gk 22 (.slice A n c)
 ib:One w gi 3 (.int .i64 iv)
 cb:Three w gc 141 (.int .i64 lo) (.int .i64 hi) (.int .i64 (q:Nat))
 bb:Bld w gb L
 ab:One w ga 152 (.func (.func 99) #[] #[.pointer (some ⟨gb,0,none⟩)])
 rd:Reads w B A n c (bcells blk)
 bel:Below B w0 w
 ge:B≤gb∧B≤gi∧B≤gc∧B≤ga∧B≤gk
theorem bld_blk{w:World}{gb:Nat}{L:List Nat}(h:Bld w gb L):∃ p v,Blk w gb 145 #[p,v]:=by
 rcases h with⟨_,v,h,_⟩|⟨_,v,h,_⟩<;>exact⟨_,v,h⟩
section
variable {B gb gi gc ga gk:Nat}{w0 w w':World}{A:Option Addr}{n c:Nat}{blk:List Nat}{iv lo hi:Int}{q:Nat}{L:List Nat}
theorem SG.on(h:SG B gb gi gc ga gk w0 A n c blk iv lo hi q L w)(hw:Below w.heap.size w w'):SG B gb gi gc ga gk w0 A n c blk iv lo hi q L w':=by
 have hB:B≤w.heap.size:=Nat.le_trans h.ge.1 (Nat.le_of_lt h.bb.lt);exact⟨h.kb.on hw,h.ib.on hw,h.cb.on hw,h.bb.on hw,h.ab.on hw,h.rd.below (hw.mono hB),h.bel.trans (hw.mono hB),h.ge⟩
theorem SG.but2(h:SG B gb gi gc ga gk w0 A n c blk iv lo hi q L w){s b:Nat}(hw:But2 s b w w')(hs:B≤s)(hb2:B≤b)
  (hs1:∃ t cs,Blk w s t cs∧t≠145∧t≠5∧t≠22∧t≠3∧t≠141∧t≠152) (hb1:(∃ es clock,w.heap[b]?=some (Obj.map es clock))∨b=s):SG B gb gi gc ga gk w0 A n c blk iv lo hi q L w':=by
 obtain⟨t,cs,hsb,t1,t2,t3,t4,t5,t6⟩:=hs1;have hB:B≤w.heap.size:=Nat.le_trans h.ge.1 (Nat.le_of_lt h.bb.lt);have hbl:Below B w w':=hw.below hs hb2 hB;have nb:∀ (g:Nat) (u:TypeId) (vs:Array Value),Blk w g u vs→u≠t→g≠s∧g≠b:=by
  intro g u vs hg hu;have k1:=Blk.ne_ hg hsb hu;refine⟨k1,?_⟩;rcases hb1 with⟨es,clock,hm⟩|rfl
  ·rintro rfl;unfold Blk at hg;rw[hg] at hm;cases hm
  ·exact k1
 have k1:=nb _ _ _ h.kb (Ne.symm t3);have k2:=nb _ _ _ h.ib (Ne.symm t4);have k3:=nb _ _ _ h.cb (Ne.symm t5);have k4:=nb _ _ _ h.ab (Ne.symm t6);exact⟨Blk.but2 h.kb hw k1.1 k1.2,Blk.but2 h.ib hw k2.1 k2.2,Blk.but2 h.cb hw k3.1 k3.2,bld_but2 h.bb hw ⟨t,cs,hsb,t1,t2⟩ hb1,Blk.but2 h.ab hw k4.1 k4.2,h.rd.below hbl,h.bel.trans hbl,h.ge⟩
theorem SG.ne(h:SG B gb gi gc ga gk w0 A n c blk iv lo hi q L w):gk≠gi∧gk≠gc∧gi≠gc∧ga≠gi∧ga≠gc∧gi≠gb∧gc≠gb∧gk≠gb∧ga≠gb:=by
 obtain⟨p,v,hb⟩:=bld_blk h.bb;exact⟨Blk.ne_ h.kb h.ib (by decide),Blk.ne_ h.kb h.cb (by decide),Blk.ne_ h.ib h.cb (by decide),Blk.ne_ h.ab h.ib (by decide),Blk.ne_ h.ab h.cb (by decide),Blk.ne_ h.ib hb (by decide),Blk.ne_ h.cb hb (by decide),Blk.ne_ h.kb hb (by decide),Blk.ne_ h.ab hb (by decide)⟩
theorem SG.setI(h:SG B gb gi gc ga gk w0 A n c blk iv lo hi q L w)(v:Int):SG B gb gi gc ga gk w0 A n c blk v lo hi q L (w.setCell ⟨gi,0,none⟩ (.int .i64 v)):=by
 obtain⟨n1,n2,n3,n4,n5,n6,n7,n8,n9⟩:=h.ne;have hb:=(Below.refl B w).setCell (p:=⟨gi,0,none⟩) h.ge.2.1 (.int .i64 v);exact⟨One.far h.kb n1 _,h.ib.set0 _,Three.far h.cb (Ne.symm n3) _,Bld.far h.bb h.ib (by decide) n6 _ _,One.far h.ab n4 _,h.rd.below hb,h.bel.trans hb,h.ge⟩
theorem SG.setC(h:SG B gb gi gc ga gk w0 A n c blk iv lo hi q L w)(lo' hi':Int)(q':Nat) :
  SG B gb gi gc ga gk w0 A n c blk iv lo' hi' q' L (((w.setCell ⟨gc,0,none⟩ (.int .i64 lo')).setCell ⟨gc,1,none⟩ (.int .i64 hi')).setCell ⟨gc,2,none⟩ (.int .i64 (q':Nat))):=by
 obtain⟨n1,n2,n3,n4,n5,n6,n7,n8,n9⟩:=h.ne;have hb:=(((Below.refl B w).setCell (p:=⟨gc,0,none⟩) h.ge.2.2.1 (.int .i64 lo')).setCell (p:=⟨gc,1,none⟩) h.ge.2.2.1 (.int .i64 hi')).setCell (p:=⟨gc,2,none⟩) h.ge.2.2.1 (.int .i64 (q':Nat));have c1:=h.cb.set0 (.int .i64 lo');have c2:=c1.set1 (.int .i64 hi');exact⟨One.far (One.far (One.far h.kb n2 _) n2 _) n2 _,One.far (One.far (One.far h.ib n3 _) n3 _) n3 _,c2.set2 _,Bld.far (Bld.far (Bld.far h.bb h.cb (by decide) n7 _ _) c1 (by decide) n7 _ _) c2 (by decide) n7 _ _,
  One.far (One.far (One.far h.ab n5 _) n5 _) n5 _,h.rd.below hb,h.bel.trans hb,h.ge⟩
theorem SG.wrote(h:SG B gb gi gc ga gk w0 A n c blk iv lo hi q L w){L':List Nat}(hb:Bld w' gb L')(y:Below gb w w')(o:Oth gb w w'):SG B gb gi gc ga gk w0 A n c blk iv lo hi q L' w':=by
 obtain⟨n1,n2,n3,n4,n5,n6,n7,n8,n9⟩:=h.ne;have yB:=y.mono h.ge.1;exact⟨Oth.blk o h.kb (by decide) n8,Oth.blk o h.ib (by decide) n6,Oth.blk o h.cb (by decide) n7,hb,Oth.blk o h.ab (by decide) n9,h.rd.below yB,h.bel.trans yB,h.ge⟩
theorem keep_set{s:Nat}{t:TypeId}{cs:Array Value}(hs:Blk w s t cs)(h1:t≠170)(h2:t≠24)(i:Nat)(u:Value):Keep w (w.setCell ⟨s,i,none⟩ u):=by
 refine⟨by simp[World.setCell],fun k ks hk=>Blk.far hk (Blk.ne_ hk hs (Ne.symm h1)) u,fun k ks hk=>Blk.far hk (Blk.ne_ hk hs (Ne.symm h2)) u,fun k es clock hk=>?_⟩;refine(Below.heap_setCell _ ⟨s,i,none⟩ _ _ ?_).trans hk;rintro rfl;unfold Blk at hs;rw[hk] at hs;cases hs
theorem keep_oth(hb:Bld w gb L)(hsz:w.heap.size≤w'.heap.size)(o:Oth gb w w'):Keep w w':=by
 obtain⟨p,v,hbk⟩:=bld_blk hb;refine⟨hsz,fun k ks hk=>Oth.blk o hk (by decide) (Blk.ne_ hk hbk (by decide)),fun k ks hk=>Oth.blk o hk (by decide) (Blk.ne_ hk hbk (by decide)),fun k es clock hk=>?_⟩;refine o k _ hk (fun e=>?_) (fun _ _ e=>by cases e);obtain rfl:=Option.some.inj e;unfold Blk at hbk;rw[hk] at hbk;cases hbk
end
theorem SG.alloc{B gb gi gc ga gk:Nat}{w0 w:World}{A:Option Addr}{n c:Nat}{blk:List Nat}{iv lo hi:Int}{q:Nat}{L:List Nat}(h:SG B gb gi gc ga gk w0 A n c blk iv lo hi q L w)(o:Obj):SG B gb gi gc ga gk w0 A n c blk iv lo hi q L (w.alloc o):=h.on ((Below.refl _ _).alloc (Nat.le_refl _) o)
theorem hfn99:¬Tryz.f99.name = "runtime.NumGoroutine":=by
 have:(Tryz.f99.name == "runtime.NumGoroutine")=false:=by kernel_rfl
 simpa using this
theorem hfb99:¬Tryz.f99.body=none:=by
 have:Tryz.f99.body.isNone=false:=by kernel_rfl
 intro h;rw[h] at this;cases this
structure SMod(B gb gi gc ga gk:Nat)(w0:World)(A:Option Addr)(n c:Nat)(blk l:List Nat)(w:World):Prop where
 sg:SG B gb gi gc ga gk w0 A n c blk (l.length:Nat) (erun (mch l) 0 65535).1 (erun (mch l) 0 65535).2.1 (sentf (erun (mch l) 0 65535).2.2 0).2 (sentf (erun (mch l) 0 65535).2.2 0).1 w
 pre:l=(allbits blk).take l.length
 len:l.length≤8*n
theorem clo_step{B gb gi gc ga gk:Nat}{w0:World}{A:Option Addr}{n c:Nat}{blk l:List Nat}{w:World}(h:SMod B gb gi gc ga gk w0 A n c blk l w)(h01:Is01 l)(hl:l.length<8*n)(hn:n≤1024)(h256:∀ k,blk.getD k 0<256)(pi:Int)(hpi:pi=(predv l l.length 1:Nat)) :
  Calls Tryz.prog 103 #[.int .i64 pi,.pointer (some ⟨gk,0,none⟩),.pointer (some ⟨gi,0,none⟩),.pointer (some ⟨gc,0,none⟩),.pointer (some ⟨ga,0,none⟩)] w fun e w'=>e=.returned (.int .i64 (bitAt blk l.length:Nat))∧Keep w w'∧SMod B gb gi gc ga gk w0 A n c blk (l++[bitAt blk l.length]) w':=by
 obtain⟨m,hm⟩:∃ m,m=l.length:=⟨_,rfl⟩
 rw[←hm] at hl hpi ⊢;obtain⟨p,hp⟩:∃ p,p=predv l m 1:=⟨_,rfl⟩
 rw[←hp] at hpi;subst hpi;have H:=Lib.hid h;have HM:=Lib.hid hm;have HP:=Lib.hid hp;have H01:=Lib.hid h01;have H256:=Lib.hid h256;obtain⟨bA,off,rfl,hbA,hcc⟩:=Reads.byte h.sg.rd (by omega);have hcell:=hcc (m / 8) (by have:=Reads.len h.sg.rd;rw[ka7] at this;omega);have hcm:=Reads.capMax h.sg.rd;have hcap:=Reads.cap h.sg.rd;unfold maxLen at hcm;have hx:=h256 (m / 8);have c0:=h.sg.kb.c0;have c1:=h.sg.ib.c0;rw[←hm] at c1;have f1:=h.sg.ib.f0;clear h hm hp h01 h256 hcc;obtain⟨x,hxx⟩:∃ x,x=blk.getD (m / 8) 0:=⟨_,rfl⟩
 rw[←hxx] at hcell hx;have HX:=Lib.hid hxx;clear hxx
 go_enter Tryz.func103,Tryz.ntmps103
 go_upto_region 1 with(fail)
 go_quiet (fail)
 rw[khr7 x (7-m % 8) hx];obtain⟨b,hb⟩:∃ b,b=x / 2 ^ (7-m % 8) % 2:=⟨_,rfl⟩
 rw[←hb];have hb1:b≤1:=by omega
 have HBB:=Lib.hid hb;clear hb;have S0:=Lib.hid H.out.sg;obtain⟨lo,hlo⟩:∃ lo,lo=(erun (mch l) 0 65535).1:=⟨_,rfl⟩
 obtain⟨hi,hhi⟩:∃ hi,hi=(erun (mch l) 0 65535).2.1:=⟨_,rfl⟩
 obtain⟨q,hq⟩:∃ q,q=(sentf (erun (mch l) 0 65535).2.2 0).2:=⟨_,rfl⟩
 obtain⟨L,hL⟩:∃ L,L=(sentf (erun (mch l) 0 65535).2.2 0).1:=⟨_,rfl⟩
 rw[←hlo,←hhi,←hq,←hL,←HM.out] at S0;have HLO:=Lib.hid hlo;have HHI:=Lib.hid hhi;have HQ:=Lib.hid hq;have HL:=Lib.hid hL;clear hlo hhi hq hL;have hbd:Below w.heap.size w (w.drewN nq):=⟨rfl,rfl,rfl,Nat.le_refl _,fun _ _=>rfl⟩
 have S1:=S0.out.on hbd;have K1:=Lib.hid (Keep.of_below hbd);obtain⟨w1,hw1⟩:∃ w1,w1=w.drewN nq:=⟨_,rfl⟩
 rw[←hw1] at S1 K1 ⊢;clear hw1 hbd c0 c1 f1 hcell S0;have c1:=S1.ib.c0;have f1:=S1.ib.f0
 go_upto_region 3 with(fail)
 have S2:=Lib.hid (S1.setI ((m:Int)+1));have K2:=Lib.hid (K1.out.trans (keep_set S1.ib (by decide) (by decide) 0 (.int .i64 ((m:Int)+1))));clear c1 f1 S1 K1;generalize w1.setCell ⟨gi,0,none⟩ (.int .i64 ((m:Int)+1))=w2 at S2 K2 ⊢;clear w1;have d0:=S2.out.cb.c0;have d1:=S2.out.cb.c1;have d2:=S2.out.cb.c2;have hcho:AllCho (mch l):=mch_all H01.out;obtain⟨hwid,hlen14,hk2⟩:=kfh7 (mch l) hcho 0 65535 wid0;have hcnt:=kbk7 (erun (mch l) 0 65535).2.2 0;rw[kfi7,←HM.out] at hlen14;rw[←HQ.out,←HL.out] at hcnt;rw[←HLO.out,←HHI.out] at hwid;have hpr:=predv_in l m 1;rw[←HP.out] at hpr;obtain⟨LO,hLO⟩:∃ LO,LO=(stp lo hi b (p:Nat)).1:=⟨_,rfl⟩
 obtain⟨HI,hHI⟩:∃ HI,HI=(stp lo hi b (p:Nat)).2.1:=⟨_,rfl⟩
 obtain⟨S3,hS3⟩:∃ S3,S3=(sentf (stp lo hi b (p:Nat)).2.2 q).1:=⟨_,rfl⟩
 obtain⟨Q3,hQ3⟩:∃ Q3,Q3=(sentf (stp lo hi b (p:Nat)).2.2 q).2:=⟨_,rfl⟩
 have hst:=kct7 b hwid (p:=(p:Nat)) (by omega) (by omega);have hc3:=kbk7 (stp lo hi b (p:Nat)).2.2 q;rw[←hS3,←hQ3] at hc3;have HPUT:=Lib.hid (fun(W:World)=>put_ok (lo:=lo) (hi:=hi) (p:=(p:Nat)) (b:=b) (q:=q) ⟨hwid,by omega,by omega⟩ (by omega) (by omega) hb1 LO HI S3 Q3 hLO hHI hS3 hQ3 (by omega) W);have hS3l:S3.length≤131072:=by omega
 have hLS:L.length+S3.length≤1000000:=by omega
 have hstp3:=hst.2.2.1;have HSTP:=Lib.hid hstp3;have HLO3:=Lib.hid hLO;have HHI3:=Lib.hid hHI;have HS3:=Lib.hid hS3;have HQ3:=Lib.hid hQ3;clear hLO hHI hS3 hQ3 hst hc3 hstp3 hcho hwid hlen14 hk2 hcnt hpr;have hcf:=call_func Tryz.func99 hfn99 hfb99
 go_wp2_with fail
 refine(HPUT.out _).mono ?_;rintro e w3 ⟨A3,n3,c3,rfl,hr3,y3⟩;have S4:=Lib.hid ((((S2.out.on y3).alloc (.cells #[.int .i64 LO,.int .i64 HI,.int .i64 (Q3:Nat)] 141)).alloc (.cells #[.slice A3 n3 c3,.int .i64 (S3.length:Nat)] 70)).alloc (.cells #[.int .i64 0,.int .i64 0] 24));have K4:=Lib.hid (K2.out.trans (Keep.of_below ((((y3.trans ((Below.refl _ _).alloc y3.size (.cells #[.int .i64 LO,.int .i64 HI,.int .i64 (Q3:Nat)] 141))).alloc (by have:=y3.size;simp;omega) (.cells #[.slice A3 n3 c3,.int .i64 (S3.length:Nat)] 70)).alloc (by have:=y3.size;simp;omega) (.cells #[.int .i64 0,.int .i64 0] 24)))));have R4:=((hr3.alloc (.cells #[.int .i64 LO,.int .i64 HI,.int .i64 (Q3:Nat)] 141)).alloc (.cells #[.slice A3 n3 c3,.int .i64 (S3.length:Nat)] 70)).alloc (.cells #[.int .i64 0,.int .i64 0] 24);have CB:=(((Three.new w3 141 (.int .i64 LO) (.int .i64 HI) (.int .i64 (Q3:Nat))).alloc (.cells #[.slice A3 n3 c3,.int .i64 (S3.length:Nat)] 70)).alloc (.cells #[.int .i64 0,.int .i64 0] 24))
 have BB:=((Two.new1 w3 (.cells #[.int .i64 LO,.int .i64 HI,.int .i64 (Q3:Nat)] 141) 70 (.slice A3 n3 c3) (.int .i64 (S3.length:Nat))).alloc (.cells #[.int .i64 0,.int .i64 0] 24))
 clear d0 d1 d2 S2 K2 y3 hr3
 go_upto_region 4 with(fail)
 generalize ((w3.alloc (.cells #[.int .i64 LO,.int .i64 HI,.int .i64 (Q3:Nat)] 141)).alloc (.cells #[.slice A3 n3 c3,.int .i64 (S3.length:Nat)] 70)).alloc (.cells #[.int .i64 0,.int .i64 0] 24)=w4 at S4 K4 R4 CB BB ⊢;have a0:=S4.out.ab.c0;have b0:=BB.c0;have b1:=BB.c1
 go_wp2_with fail
 have hS01:Is01 S3:=Is01.of_mem fun x hx=>by have:=sentf_le _ HSTP.out q x (by rw[←HS3.out];exact hx);omega
 refine(clo_add R4 hS01 hS3l S4.out.bb hLS (S3.length:Nat) rfl).mono ?_;rintro e w5 ⟨rfl,hb5,y5,o5⟩;have S5:=S4.out.wrote hb5 y5 o5;have K5:=Lib.hid (K4.out.trans (keep_oth S4.out.bb y5.size o5));have CB5:Three w5 w3.heap.size 141 (.int .i64 LO) (.int .i64 HI) (.int .i64 (Q3:Nat)):=by
  obtain⟨p,v,hbk⟩:=bld_blk S4.out.bb;exact Oth.blk o5 CB (by decide) (Blk.ne_ CB hbk (by decide))
 clear hb5 y5 o5 S4 K4 R4 CB BB a0 b0 b1 hS01;have d0:=CB5.c0;have d1:=CB5.c1;have d2:=CB5.c2;have f0:=S5.cb.f0;have f1:=S5.cb.f1;have f2:=S5.cb.f2;have g0:=S5.cb.c0;have g1:=S5.cb.c1;have g2:=S5.cb.c2
 go_upto_region 6 with(fail)
 have S6:=Lib.hid (S5.setC LO HI Q3);have K6:=Lib.hid (((K5.out.trans (keep_set S5.cb (by decide) (by decide) 0 (.int .i64 LO))).trans (keep_set (S5.cb.set0 (.int .i64 LO)) (by decide) (by decide) 1 (.int .i64 HI))).trans (keep_set ((S5.cb.set0 (.int .i64 LO)).set1 (.int .i64 HI)) (by decide) (by decide) 2 (.int .i64 (Q3:Nat))));clear d0 d1 d2 f0 f1 f2 g0 g1 g2 S5 K5 CB5;generalize ((w5.setCell ⟨gc,0,none⟩ (.int .i64 LO)).setCell ⟨gc,1,none⟩ (.int .i64 HI)).setCell ⟨gc,2,none⟩ (.int .i64 (Q3:Nat))=w6 at S6 K6 ⊢
 go_wp2
 go_ret
 have hbit:bitAt blk m=b:=by
  unfold bitAt;rw[←HX.out,←HBB.out]
 rw[hbit];have em:mch (l++[b])=mch l++[⟨(b:Int),((p:Nat):Int)⟩]:=by rw[mch_snoc,←HM.out,←HP.out]
 have er:=erun_snoc (mch l) ⟨(b:Int),((p:Nat):Int)⟩ 0 65535;have en:Cho.n ⟨(b:Int),((p:Nat):Int)⟩=b:=by simp[Cho.n]
 rw[en] at er;dsimp only at er;rw[←HLO.out,←HHI.out,←HLO3.out,←HHI3.out] at er;have es:sentf ((erun (mch l) 0 65535).2.2++(stp lo hi b (p:Nat)).2.2) 0=(L++S3,Q3):=by
  rw[sentf_append,←HQ.out,←HL.out,←HS3.out,←HQ3.out]
 refine⟨rfl,K6.out,⟨?_,?_,?_⟩⟩
 ·rw[em,er];dsimp only;rw[es,List.length_append,List.length_singleton,←HM.out];exact S6.out
 ·rw[List.length_append,List.length_singleton,←HM.out,kgm7 blk m (by have:=Reads.len S6.out.rd;rw[ka7] at this;omega),hbit]
  congr 1
  have:=H.out.pre;rw[←HM.out] at this;exact this
 ·rw[List.length_append,List.length_singleton,←HM.out];omega
section
variable {B gb gi gc ga gk:Nat}{w0 w w':World}{A:Option Addr}{n c:Nat}{blk l:List Nat}
theorem SMod.on(h:SMod B gb gi gc ga gk w0 A n c blk l w)(hw:Below w.heap.size w w'):SMod B gb gi gc ga gk w0 A n c blk l w':=⟨h.sg.on hw,h.pre,h.len⟩
theorem SMod.but2(h:SMod B gb gi gc ga gk w0 A n c blk l w){s b:Nat}(hw:But2 s b w w')(hs:B≤s)(hb2:B≤b)
 (hs1:∃ t cs,Blk w s t cs∧t≠145∧t≠5∧t≠22∧t≠3∧t≠141∧t≠152) (hb1:(∃ es clock,w.heap[b]?=some (Obj.map es clock))∨b=s):SMod B gb gi gc ga gk w0 A n c blk l w':=⟨h.sg.but2 hw hs hb2 hs1 hb1,h.pre,h.len⟩
end
theorem walk_mod{B gb gi gc ga gk:Nat}{w0:World}{A:Option Addr}{n c:Nat}{blk:List Nat}{w:World}(h:SMod B gb gi gc ga gk w0 A n c blk [] w)(hn:n≤1024)(h256:∀ k,blk.getD k 0<256)(si:Int)(hsi:si=((8*n:Nat):Int))(hB:B≤w.heap.size) :
  Calls Tryz.prog 102 #[.int .i64 1,.int .i64 si,.func (.func 103) #[] #[.pointer (some ⟨gk,0,none⟩),.pointer (some ⟨gi,0,none⟩),.pointer (some ⟨gc,0,none⟩),.pointer (some ⟨ga,0,none⟩)]] w fun e w' =>
   e=.returned (.agg #[.int .i64 0,.int .i64 0])∧SMod B gb gi gc ga gk w0 A n c blk (allbits blk) w':=by
 refine(walk_any w w.heap.size rfl (ord:=1) (steps:=8*n) (by decide) (by omega) 103 _ Tryz.func103 (by decide +kernel) (by rw[Option.eq_none_iff_forall_ne_some];intro hh;exact hh _ rfl) #[.pointer (some ⟨gk,0,none⟩),.pointer (some ⟨gi,0,none⟩),.pointer (some ⟨gc,0,none⟩),.pointer (some ⟨ga,0,none⟩)]
  (fun l w'=>SMod B gb gi gc ga gk w0 A n c blk l w') (fun _ _=>False) ?_ ?_ ?_ ?_ h si hsi 1 rfl).mono ?_
 ·intro l w' h01 hl hI;refine(clo_step hI h01 hl hn h256 _ rfl).mono ?_;rintro e w2 ⟨rfl,hk,hI2⟩;have hb:bitAt blk l.length<2:=by unfold bitAt;exact Nat.mod_lt _ (by decide)
  exact⟨_,rfl,hk,.inl ⟨by omega,by simpa using hI2⟩⟩
 ·intro l w1 w2 hI hb;exact hI.on hb
 ·intro l w1 w2 s cs hs hsz hb;exact⟨fun hI=>hI.but2 hb (by omega) (by omega) ⟨_,_,hs,by decide,by decide,by decide,by decide,by decide,by decide⟩ (.inr rfl),fun x=>x⟩
 ·intro l w1 w2 s b cs es clock hI hs hmp hs0 hb0 hb;exact hI.but2 hb (by omega) (by omega) ⟨_,_,hs,by decide,by decide,by decide,by decide,by decide,by decide⟩ (.inl ⟨es,clock,hmp⟩)
 ·rintro e w' ⟨l,h01,⟨hl,rfl,hI⟩|⟨_,_,hf⟩⟩
  ·have hlen:blk.length=n:=by have:=Reads.len hI.sg.rd;rwa [ka7] at this
   have e1:=hI.pre;rw[List.take_of_length_le (by rw[kbi7];omega)] at e1;rw[←e1];exact⟨rfl,hI⟩
  ·exact hf.elim
theorem modpack_any{A A2:Option Addr}{n c n2 c2:Nat}{blk:List Nat}{w:World}(h:Rd w A n c (bcells blk))(hn:n≤1024)(h256:∀ k,blk.getD k 0<256) :
  Calls Tryz.prog 96 #[.agg #[],.slice A n c,.slice A2 n2 c2] w fun e w'=>∃ A' n' c',e=.returned (.slice A' n' c')∧Rd w' A' n' c' (bcells (pack (acode (mch (allbits blk)))))∧Below w.heap.size w w':=by
 have H:=Lib.hid h;have H256:=Lib.hid h256;clear h h256;have z0:=((Below.refl w.heap.size w).alloc (Nat.le_refl _) (.cells #[] 109)).alloc (by simp) (.cells #[.slice A n c] 22);have k0:=One.new1 w (.cells #[] 109) 22 (.slice A n c)
 go_enter Tryz.func96,Tryz.ntmps96
 go_wp2_with fail
 refine(start_any _).mono ?_;rintro e w1 ⟨rfl,y1⟩;have z1:=Lib.hid (z0.trans (y1.mono z0.size));have k1:=k0.on y1;clear z0 k0 y1
 go_upto_region 5 with(fail)
 obtain⟨w2,hw2⟩:∃ w2,w2=((((w1.alloc (.cells #[.int .i64 0,.int .i64 65535,.int .i64 0] 141)).alloc (.cells #[.pointer none,.slice none 0 0] 145)).alloc (.cells #[.func (.func 99) #[] #[.pointer (some ⟨w1.heap.size+1,0,none⟩)]] 152)).alloc (.cells #[.int .i64 0] 3)):=⟨_,rfl⟩
 have hB1:w.heap.size≤w1.heap.size:=z1.out.size;have z2:=(((z1.out.alloc hB1 (.cells #[.int .i64 0,.int .i64 65535,.int .i64 0] 141)).alloc (by simp;omega) (.cells #[.pointer none,.slice none 0 0] 145)).alloc (by simp;omega) (.cells #[.func (.func 99) #[] #[.pointer (some ⟨w1.heap.size+1,0,none⟩)]] 152)).alloc (by simp;omega) (.cells #[.int .i64 0] 3);have k2:=((((k1.alloc (.cells #[.int .i64 0,.int .i64 65535,.int .i64 0] 141)).alloc (.cells #[.pointer none,.slice none 0 0] 145)).alloc (.cells #[.func (.func 99) #[] #[.pointer (some ⟨w1.heap.size+1,0,none⟩)]] 152)).alloc (.cells #[.int .i64 0] 3))
 have c2:=(((Three.new w1 141 (.int .i64 0) (.int .i64 65535) (.int .i64 0)).alloc (.cells #[.pointer none,.slice none 0 0] 145)).alloc (.cells #[.func (.func 99) #[] #[.pointer (some ⟨w1.heap.size+1,0,none⟩)]] 152)).alloc (.cells #[.int .i64 0] 3);have b2:=((Bld.new (w1.alloc (.cells #[.int .i64 0,.int .i64 65535,.int .i64 0] 141))).alloc (.cells #[.func (.func 99) #[] #[.pointer (some ⟨w1.heap.size+1,0,none⟩)]] 152)).alloc (.cells #[.int .i64 0] 3);have a2:=(One.new2 w1 (.cells #[.int .i64 0,.int .i64 65535,.int .i64 0] 141) (.cells #[.pointer none,.slice none 0 0] 145) 152 (.func (.func 99) #[] #[.pointer (some ⟨w1.heap.size+1,0,none⟩)])).alloc (.cells #[.int .i64 0] 3);have i2:=One.new3 w1 (.cells #[.int .i64 0,.int .i64 65535,.int .i64 0] 141) (.cells #[.pointer none,.slice none 0 0] 145) (.cells #[.func (.func 99) #[] #[.pointer (some ⟨w1.heap.size+1,0,none⟩)]] 152) 3 (.int .i64 0);rw[World.size_alloc] at b2;rw[←hw2] at z2 k2 c2 b2 a2 i2 ⊢;have SM:SMod w.heap.size (w1.heap.size+1) (w1.heap.size+3) w1.heap.size (w1.heap.size+2) (w.heap.size+1) w A n c blk [] w2:=by
  refine⟨⟨k2,i2,c2,b2,a2,?_,z2,by omega,by omega,hB1,by omega,by omega⟩,rfl,Nat.zero_le _⟩;exact Reads.below H.out z2
 have SMH:=Lib.hid SM;have Z2:=Lib.hid z2;have kk:=k2.c0;obtain⟨p1,hp1⟩:∃ p1,p1=w1.heap.size:=⟨_,rfl⟩
 have hpk:w.heap.size+1<w2.heap.size:=k2.lt;have hcap:=Reads.cap H.out;rw[←hp1] at SMH ⊢;clear hw2 k2 c2 b2 a2 i2 SM z2 k1 z1 hB1 hp1
 go_wp2_with fail
 refine(walk_mod SMH.out hn H256.out _ (by push_cast;rfl) (by have:=Z2.out.size;omega)).mono ?_;rintro e w3 ⟨rfl,SM3⟩;obtain⟨X,hX⟩:∃ X,X=allbits blk:=⟨_,rfl⟩
 rw[←hX] at SM3;have HXX:=Lib.hid hX;have h01:Is01 X:=by rw[hX];exact kcn7 blk
 have hXl:X.length≤8192:=by have:=SM3.len;omega
 clear hX SMH kk;have hcho:AllCho (mch X):=mch_all h01;have HA01:=Lib.hid (acode_01 hcho);have HAL:=Lib.hid (acode_le hcho (by rw[kfi7];exact hXl));obtain⟨hwid,hlen14,hk2⟩:=kfh7 (mch X) hcho 0 65535 wid0;have hcnt:=kbk7 (erun (mch X) 0 65535).2.2 0;rw[kfi7] at hlen14;have S3:=SM3.sg;obtain⟨lo,hlo⟩:∃ lo,lo=(erun (mch X) 0 65535).1:=⟨_,rfl⟩
 obtain⟨hi,hhi⟩:∃ hi,hi=(erun (mch X) 0 65535).2.1:=⟨_,rfl⟩
 obtain⟨q,hq⟩:∃ q,q=(sentf (erun (mch X) 0 65535).2.2 0).2:=⟨_,rfl⟩
 obtain⟨L,hL⟩:∃ L,L=(sentf (erun (mch X) 0 65535).2.2 0).1:=⟨_,rfl⟩
 obtain⟨fb,hfb⟩:∃ fb,fb=if lo<16384 then 0 else 1:=⟨_,rfl⟩
 have hcode:L++crt fb (q+1)=acode (mch X):=by unfold acode;rw[←hlo,←hq,←hL,←hfb]
 rw[←hlo,←hhi,←hq,←hL] at S3;rw[←hlo,←hhi] at hwid;rw[←hq,←hL] at hcnt;have hfb1:fb≤1:=by rw[hfb];split<;>omega
 have HC:=Lib.hid hcode;have HFIN:=Lib.hid (fun(W:World)=>finish_ok (lo:=lo) (hi:=hi) (q:=q) ⟨hwid,by omega,by omega⟩ fb hfb W);have hq1:q≤114688:=by omega
 have hL1:L.length≤114688:=by omega
 obtain⟨C,hC⟩:∃ C,C=crt fb (q+1):=⟨_,rfl⟩
 have hCl:C.length=q+2:=by rw[hC];simp[crt]
 have hC01:Is01 C:=by
  rw[hC];refine Is01.of_mem fun x hx=>?_;unfold crt at hx;rcases List.mem_cons.1 hx with rfl|hx
  ·omega
  ·have:=List.eq_of_mem_replicate hx;omega
 rw[←hC] at HC HFIN;have HC01:=Lib.hid hC01;have HCl:=Lib.hid hCl;clear hlo hhi hq hL hfb hcode hwid hcnt hlen14 hk2 hcho h01 SM3 hC hfb1 hC01 hCl;have S3H:=Lib.hid S3;have d0:=S3.cb.c0;have d1:=S3.cb.c1;have d2:=S3.cb.c2;clear S3
 go_wp2_with fail
 refine(HFIN.out _).mono ?_;rintro e w4 ⟨A4,n4,c4,rfl,hr4,y4⟩;have S4:=Lib.hid (((S3H.out.on y4).alloc (.cells #[.slice A4 n4 c4,.int .i64 (C.length:Nat)] 70)).alloc (.cells #[.int .i64 0,.int .i64 0] 24));have R4:=Lib.hid ((hr4.alloc (.cells #[.slice A4 n4 c4,.int .i64 (C.length:Nat)] 70)).alloc (.cells #[.int .i64 0,.int .i64 0] 24));have BB:=((Two.new w4 70 (.slice A4 n4 c4) (.int .i64 (C.length:Nat))).alloc (.cells #[.int .i64 0,.int .i64 0] 24))
 clear d0 d1 d2 S3H y4 hr4
 go_upto_region 7 with(fail)
 generalize (w4.alloc (.cells #[.slice A4 n4 c4,.int .i64 (C.length:Nat)] 70)).alloc (.cells #[.int .i64 0,.int .i64 0] 24)=w5 at S4 R4 BB ⊢;have a0:=S4.out.ab.c0;have b0:=BB.c0;have b1:=BB.c1;have hcf:=call_func Tryz.func99 hfn99 hfb99
 go_wp2_with fail
 refine(clo_add R4.out HC01.out (by rw[HCl.out];omega) S4.out.bb (by rw[HCl.out];omega) (C.length:Nat) rfl).mono ?_;rintro e w6 ⟨rfl,hb6,y6,o6⟩;have S6:=S4.out.wrote hb6 y6 o6;rw[HC.out] at S6;clear hb6 y6 o6 S4 R4 BB a0 b0 b1;have Z6:=Lib.hid S6.bel;have B6:=Lib.hid S6.bb;have G6:=Lib.hid S6.ge;clear S6
 go_wp2_with fail
 refine(bld_str B6.out).mono ?_;rintro e w7 ⟨rfl,y7⟩;have Z7:=Lib.hid (Z6.out.trans (y7.mono G6.out.1));clear y7 Z6 B6
 go_wp2_with fail
 refine(make_bt (acode (mch X)) HA01.out (by have:=HAL.out;omega) _).mono ?_;rintro e w8 ⟨A8,n8,c8,rfl,ho8,y8⟩;have z8:=Z7.out.trans (y8.mono Z7.out.size);have Z8:=Lib.hid ((z8.alloc (by have:=z8.size;omega) (.cells #[.slice A8 n8 c8,.int .i64 ((acode (mch X)).length:Nat)] 70)).alloc (by have:=z8.size;simp;omega) (.cells #[.int .i64 0,.int .i64 0] 24));have R8:=Lib.hid (((Rd.own ho8).alloc (.cells #[.slice A8 n8 c8,.int .i64 ((acode (mch X)).length:Nat)] 70)).alloc (.cells #[.int .i64 0,.int .i64 0] 24));have BB:=((Two.new w8 70 (.slice A8 n8 c8) (.int .i64 ((acode (mch X)).length:Nat))).alloc (.cells #[.int .i64 0,.int .i64 0] 24))
 have b0:=BB.c0;have b1:=BB.c1;clear z8 y8 ho8 Z7
 go_wp2
 go_ret
 refine⟨A8,n8,c8,rfl,?_,Z8.out⟩;rw[←HXX.out];exact R8.out
end PB
end
section
open Go.RowKit
attribute [local go_sem ↓] Go.wp_at_zero Go.wp_at_succ
namespace PB
theorem kfu7(w:World):Calls Tryz.prog 36 #[] w fun e w'=>∃ g,e=.returned (.slice (some ⟨g,0,none⟩) 2 2)∧Blk w' g 67 #[.iface 109 (.agg #[]),.iface 110 (.agg #[])]∧w.heap.size≤g∧Below w.heap.size w w':=by
 go_enter Tryz.func36,Tryz.ntmps36
 go_wp2
 go_ret
 exact⟨w.heap.size,rfl,Blk.new w _ _,Nat.le_refl _,(Below.refl _ _).alloc (Nat.le_refl _) _⟩
def fr1(blk:List Nat):List Nat:=[1,blk.length % 256,blk.length / 256]++pack (acode (mch (allbits blk)))
def fr2(blk:List Nat)(ts:List Tok):List Nat:=[2,blk.length % 256,blk.length / 256]++pack (codeOf ts)
def pk1(blk:List Nat):List Nat:=if (fr1 blk).length<(0::blk).length then fr1 blk else 0::blk
def pk2(blk:List Nat)(ts:List Tok):List Nat:=if (fr2 blk ts).length<(pk1 blk).length then fr2 blk ts else pk1 blk
theorem rd_lit(w:World){g:Nat}(hg:g=w.heap.size)(t:TypeId)(l:List Nat)(k:Nat)(hk:l.length=k)(hm:k≤1000):Rd (w.alloc (.cells (bcells l).toArray t)) (some ⟨g,0,none⟩) k k (bcells l):=by
 subst hg;refine⟨by rw[ka7];exact hk,Nat.le_refl _,by unfold maxLen;omega,fun _=>⟨w.heap.size,0,rfl,by simp,fun j x hx=>?_⟩⟩;have:=Blk.cell (Blk.new w t (bcells l).toArray) j;rw[Nat.zero_add,this,List.getElem?_toArray];exact hx
theorem rd_form(w:World)(k n:Nat):Rd (w.alloc (.cells #[.int .u8 (k:Nat),.int .u8 ((n:Int) % 256),.int .u8 ((n:Int) / 256)] 5)) (some ⟨w.heap.size,0,none⟩) 3 3 (bcells [k,n % 256,n / 256]):=rd_lit w rfl 5 [k,n % 256,n / 256] 3 rfl (by decide)
theorem fr1_len(blk:List Nat)(h:blk.length≤1024):(pack (acode (mch (allbits blk)))).length≤20000:=by
 have a:=acode_le (cs:=mch (allbits blk)) (mch_all (kcn7 blk)) (by rw[kfi7,kbi7];omega);rw[km7];omega
theorem fr2_len{blk dict:List Nat}{ts:List Tok}(h:PTok blk dict ts)(h1:blk.length≤1024)(h2:dict.length≤512):(pack (codeOf ts)).length≤20000:=by
 obtain⟨ok1,ok2,-⟩:=h.ok h1 h2;rw[km7,codeOf_length _ (AllTok.of _ ok1)];have:=h.cost_le h1 h2;omega
def Stg(blk dict:List Nat)(k:Nat)(bl:List Nat):Prop:=match k with
 | 0=>bl=0::blk
 | 1=>bl=pk1 blk
 | _=>∃ ts,PTok blk dict ts∧bl=pk2 blk ts
theorem pack_any{A:Option Addr}{n c:Nat}{blk:List Nat}{A2:Option Addr}{n2 c2:Nat}{dict:List Nat}{w:World}(h:Rd w A n c (bcells blk))(h2:Rd w A2 n2 c2 (bcells dict))(hn:n≤1024)(hn2:n2≤512)(hd:∀ k,blk.getD k 0<256)(hd2:∀ k,dict.getD k 0<256) :
  Calls Tryz.prog 20 #[.slice A n c,.slice A2 n2 c2] w fun e w'=>∃ A' n' c' ts,e=.returned (.slice A' n' c')∧PTok blk dict ts∧w'.ownsRow w.heap.size 5 1 (.slice A' n' c') n' (bcells (pk2 blk ts))∧Below w.heap.size w w':=by
 have e1:=h.len;rw[ka7] at e1;have E1:=Lib.hid e1;have H:=Lib.hid h;have H2:=Lib.hid h2;have HD:=Lib.hid hd;have HD2:=Lib.hid hd2;clear h h2 hd hd2 e1
 go_enter Tryz.func20,Tryz.ntmps20
 go_wp2_with fail
 have R0:=H.out.alloc (.cells #[.int .u8 (0:Nat)] 5);have L0:Rd (w.alloc (.cells #[.int .u8 (0:Nat)] 5)) (some ⟨w.heap.size,0,none⟩) 1 1 (bcells [0]):=rd_lit w rfl 5 [0] 1 rfl (by decide);refine(kfd7 22 L0 R0 (by omega) (w.heap.size+1) (by simp)).mono ?_;rintro e w1 ⟨A1,c1,rfl,ho1,y1⟩;have z1:=((Below.refl w.heap.size w).alloc (Nat.le_refl _) (.cells #[.int .u8 (0:Nat)] 5)).trans (y1.mono (by simp));have o1:=Lib.hid (kao7 ho1 (by simp:w.heap.size≤_));have Z1:=Lib.hid z1;clear ho1 y1 z1 L0 R0
 go_wp2_with fail
 refine(kfu7 _).mono ?_;rintro e w2 ⟨g,rfl,hb,hg,y2⟩;have O2:=Lib.hid (kdc7 o1.out y2);have Z2:=Lib.hid (Z1.out.trans (y2.mono Z1.out.size));have HB2:=Lib.hid hb;clear hb y2 o1;have hb1:(blk.length:Nat)=n:=E1.out;have hmet:Stg blk dict 0 ([0]++blk):=rfl;have HMET:=Lib.hid hmet;have HLEN:=Lib.hid (show 1+n=([0]++blk).length by rw[List.length_append,E1.out];rfl);clear hb1 hmet
 go_wp2_with fail
 go_loopw [5,16] (fun s i wr=>∃ k:Nat,k≤2∧i=.int .i64 (k:Nat)∧Below w.heap.size w wr∧Blk wr g 67 #[.iface 109 (.agg #[]),.iface 110 (.agg #[])]∧∃ A' m c' bl,s=.slice A' m c'∧m=bl.length∧Stg blk dict k bl∧wr.ownsRow w.heap.size 5 1 (.slice A' m c') m (bcells bl)) (fun _ i _=>2-(intOf i).toNat)
 case atStart=>exact⟨0,Nat.zero_le _,rfl,Z2.out,HB2.out,A1,1+n,c1,_,rfl,HLEN.out,HMET.out,O2.out⟩
 case round =>
  obtain⟨k,hk,rfl,yr,hbk,A',m,c',bl,rfl,hm,hst,ho⟩:=hrel;have HO:=Lib.hid ho;have HST:=Lib.hid hst;have HM:=Lib.hid hm;have YR:=Lib.hid yr;have HBK:=Lib.hid hbk;clear ho hst hm yr HMET HLEN O2 HB2 Z2;have hmc:=Reads.capMax (Rd.own HO.out);rcases(by omega:k=0∨k=1∨k=2) with rfl|rfl|rfl
  ·have m0:wr.cell? ⟨g,0,none⟩=some (.iface 109 (.agg #[])):=Blk.cell hbk 0
   go_wp2_with fail
   have RB:=H.out.on YR.out;have SB:=H2.out.on YR.out;have hal:Below w.heap.size w (wr.alloc (.cells #[.int .u8 1,.int .u8 ((n:Int) % 256),.int .u8 ((n:Int) / 256)] 5)):=YR.out.alloc YR.out.size _;have oa:=kdc7 HO.out ((Below.refl wr.heap.size wr).alloc (Nat.le_refl _) (.cells #[.int .u8 1,.int .u8 ((n:Int) % 256),.int .u8 ((n:Int) / 256)] 5));have ba:=HBK.out.alloc (.cells #[.int .u8 1,.int .u8 ((n:Int) % 256),.int .u8 ((n:Int) / 256)] 5);refine(modpack_any (A2:=A2) (n2:=n2) (c2:=c2) (RB.alloc _) hn HD.out).mono ?_;rintro e w3 ⟨A3,m3,c3,rfl,R3,y3⟩;have L3:=(rd_form wr 1 n).on y3;have O3:=Lib.hid (kdc7 oa y3);have B3:=Lib.hid (ba.on y3);have z3:=hal.trans (y3.mono hal.size);have e3:=R3.len;rw[ka7] at e3;have E3:=Lib.hid e3;have M3:=Lib.hid (show m3≤20000 by rw[←e3];exact fr1_len blk (by rw[E1.out];exact hn));have m3b:=M3.out;have STN:=Lib.hid (show(3+m3<m→3+m3=(fr1 blk).length∧Stg blk dict 1 (fr1 blk))∧(¬3+m3<m→Stg blk dict 1 bl) from by
    have h0:bl=0::blk:=HST.out;have h1:(fr1 blk).length=3+m3:=by unfold fr1;rw[List.length_append,e3];rfl
    have h2:=HM.out;rw[h0] at h2;refine⟨fun hh=>⟨h1.symm,?_⟩,fun hh=>?_⟩
    ·show fr1 blk=pk1 blk;unfold pk1;rw[if_pos (by omega)]
    ·show bl=pk1 blk;unfold pk1;rw[if_neg (by omega),h0])
   have N3:=Lib.hid (show [1,n % 256,n / 256]++pack (acode (mch (allbits blk)))=fr1 blk by unfold fr1;rw[E1.out]);clear hal oa ba RB SB y3 hbk m0 HO HBK YR e3
   go_wp2_with fail
   refine(kfd7 22 L3 R3 (by omega) w3.heap.size rfl).mono ?_;rintro e w4 ⟨A4,c4,rfl,ho4,y4⟩;have z4:=Lib.hid (z3.trans (y4.mono z3.size));have O4:=Lib.hid (kao7 ho4 z3.size);have P4:=Lib.hid (kdc7 O3.out y4);have B4:=Lib.hid (B3.out.on y4);clear ho4 y4 z3 L3 R3 O3 B3;by_cases hlt:3+m3<m
   ·have hz:(3:Int)+(m3:Int)<(m:Int):=by omega
    go_wp2_with fail
    go_roundw
    case rel=>exact⟨1,by omega,by go_num,z4.out,B4.out,A4,3+m3,c4,_,rfl,(STN.out.1 hlt).1,(STN.out.1 hlt).2,N3.out ▸ O4.out⟩
    case measure=>simp[intOf]
   ·have hz:¬(3:Int)+(m3:Int)<(m:Int):=by omega
    go_wp2_with fail
    go_roundw
    case rel=>exact⟨1,by omega,by go_num,z4.out,B4.out,A',m,c',_,rfl,HM.out,STN.out.2 hlt,P4.out⟩
    case measure=>simp[intOf]
  ·have m0:wr.cell? ⟨g,1,none⟩=some (.iface 110 (.agg #[])):=Blk.cell hbk 1
   go_wp2_with fail
   have RB:=H.out.on YR.out;have SB:=H2.out.on YR.out;have hal:Below w.heap.size w (wr.alloc (.cells #[.int .u8 2,.int .u8 ((n:Int) % 256),.int .u8 ((n:Int) / 256)] 5)):=YR.out.alloc YR.out.size _;have oa:=kdc7 HO.out ((Below.refl wr.heap.size wr).alloc (Nat.le_refl _) (.cells #[.int .u8 2,.int .u8 ((n:Int) % 256),.int .u8 ((n:Int) / 256)] 5));have ba:=HBK.out.alloc (.cells #[.int .u8 2,.int .u8 ((n:Int) % 256),.int .u8 ((n:Int) / 256)] 5);refine(mpack_any (RB.alloc _) (SB.alloc _) hn hn2 HD.out HD2.out).mono ?_;rintro e w3 ⟨A3,m3,c3,ts,rfl,hT,R3,y3⟩;have L3:=(rd_form wr 2 n).on y3;have O3:=Lib.hid (kdc7 oa y3);have B3:=Lib.hid (ba.on y3);have z3:=hal.trans (y3.mono hal.size);have e3:=R3.len;rw[ka7] at e3;have E3:=Lib.hid e3;have HT:=Lib.hid hT;have hdl2:dict.length≤512:=by
    have:=H2.out.len;rw[ka7] at this;omega
   have M3:=Lib.hid (show m3≤20000 by rw[←e3];exact fr2_len hT (by rw[E1.out];exact hn) hdl2);have m3b:=M3.out;have STN:=Lib.hid (show(3+m3<m→3+m3=(fr2 blk ts).length∧Stg blk dict 2 (fr2 blk ts))∧(¬3+m3<m→Stg blk dict 2 bl) from by
    have h0:bl=pk1 blk:=HST.out;have h1:(fr2 blk ts).length=3+m3:=by unfold fr2;rw[List.length_append,e3];rfl
    have h2:=HM.out;rw[h0] at h2;refine⟨fun hh=>⟨h1.symm,ts,hT,?_⟩,fun hh=>⟨ts,hT,?_⟩⟩
    ·unfold pk2;rw[if_pos (by omega)]
    ·unfold pk2;rw[if_neg (by omega),h0])
   have N3:=Lib.hid (show [2,n % 256,n / 256]++pack (codeOf ts)=fr2 blk ts by unfold fr2;rw[E1.out]);clear hT hdl2;clear hal oa ba RB SB y3 hbk m0 HO HBK YR e3
   go_wp2_with fail
   refine(kfd7 22 L3 R3 (by omega) w3.heap.size rfl).mono ?_;rintro e w4 ⟨A4,c4,rfl,ho4,y4⟩;have z4:=Lib.hid (z3.trans (y4.mono z3.size));have O4:=Lib.hid (kao7 ho4 z3.size);have P4:=Lib.hid (kdc7 O3.out y4);have B4:=Lib.hid (B3.out.on y4);clear ho4 y4 z3 L3 R3 O3 B3;by_cases hlt:3+m3<m
   ·have hz:(3:Int)+(m3:Int)<(m:Int):=by omega
    go_wp2_with fail
    go_roundw
    case rel=>exact⟨2,by omega,by go_num,z4.out,B4.out,A4,3+m3,c4,_,rfl,(STN.out.1 hlt).1,(STN.out.1 hlt).2,N3.out ▸ O4.out⟩
    case measure=>simp[intOf]
   ·have hz:¬(3:Int)+(m3:Int)<(m:Int):=by omega
    go_wp2_with fail
    go_roundw
    case rel=>exact⟨2,by omega,by go_num,z4.out,B4.out,A',m,c',_,rfl,HM.out,STN.out.2 hlt,P4.out⟩
    case measure=>simp[intOf]
  ·obtain⟨ts,hT,rfl⟩:=HST.out;have HT:=Lib.hid hT;clear hT HST
   go_wp2_with fail
   go_ret
   exact⟨A',m,c',ts,rfl,HT.out,HO.out,YR.out⟩
theorem NOk.ok{l:List Nat}(h01:Is01 l){p mis:Nat}{t:Tok}{e:Nat}(h:NOk l p mis t e)(hm:mis≤1024):t.ok:=by
 rcases h with⟨h1,h2,h3,rfl,rfl⟩|⟨h1,h2,d,e1,n,hg,hd,hg2,hn,rfl⟩
 ·exact .inl ⟨rfl,rfl⟩
 ·have a:=gat_pos h01 hg;have b:=gat_pos h01 hg2;exact .inr ⟨rfl,by show(1:Int)≤((d:Nat):Int);omega,by show((d:Nat):Int)≤1536;omega,by show(3:Int)≤((n+2:Nat):Int);omega,by show((n+2:Nat):Int)≤1024;omega⟩
theorem Dec.facts{l:List Nat}(h01:Is01 l){p cnt c i:Nat}{ts:List Tok}{en:Nat}(h:Dec l p cnt c i ts en):cnt≤1024→p≤l.length→(∀ t∈ts,t.ok∧t.lit<256)∧ts.length≤cnt∧en≤l.length∧(c=0→(ts.map tlen).sum=cnt):=by
 induction h with
 | nil p=>exact fun _ hp=>⟨by simp,by simp,hp,fun _=>rfl⟩
 | bad p cnt c h1 h2 =>
  intro _ hp;refine⟨by simp,by simp,by omega,fun hc=>?_⟩;subst hc;rcases h2 with⟨_,h⟩|⟨_,_,_,h⟩|⟨_,_,⟨cd,_,h,rfl⟩|⟨_,_,_,_,h⟩|⟨_,_,cd,_,_,_,h,rfl⟩|⟨_,_,_,_,_,_,_,_,h⟩⟩
  ·cases h
  ·cases h
  ·exact absurd rfl h
  ·cases h
  ·exact absurd rfl h
  ·cases h
 | cons p cnt t e c i ts en h1 h2 h3 ih =>
  intro hc hp;have ok:=h2.ok h01 hc;obtain⟨a1,a2,a3,a4,a5⟩:=h2.facts h01 (by omega);obtain⟨b1,b2,b3,b4⟩:=ih (by omega) a1;refine⟨fun x hx=>?_,by simp;omega,b3,fun hh=>by simp only[List.map_cons,List.sum_cons];rw[b4 hh];omega⟩;rcases List.mem_cons.1 hx with rfl|hx
  ·exact⟨ok,a5⟩
  ·exact b1 x hx
theorem pack_allbits{d:List Nat}(hd:∀ k,d.getD k 0<256):pack (allbits d)=d:=pack_bitsOf d (8*d.length) hd (by omega) (fun i h1 h2=>by omega)
theorem lzdec_b{A:Option Addr}{n c:Nat}{p:List Nat}{count cd ix en:Nat}{ts:List Tok}{w:World}(h:Rd w A n c (bcells p))(hp:pack (allbits p)=p)(hL:(allbits p).length=8*n)(hn:n≤16384)(hc:count≤1024)(hD:Dec (allbits p) 0 count cd ix ts en)(e2 i2:Nat)(he2:e2=if cd=0 then en else 0)(hi2:i2=if cd=0 then 0 else ix)(t2:List Tok)(ht2:t2=if cd=0 then ts else []) :
  Calls Tryz.prog 147 #[.agg #[.slice A n c,.int .i64 (8*(n:Int))],.int .i64 (count:Nat)] w fun e w'=>∃ A' m' c',e=.returned (.tuple #[.slice A' m' c',.int .i64 (e2:Nat),.agg #[.int .i64 (cd:Nat),.int .i64 (i2:Nat)]])∧RdT w' A' m' c' t2∧Below w.heap.size w w':=by
 subst he2 hi2 ht2;have h':Rd w A n c (bcells (pack (allbits p))):=by rw[hp];exact h
 have:=lzdec_ok h' (kcn7 p) (by omega) hc hD;rw[hL,show((8*n:Nat):Int)=8*(n:Int) by omega] at this;refine this.mono ?_;rintro e w' ⟨A',m,c',rfl,ho,hb⟩;exact⟨A',m,c',rfl,RdT.own ho,hb⟩
theorem rd_b{A:Option Addr}{n c:Nat}{p:List Nat}{f:Nat}{w:World}(h:Rd w A n c (bcells p))(hp:pack (allbits p)=p)(hL:(allbits p).length=8*n)(hn:n≤16384)(hf:f≤8*n)(hm:8*n≤f+7)(v:Nat)(hv:v=num ((allbits p).drop f)) :
  Calls Tryz.prog 148 #[.agg #[.slice A n c,.int .i64 (8*(n:Int))],.int .i64 (f:Nat),.int .i64 (8*(n:Int)-(f:Nat))] w fun e w'=>e=.returned (.tuple #[.int .i64 (v:Nat),.agg #[.int .i64 0,.int .i64 0]])∧Below w.heap.size w w':=by
 have h':Rd w A n c (bcells (pack (allbits p))):=by rw[hp];exact h
 have:=rd_ok (f:=f) (m:=8*n-f) (fi:=(f:Nat)) (mi:=8*(n:Int)-(f:Nat)) h' (kcn7 p) (by omega) (by omega) (by omega) rfl (by omega) v (by rw[hv,List.take_of_length_le (by rw[List.length_drop];omega)]);rw[hL,show((8*n:Nat):Int)=8*(n:Int) by omega] at this;exact this
theorem Rd.farTwo{w:World}{A:Option Addr}{n c s:Nat}{t:TypeId}{D:List Nat}{a b:Int}(h:Rd w A n c (bcells D))(hF:Two w s t (.int .i64 a) (.int .i64 b))(u0 u1:Value):Rd ((w.setCell ⟨s,0,none⟩ u0).setCell ⟨s,1,none⟩ u1) A n c (bcells D):=by
 obtain⟨h1,h2,h3,h4⟩:=h;refine⟨h1,h2,h3,fun hn=>?_⟩;obtain⟨g,off,e,hb,hc⟩:=h4 hn;have hne:g≠s:=by
  rintro rfl;rw[ka7] at h1;have hx:(bcells D)[0]?=some (.int .u8 (D[0]'(by omega):Nat)):=by
   unfold bcells;rw[List.getElem?_map,List.getElem?_eq_getElem (by omega)];rfl
  have:=hc 0 _ hx;rw[Blk.cell hF] at this;rcases(by omega:off+0=0∨off+0=1∨2≤off+0) with h0|h0|h0
  ·rw[h0] at this;simp at this
  ·rw[h0] at this;simp at this
  ·rw[Array.getElem?_eq_none (by simpa using h0)] at this;cases this
 refine⟨g,off,e,by simpa [World.setCell] using hb,fun j u hu=>?_⟩;rw[World.cell?_setCell_other _ _ _ _ (fun e=>by injection e with e;omega),World.cell?_setCell_other _ _ _ _ (fun e=>by injection e with e;omega)];exact hc j u hu
def MUnp(p dict:List Nat)(n:Nat)(D:List Nat)(ok:Bool):Prop :=
 ∃ cd ix ts en,Dec (allbits p) 0 n cd ix ts en ∧
  ((¬(cd=0∧(en+7) / 8=p.length∧num ((allbits p).drop en)=0)∧D=[]∧ok=false) ∨
   ((cd=0∧(en+7) / 8=p.length∧num ((allbits p).drop en)=0)∧D=(if (expf dict.length ts 0 dict).1=0 then(expf dict.length ts 0 dict).2.2.drop dict.length else [])∧ok=decide ((expf dict.length ts 0 dict).1=0)))
theorem munpack_any{A:Option Addr}{n c N:Nat}{p:List Nat}{A2:Option Addr}{n2 c2:Nat}{dict:List Nat}{w:World}(h:Rd w A n c (bcells p))(h2:Rd w A2 n2 c2 (bcells dict))(hn:n≤16384)(hn2:n2≤512)(hN:N≤1024)(hd:∀ k,p.getD k 0<256) :
  Calls Tryz.prog 144 #[.agg #[],.slice A n c,.slice A2 n2 c2,.int .i64 (N:Nat)] w fun e w'=>∃ A' m' c' D ok,e=.returned (.tuple #[.slice A' m' c',.bool ok])∧MUnp p dict N D ok∧Rd w' A' m' c' (bcells D)∧Below w.heap.size w w':=by
 have e1:=h.len;have e2:=h2.len;rw[ka7] at e1 e2;have h01:=kcn7 p;obtain⟨cd,ix,ts,en,hD⟩:=dec_ex h01 N 0 (Nat.zero_le _);obtain⟨f1,f2,f3,f4⟩:=Dec.facts h01 hD hN (Nat.zero_le _);have hL:(allbits p).length=8*n:=by rw[kbi7,e1]
 have E1:=Lib.hid e1;have E2:=Lib.hid e2;have H01:=Lib.hid h01;have HD:=Lib.hid hD;have HF:=Lib.hid f1;have HL:=Lib.hid hL;have HP:=Lib.hid (pack_allbits hd);rw[hL] at f3;have R0:=h.alloc (.cells #[] 110);have S0:=h2.alloc (.cells #[] 110);have Z0:=(Below.refl w.heap.size w).alloc (Nat.le_refl _) (.cells #[] 110);have hcap:=h.2.1;have hcm:=h.2.2.1;unfold maxLen at hcm;clear h h2 hd e1 e2 h01 hD f1 f4 hL
 go_enter Tryz.func144,Tryz.ntmps144
 go_wp2_with fail
 have R1:=R0.alloc (.cells #[.slice A n c,.int .i64 (8*(n:Int))] 70);have S1:=S0.alloc (.cells #[.slice A n c,.int .i64 (8*(n:Int))] 70);have B1:=Two.new1 w (.cells #[] 110) 70 (.slice A n c) (.int .i64 (8*(n:Int)));have Z1:=Z0.alloc Z0.size (.cells #[.slice A n c,.int .i64 (8*(n:Int))] 70);obtain⟨e2,he2⟩:∃ e2,e2=if cd=0 then en else 0:=⟨_,rfl⟩
 obtain⟨i2,hi2⟩:∃ i2,i2=if cd=0 then 0 else ix:=⟨_,rfl⟩
 obtain⟨t2,ht2⟩:∃ t2,t2=if cd=0 then ts else []:=⟨_,rfl⟩
 refine(lzdec_b R1 HP.out HL.out hn hN HD.out e2 i2 he2 hi2 t2 ht2).mono ?_;rintro e w1 ⟨A3,m3,c3,rfl,T1,y1⟩;have R_2:=(R1.on y1).alloc (.cells #[.int .i64 (cd:Nat),.int .i64 (i2:Nat)] 24);have S_2:=(S1.on y1).alloc (.cells #[.int .i64 (cd:Nat),.int .i64 (i2:Nat)] 24);have B_2:=(B1.on y1).alloc (.cells #[.int .i64 (cd:Nat),.int .i64 (i2:Nat)] 24);have T_2:=T1.alloc (.cells #[.int .i64 (cd:Nat),.int .i64 (i2:Nat)] 24);have F_2:=Two.new w1 24 (.int .i64 (cd:Nat)) (.int .i64 (i2:Nat));have z1:=Z1.trans (y1.mono Z1.size);have Z2:=z1.alloc z1.size (.cells #[.int .i64 (cd:Nat),.int .i64 (i2:Nat)] 24);have B_2_c0:=B_2.c0;have B_2_c1:=B_2.c1;have F_2_c0:=F_2.c0;have F_2_c1:=F_2.c1;have hw1:w.heap.size≤w1.heap.size:=z1.size;clear R1 S1 B1 Z1 R0 S0 Z0 z1 y1 T1;have H2:=Lib.hid (And.intro R_2 (And.intro S_2 T_2));clear R_2 S_2 T_2;by_cases hc:cd=0
 ·subst hc;rw[if_pos rfl] at he2 hi2 ht2;subst he2 hi2 ht2;have z0:((0:Nat):Int)=0:=rfl;simp only[z0] at F_2_c0 F_2_c1 B_2_c0 B_2_c1;by_cases h7:(e2+7) / 8=n
  ·have h7z:((e2:Int)+7) / 8=(n:Int):=by omega
   go_wp2_with fail
   obtain⟨v,hv⟩:∃ v,v=num ((allbits p).drop e2):=⟨_,rfl⟩
   refine(rd_b H2.out.1 HP.out HL.out hn f3 (by omega) v hv).mono ?_;rintro e w3 ⟨rfl,y3⟩;obtain⟨R2,S2,T2⟩:=H2.out;have H3:=Lib.hid (And.intro ((S2.on y3).alloc (.cells #[.int .i64 0,.int .i64 0] 24)) ((T2.on y3).alloc (.cells #[.int .i64 0,.int .i64 0] 24)));have B_3:=(B_2.on y3).alloc (.cells #[.int .i64 0,.int .i64 0] 24);have F_3:=(F_2.on y3).alloc (.cells #[.int .i64 0,.int .i64 0] 24);have G_3:=Two.new w3 24 (.int .i64 0) (.int .i64 0);have z3:=Z2.trans (y3.mono Z2.size);have Z3:=z3.alloc z3.size (.cells #[.int .i64 0,.int .i64 0] 24);have B_3_c0:=B_3.c0;have B_3_c1:=B_3.c1;have F_3_c0:=F_3.c0;have F_3_c1:=F_3.c1;have G_3_c0:=G_3.c0;have G_3_c1:=G_3.c1;clear R2 S2 T2 H2 B_2 F_2 B_2_c0 B_2_c1 F_2_c0 F_2_c1 z3 y3 Z2;by_cases hv0:v=0
   ·subst hv0;have HV:=Lib.hid hv.symm;clear hv;simp only[z0]
    go_wp2_with fail
    obtain⟨S3,T3⟩:=H3.out;have hokl:=HF.out;refine(lzexp_ok T3 S3 (by omega) (AllTok.of _ fun t ht=>(hokl t ht).1) hn2).mono ?_;obtain⟨R,hR⟩:∃ R,R=expf n2 t2 0 dict:=⟨_,rfl⟩
    have hR1:=expf_code n2 t2 0 dict;have hR2:=expf_idx n2 t2 0 dict;rw[←hR] at hR1 hR2;have HRR:=Lib.hid hR;rw[←hR];obtain⟨code,idx,all⟩:=R;clear hR hokl S3 T3;simp only at hR1 hR2;rintro e w5 ⟨A5,m5,c5,rfl,R5,y5⟩;simp only at R5;have R5:=Lib.hid R5;have F_5:=F_3.on y5;have z5:=Z3.trans (y5.mono Z3.size);have F_6:=(F_5.set0 (.int .i64 code)).set1 (.int .i64 idx);obtain⟨f0,f1,f2,f3,f4⟩:=F_5.facts;obtain⟨g0,g1,g2,g3,g4⟩:=F_6.facts;clear F_3_c0 F_3_c1 B_3_c0 B_3_c1 G_3_c0 G_3_c1 y5
    go_upto_region 9 with(fail)
    have Z6:=Lib.hid (belowD ((z5.setCell (p:=⟨w1.heap.size,0,none⟩) hw1 (.int .i64 code)).setCell (p:=⟨w1.heap.size,1,none⟩) hw1 (.int .i64 idx)));have R6:=Lib.hid ((R5.out.farTwo F_5 (.int .i64 code) (.int .i64 idx)).drew);by_cases hc0:code=0
    ·have hi0:=hR2 hc0;subst hc0 hi0;have HR:=Lib.hid (show MUnp p dict N (if (0:Int)=0 then all.drop n2 else []) true from⟨0,ix,t2,e2,HD.out,.inr ⟨⟨rfl,by rw[E1.out];exact h7,HV.out⟩,by rw[E2.out,←HRR.out],by rw[E2.out,←HRR.out];rfl⟩⟩);clear hR1 hR2
     go_region
     go_wp2
     go_ret2
     exact⟨A5,m5,c5,_,.inr ⟨rfl,HR.out,R6.out,Z6.out⟩⟩
    ·have HR:=Lib.hid (show MUnp p dict N (if code=0 then all.drop n2 else []) false from⟨0,ix,t2,e2,HD.out,.inr ⟨⟨rfl,by rw[E1.out];exact h7,HV.out⟩,by rw[E2.out,←HRR.out],by rw[E2.out,←HRR.out];exact(decide_eq_false hc0).symm⟩⟩);clear hR1 hR2
     go_region
     go_wp2
     go_ret2
     exact⟨A5,m5,c5,_,false,rfl,HR.out,R6.out,Z6.out⟩
   ·have hvz:¬((v:Nat):Int)=0:=by omega
    have HR:=Lib.hid (show MUnp p dict N [] false from⟨0,ix,_,e2,HD.out,.inl ⟨fun⟨_,_,hh⟩=>hv0 (by rw[hv,hh]),rfl,rfl⟩⟩);clear hv
    go_wp2_with fail
    go_ret2
    exact⟨_,_,_,[],false,rfl,HR.out,Reads.nil _ _ none 0 (Nat.zero_le _),Z3⟩
  ·have h7z:¬((e2:Int)+7) / 8=(n:Int):=by omega
   have HR:=Lib.hid (show MUnp p dict N [] false from⟨0,ix,_,e2,HD.out,.inl ⟨fun⟨_,hh,_⟩=>h7 (by rw[hh,E1.out]),rfl,rfl⟩⟩)
   go_wp2_with fail
   go_ret2
   exact⟨_,_,_,[],false,rfl,HR.out,Reads.nil _ _ none 0 (Nat.zero_le _),Z2⟩
 ·have HR:=Lib.hid (show MUnp p dict N [] false from⟨cd,ix,_,en,HD.out,.inl ⟨fun⟨hh,_⟩=>hc hh,rfl,rfl⟩⟩);have hcz:¬((cd:Nat):Int)=0:=by omega
  clear he2 hi2 ht2
  go_wp2_with fail
  go_ret2
  exact⟨_,_,_,[],false,rfl,HR.out,Reads.nil _ _ none 0 (Nat.zero_le _),Z2⟩
section
variable {B gd gc go_ gb gi gr gw:Nat}{w0 w w':World}{N cc:Nat}{X bl:List Nat}{iv lo hi V:Int}{t:Nat}
end
def dst(X l:List Nat):DS:=drun X ((mch l).map Cho.p) (dinit X)
section
variable {B gd gc go_ gb gi gr gw:Nat}{w0 w w':World}{N cc:Nat}{X l:List Nat}
end
end PB
end
section
open Go.RowKit
attribute [local go_sem ↓] Go.wp_at_zero Go.wp_at_succ
namespace PB
theorem kdw7(c i:Int)(w:World):Calls Tryz.prog 19 #[.int .i64 c,.int .i64 i] w fun e w'=>e=.returned (.agg #[.int .i64 c,.int .i64 i])∧Below w.heap.size w w':=by
 have G:=Two.new w 24 (.int .i64 c) (.int .i64 i);obtain⟨g0,g1,g2,g3,g4⟩:=G.facts
 go_enter Tryz.func19,Tryz.ntmps19
 go_wp2
 exact bodyPost_ret (v:=.agg #[.int .i64 c,.int .i64 i]) (by simp[results,Tryz.results19,go_sem,g0,g1]) rfl ⟨rfl,(Below.refl _ _).alloc (Nat.le_refl _) _⟩
theorem meth_mat(W:World):Sem.run Tryz.prog (method 319 110 (.agg #[]) "scriptorium/squeeze.unpack") W=.ok (144,.agg #[]) W:=by kernel_rfl
theorem api_pack_ok{A:Option Addr}{n c:Nat}{blk:List Nat}{A2:Option Addr}{n2 c2:Nat}{dict:List Nat}{w:World}(h:Rd w A n c (bcells blk))(h2:Rd w A2 n2 c2 (bcells dict))(hn:n≤1024)(hn2:n2≤512)(hd:∀ k,blk.getD k 0<256)(hd2:∀ k,dict.getD k 0<256) :
  Calls Tryz.prog 8 #[.slice A n c,.slice A2 n2 c2] w fun e w'=>∃ A' n' c' ts,e=.returned (.tuple #[.slice A' n' c',.agg #[.int .i64 0,.int .i64 0]])∧PTok blk dict ts∧w'.ownsRow w.heap.size 5 1 (.slice A' n' c') n' (bcells (pk2 blk ts))∧Below w.heap.size w w':=by
 have HD:=Lib.hid hd;have HD2:=Lib.hid hd2;have R0:=h.alloc (.cells #[.int .i64 0,.int .i64 0] 24);have S0:=h2.alloc (.cells #[.int .i64 0,.int .i64 0] 24);have F0:=Two.new w 24 (.int .i64 0) (.int .i64 0);have y0:=(Below.refl w.heap.size w).alloc (Nat.le_refl _) (.cells #[.int .i64 0,.int .i64 0] 24);have hnz:¬(1024:Int)<(n:Int):=by omega
 have hnz2:¬(512:Int)<(n2:Int):=by omega
 clear hd hd2 h h2
 go_enter Tryz.func8,Tryz.ntmps8
 go_wp2_with fail
 refine(pack_any R0 S0 hn hn2 HD.out HD2.out).mono ?_;rintro e w1 ⟨A1,n1,c1,ts,rfl,hT,ho,y1⟩;have F1:=F0.on y1;have Y1:=y0.trans (y1.mono y0.size);have O1:=Lib.hid (kao7 (kas7 (kas7 ho (p:=⟨w.heap.size,0,none⟩) (by simp) (.int .i64 0)) (p:=⟨w.heap.size,1,none⟩) (by simp) (.int .i64 0)) y0.size);have F2:=(F1.set0 (.int .i64 0)).set1 (.int .i64 0);have r0:=F2.c0;have r1:=F2.c1;have HT:=Lib.hid hT;obtain⟨f0,f1,f2,f3,f4⟩:=F1.facts;clear hT ho y1 F0 R0 S0
 go_wp2
 exact bodyPost_ret (v:=.tuple #[.slice A1 n1 c1,.agg #[.int .i64 0,.int .i64 0]]) (by simp[results,Tryz.results8,go_sem,r0,r1]) rfl ⟨A1,n1,c1,ts,rfl,HT.out,O1.out,(Y1.setCell (p:=⟨w.heap.size,0,none⟩) (Nat.le_refl _) _).setCell (p:=⟨w.heap.size,1,none⟩) (Nat.le_refl _) _⟩
end PB
end
section
open Go.RowKit
namespace PB
theorem GAt.det{l:List Nat}{f v e c v' e' c':Nat}(h:GAt l f v e c)(h':GAt l f v' e' c'):v=v'∧e=e'∧c=c':=by
 rcases h with⟨a1,a2,a3,a4⟩|⟨a1,a2,a3,a4,a5⟩|⟨a1,a2,a3,a4,a5⟩<;>rcases h' with⟨b1,b2,b3,b4⟩|⟨b1,b2,b3,b4,b5⟩|⟨b1,b2,b3,b4,b5⟩<;>first|omega|(subst_vars;exact⟨rfl,rfl,rfl⟩)
theorem NOk.det{l:List Nat}{p m:Nat}{t t':Tok}{e e':Nat}(h:NOk l p m t e)(h':NOk l p m t' e'):t=t'∧e=e':=by
 rcases h with⟨a1,a2,a3,rfl,rfl⟩|⟨a1,a2,d,f,n,g1,a3,g2,a4,rfl⟩<;>rcases h' with⟨b1,b2,b3,rfl,rfl⟩|⟨b1,b2,d',f',n',k1,b3,k2,b4,rfl⟩
 ·exact⟨rfl,rfl⟩
 ·omega
 ·omega
 ·obtain⟨rfl,rfl,_⟩:=g1.det k1;obtain⟨rfl,rfl,_⟩:=g2.det k2;exact⟨rfl,rfl⟩
theorem NOk.notBad{l:List Nat}{p m c:Nat}{t:Tok}{e:Nat}(h:NOk l p m t e)(hb:NBad l p m c):False:=by
 rcases h with⟨a1,a2,a3,rfl,rfl⟩|⟨a1,a2,d,f,n,g1,a3,g2,a4,rfl⟩<;>rcases hb with⟨b1,_⟩|⟨b1,b2,b3,_⟩|⟨b1,b2,⟨cd,k1,k2,_⟩|⟨d',f',k1,k2,_⟩|⟨d',f',cd,k1,k2,k3,k4,_⟩|⟨d',f',n',f2,k1,k2,k3,k4,_⟩⟩
 all_goals try omega
 ·exact k2 (g1.det k1).2.2.symm
 ·have:=(g1.det k1).1;omega
 ·obtain⟨rfl,rfl,_⟩:=g1.det k1;exact k4 (g2.det k3).2.2.symm
 ·obtain⟨rfl,rfl,_⟩:=g1.det k1;have:=(g2.det k3).1;omega
theorem NBad.det{l:List Nat}{p m c c':Nat}(h:NBad l p m c)(h':NBad l p m c'):c=c':=by
 rcases h with⟨a1,a2⟩|⟨a1,a2,a3,a4⟩|⟨a1,a2,⟨cd,g1,g2,g3⟩|⟨d,f,g1,g2,g3⟩|⟨d,f,cd,g1,g2,g3,g4,g5⟩|⟨d,f,n,f2,g1,g2,g3,g4,g5⟩⟩ <;>
 rcases h' with⟨b1,b2⟩|⟨b1,b2,b3,b4⟩|⟨b1,b2,⟨cd',k1,k2,k3⟩|⟨d',f',k1,k2,k3⟩|⟨d',f',cd',k1,k2,k3,k4,k5⟩|⟨d',f',n',f2',k1,k2,k3,k4,k5⟩⟩
 all_goals try omega
 all_goals (have q:=g1.det k1;obtain⟨q1,q2,q3⟩:=q)
 all_goals first
  | omega
  | (exact absurd q3 (by omega))
  | (subst q1 q2;have q:=g3.det k3;obtain⟨q1,q2,q3⟩:=q;omega)
  | trace_state
theorem Dec.det{l:List Nat}{p n c i:Nat}{ts:List Tok}{en:Nat}(h:Dec l p n c i ts en):∀ {c' i':Nat}{ts':List Tok}{en':Nat},Dec l p n c' i' ts' en'→c=c'∧i=i'∧ts=ts'∧en=en':=by
 induction h with
 | nil p=>intro c' i' ts' en' h';cases h'<;>first|exact⟨rfl,rfl,rfl,rfl⟩|omega
 | bad p cnt c h1 h2 =>
  intro c' i' ts' en' h';cases h' with
  | nil=>omega
  | bad _ _ _ k1 k2=>exact⟨h2.det k2,rfl,rfl,rfl⟩
  | cons _ _ t e _ _ _ _ k1 k2 k3=>exact(k2.notBad h2).elim
 | cons p cnt t e c i ts en h1 h2 h3 ih =>
  intro c' i' ts' en' h';cases h' with
  | nil=>omega
  | bad _ _ _ k1 k2=>exact(h2.notBad k2).elim
  | cons _ _ t' e' _ _ _ _ k1 k2 k3 =>
   obtain⟨rfl,rfl⟩:=h2.det k2;obtain⟨rfl,rfl,rfl,rfl⟩:=ih k3;exact⟨rfl,rfl,rfl,rfl⟩
theorem ex_dec:Dec (allbits [48,240]) 0 4 0 0 [⟨0,0,97⟩,⟨1,3,0⟩] 12:=by
 have h:=dec_code [⟨0,0,97⟩,⟨1,3,0⟩] [] [0,0,0,0] (by
  intro t ht;rcases List.mem_cons.1 ht with rfl|ht
  ·exact⟨.inl ⟨rfl,rfl⟩,by decide⟩
  ·obtain rfl:=List.mem_singleton.1 ht;exact⟨.inr ⟨rfl,by decide,by decide,by decide,by decide⟩,by decide⟩)
 have e1:[]++codeOf [⟨0,0,97⟩,⟨1,3,0⟩]++[0,0,0,0]=allbits [48,240]:=by decide +kernel
 have e2:(codeOf [⟨0,0,97⟩,⟨1,3,0⟩]).length=12:=by decide +kernel
 have e3:(([⟨0,0,97⟩,⟨1,3,0⟩]:List Tok).map tlen).sum=4:=by decide +kernel
 rw[e1,e2,e3] at h;exact h
theorem pk2_length(blk:List Nat)(ts:List Tok):1≤(pk2 blk ts).length∧(pk2 blk ts).length≤blk.length+1∧(pk2 blk ts).length≤(fr1 blk).length∧(pk2 blk ts).length≤(fr2 blk ts).length:=by
 have a:1≤(fr1 blk).length:=by unfold fr1;simp
 have b:1≤(fr2 blk ts).length:=by unfold fr2;simp
 have c:(0::blk).length=blk.length+1:=rfl;unfold pk2 pk1
 split<;>split<;>omega
end PB
end
end Go.Proofs.YtnpcandaehejbaaGreat
