/-
  The update of the model with a bit: the counts at the contexts of the bit, and the context
-/
import Derived.Laws.EntriesVeiled
import Derived.Handy
import Derived.Test.YtnpcandaehejbaaGreatSqU7
import Derived.Test.YtnpcandaehejbaaGreatSqU8
import Derived.Test.YtnpcandaehejbaaGreatSqU9
import Derived.Test.YtnpcandaehejbaaGreatSqU10
set_option linter.unusedVariables false
set_option linter.unusedSimpArgs false
set_option linter.unusedSectionVars false
set_option maxHeartbeats 6400000
set_option maxRecDepth 100000
namespace Go.Proofs.YtnpcandaehejbaaGreat
section
open Go.RowKit
attribute [local go_sem ↓] Go.wp_at_zero Go.wp_at_succ
namespace PB
structure But2(s b:Nat)(w w':World):Prop where
 os:w'.os=w.os
 tape:w'.tape=w.tape
 output:w'.output=w.output
 size:w.heap.size≤w'.heap.size
 block:∀ k,k<w.heap.size→k≠s→k≠b→w'.heap[k]?=w.heap[k]?
section
variable {s b:Nat}{w w' w'':World}
theorem But2.refl(s b:Nat)(w:World):But2 s b w w:=⟨rfl,rfl,rfl,Nat.le_refl _,fun _ _ _ _=>rfl⟩
theorem But2.trans(h:But2 s b w w')(k:But2 s b w' w''):But2 s b w w'' :=
 ⟨k.os.trans h.os,k.tape.trans h.tape,k.output.trans h.output,Nat.le_trans h.size k.size,fun i h1 h2 h3=>(k.block i (Nat.lt_of_lt_of_le h1 h.size) h2 h3).trans (h.block i h1 h2 h3)⟩
theorem But2.of_below(h:Below w.heap.size w w')(s b:Nat):But2 s b w w':=⟨h.os,h.tape,h.output,h.size,fun i h1 _ _=>h.block i h1⟩
theorem But2.of_grown(h:w.grownBy w' (some b))(s:Nat):But2 s b w w':=⟨h.os,h.tape,h.output,h.size,fun i h1 _ h3=>h.block i h1 (by simpa using h3)⟩
theorem But2.drew(h:But2 s b w w'):But2 s b w w'.drew:=⟨h.os,h.tape,h.output,h.size,h.block⟩
theorem But2.set_(h:But2 s b w w')(i:Nat)(u:Value):But2 s b w (w'.setCell ⟨s,i,none⟩ u) :=
 ⟨h.os,h.tape,h.output,by simpa [World.setCell] using h.size,fun k h1 h2 h3=>(Below.heap_setCell w' ⟨s,i,none⟩ u k h2).trans (h.block k h1 h2 h3)⟩
theorem Blk.but2{g:Nat}{t:TypeId}{cs:Array Value}(h:Blk w g t cs)(hb:But2 s b w w')(h1:g≠s)(h2:g≠b):Blk w' g t cs:=(hb.block g h.lt h1 h2).trans h
theorem But2.below{B:Nat}(h:But2 s b w w')(h1:B≤s)(h2:B≤b)(hB:B≤w.heap.size):Below B w w':=⟨h.os,h.tape,h.output,h.size,fun k hk=>h.block k (by omega) (by omega) (by omega)⟩
end
def fupd(f:Ctx→Nat×Nat)(l:List Ctx)(bit:Nat):Ctx→Nat×Nat :=
 l.foldl (fun g c=>fset g c (upd (g c) bit)) f
theorem fupd_take{f:Ctx→Nat×Nat}{l:List Ctx}{bit k:Nat}(hk:k<l.length):fupd f (l.take (k+1)) bit=fset (fupd f (l.take k) bit) l[k] (upd (fupd f (l.take k) bit l[k]) bit):=by
 unfold fupd;rw[List.take_succ_eq_append_getElem hk,List.foldl_append];rfl
theorem fset_le{f:Ctx→Nat×Nat}(h:∀ c,(f c).1+(f c).2≤254)(c:Ctx)(bit:Nat):∀ c',(fset f c (upd (f c) bit) c').1+(fset f c (upd (f c) bit) c').2≤254:=by
 intro c';unfold fset
 split
 ·exact upd_le (h c) bit
 ·exact h c'
theorem fupd_le{f:Ctx→Nat×Nat}(h:∀ c,(f c).1+(f c).2≤254)(l:List Ctx)(bit:Nat):∀ c',(fupd f l bit c').1+(fupd f l bit c').2≤254:=by
 induction l generalizing f with
 | nil=>exact h
 | cons c l ih=>exact ih (fset_le h c bit)
theorem update_any{w:World}{s b n ord la be bg bit:Nat}{f:Ctx→Nat×Nat}(h:Pm w s b n ord la be bg f)(ho:ord≤2)(h1:la<32)(h2:be<32)(h3:bg<256)(hb:bit≤1)(hf:∀ c,(f c).1+(f c).2≤254)(hn:n+3<1000000)(LA BE BG:Nat)
  (hnew:(2*bg+bit<256∧LA=la∧BE=be∧BG=2*bg+bit)∨(256≤2*bg+bit∧LA=(2*bg+bit) % 32∧BE=la∧BG=1)) (bi:Int) (hbi:bi=(bit:Nat)) :
  Calls Tryz.prog 117 #[.pointer (some ⟨s,0,none⟩),.int .i64 bi] w fun e w'=>e=.returned (.tuple #[])∧Pm w' s b (n+(ord+1)) ord LA BE BG (fupd f (ctxs ord la be bg) bit)∧But2 s b w w':=by
 have hL:=ctxs_length ord la be bg ho;have hok:=ctxs_ok (ord:=ord) (la:=la) (be:=be) (bg:=bg) ho (by omega) (by omega) h3;obtain⟨l,hl⟩:∃ l,l=ctxs ord la be bg:=⟨_,rfl⟩
 have HC:=Lib.hid (kiw7 h ho);rw[←hl] at hL hok HC ⊢;have HP:=Lib.hid h;have HF:=Lib.hid hf;have HOK:=Lib.hid hok;have hls:=h.lt;have hlb:=h.ltb;have HNE:=Lib.hid h.ne;obtain⟨m,hm⟩:∃ m,m=ord+1:=⟨_,rfl⟩
 have hm3:m≤3:=by omega
 rw[←hm] at hL HC ⊢;have HNEW:=Lib.hid hnew;have HBI:=Lib.hid hbi;have hbi1:0≤bi∧bi≤1:=by omega
 obtain⟨hbi1,hbi2⟩:=hbi1;clear h hf hok hl ho hm h1 h2 hnew hbi
 go_enter Tryz.func117,Tryz.ntmps117
 go_wp2_with fail
 refine HC.out.mono ?_;rintro e w1 ⟨A,c,rfl,ho1,y1⟩;have HX:=Lib.hid (RdX.own ho1);have HXB:=Lib.hid (kcc7 ho1 hlb);have HP1:=Lib.hid (HP.out.on y1);clear ho1
 go_wp2_with fail
 go_loopw [10] (fun i wr=>∃ k:Nat,k≤m∧i=.int .i64 (k:Nat)∧Pm wr s b (n+k) ord la be bg (fupd f (l.take k) bit)∧w1.grownBy wr (some b)) (fun i _=>m-(intOf i).toNat)
 case atStart=>exact⟨0,by omega,rfl,HP1.out,World.grownBy.refl _ _⟩
 case round =>
  obtain⟨k,hk,rfl,hpr,yr⟩:=hrel;have HPR:=Lib.hid hpr;have YR:=Lib.hid yr;clear hpr yr;by_cases hlt:k<m
  ·have HXr:=Lib.hid (RdX.grown HX.out YR.out (by intro b0 off0 e0 e1;have:=HXB.out;rw[e0] at this;exact this e1.symm));obtain⟨g,off,rfl,hg,c0,c1,c2,c3⟩:=HXr.out.at k (by omega);have HT:=Lib.hid (fupd_take (f:=f) (l:=l) (bit:=bit) (k:=k) (by omega));obtain⟨hcx,hc2⟩:=HOK.out l[k] (List.getElem_mem _);have hcnt:=fupd_le HF.out (l.take k) bit l[k];generalize l[k]'(by omega)=cx at c0 c1 c2 c3 HT hcx hc2 hcnt;obtain⟨o,la',be',bg'⟩:=cx;dsimp only at c0 c1 c2 c3 HT hc2 hcnt;obtain⟨z,on,hzo⟩:∃ z on,fupd f (l.take k) bit (o,la',be',bg')=(z,on):=⟨_,_,rfl⟩
   rw[hzo] at HT hcnt;dsimp only at hcnt;have HA1:=HPR.out.alloc (.cells #[.int .i64 (o:Nat),.int .i64 (la':Nat),.int .i64 (be':Nat),.int .i64 (bg':Nat)] 185);have HF1:=Four.new wr 185 (.int .i64 (o:Nat)) (.int .i64 (la':Nat)) (.int .i64 (be':Nat)) (.int .i64 (bg':Nat));have y2:=kbw7 YR.out (.cells #[.int .i64 (o:Nat),.int .i64 (la':Nat),.int .i64 (be':Nat),.int .i64 (bg':Nat)] 185);have yrs:=YR.out.size
   go_upto_region 3 with(fail)
   have hs2:wr.heap.size<(wr.alloc (.cells #[.int .i64 (o:Nat),.int .i64 (la':Nat),.int .i64 (be':Nat),.int .i64 (bg':Nat)] 185)).heap.size:=by simp
   generalize wr.alloc (.cells #[.int .i64 (o:Nat),.int .i64 (la':Nat),.int .i64 (be':Nat),.int .i64 (bg':Nat)] 185)=w2 at HA1 HF1 y2 hs2 ⊢;have l1:(Instr.lookup 168 (.map (some b)) (.agg #[.int .i64 (o:Nat),.int .i64 (la':Nat),.int .i64 (be':Nat),.int .i64 (bg':Nat)]) false).run Tryz.prog w2.drew=.ok (.agg #[.int .i64 (z:Nat),.int .i64 (on:Nat)]) w2.drew:=by
    have:=HA1.drew.cm.look hcx;rw[hzo] at this;exact this
   have l2:(Instr.lookup 168 (.map (some b)) (.agg #[.int .i64 (o:Nat),.int .i64 (la':Nat),.int .i64 (be':Nat),.int .i64 (bg':Nat)]) false).run Tryz.prog (w2.alloc (.cells #[.int .i64 0,.int .i64 0] 187)).drew=.ok (.agg #[.int .i64 (z:Nat),.int .i64 (on:Nat)]) (w2.alloc (.cells #[.int .i64 0,.int .i64 0] 187)).drew:=by
    have:=(HA1.alloc (.cells #[.int .i64 0,.int .i64 0] 187)).drew.cm.look hcx;rw[hzo] at this;exact this
   have f0:=HF1.c0;have f1:=HF1.c1;have f2:=HF1.c2;have f3:=HF1.c3;have t1:=HA1.c1;clear c0 c1 c2 c3;apply share
   ·intro key
    go_region_held3 (fun w'=>w'.cell? ⟨wr.heap.size,0,none⟩=some (.int .i64 (o:Nat))∧w'.cell? ⟨wr.heap.size,1,none⟩=some (.int .i64 (la':Nat))∧w'.cell? ⟨wr.heap.size,2,none⟩=some (.int .i64 (be':Nat))∧w'.cell? ⟨wr.heap.size,3,none⟩=some (.int .i64 (bg':Nat))∧w'.cell? ⟨s,1,none⟩=some (.map (some b))) (go_keep) (fail)
    all_goals (try simp only[Act.put,List.setIfInBounds_toArray,List.set_cons_zero,List.set_cons_succ])
    all_goals exact key
   have HK4:=(Two.new w2 187 (.int .i64 (z:Nat)) (.int .i64 (on:Nat))).drew;have HF3:=(HF1.alloc (.cells #[.int .i64 (z:Nat),.int .i64 (on:Nat)] 187)).drew;have HA3:=(HA1.alloc (.cells #[.int .i64 (z:Nat),.int .i64 (on:Nat)] 187)).drew;have y3:=kcz7 (kbw7 y2 (.cells #[.int .i64 (z:Nat),.int .i64 (on:Nat)] 187));have y2s:=y2.size;clear HF1 y2 l1 l2 f0 f1 f2 f3 t1 HA1;obtain⟨kb,hkb⟩:∃ kb,kb=w2.heap.size:=⟨_,rfl⟩
   obtain⟨cb,hcb⟩:∃ cb,cb=wr.heap.size:=⟨_,rfl⟩
   rw[←hkb] at HK4 ⊢;rw[←hcb] at HF3 ⊢;have nb1:w1.heap.size≤kb:=by omega
   have y1s:=y1.size;have nb2:b≠kb:=by omega
   have nb3:s≠kb:=by omega
   have nb4:cb≠kb:=by omega
   generalize (w2.alloc (.cells #[.int .i64 (z:Nat),.int .i64 (on:Nat)] 187)).drew=w3 at HK4 HF3 HA3 y3 ⊢;clear hkb hcb hs2 yrs y2s;have k0:=HK4.c0;have k1:=HK4.c1;have k2:=HK4.f0;have k3:=HK4.f1;rcases(by omega:bit=1∨bit=0) with hbit|hbit
   ·have hbb:bi=1:=by have:=HBI.out;omega
    subst hbb
    go_upto_region 7 with(fail)
    have HK5:=HK4.set1 (.int .i64 ((on:Int)+1));have HF5:=HF3.far (p:=⟨kb,1,none⟩) nb4 (.int .i64 ((on:Int)+1));have HA5:=HA3.far (p:=⟨kb,1,none⟩) nb3 nb2 (.int .i64 ((on:Int)+1));have y5:=kab7 y3 (p:=⟨kb,1,none⟩) (.inr nb1) (.int .i64 ((on:Int)+1));generalize w3.setCell ⟨kb,1,none⟩ (.int .i64 ((on:Int)+1))=w5 at HK5 HF5 HA5 y5 ⊢;clear k0 k1 k2 k3 HK4 HF3 HA3 y3;have k0:=HK5.c0;have k1:=HK5.c1;have k2:=HK5.f0;have k3:=HK5.f1;by_cases hal:255≤z+on+1
    ·have HU:=Lib.hid (show upd (z,on) bit=((z+1) / 2,(on+1+1) / 2) by subst hbit;unfold upd halve;simp only[if_pos rfl,];first|rw[if_pos (by omega)]|simp;omega);obtain⟨z2,hz2⟩:∃ z2,z2=(z+1) / 2:=⟨_,rfl⟩
     obtain⟨o2,ho2⟩:∃ o2,o2=(on+1+1) / 2:=⟨_,rfl⟩
     have q1:((z:Int)+1) / 2=((z2:Nat):Int):=by omega
     have q2:(((on:Int)+1)+1) / 2=((o2:Nat):Int):=by omega
     have HU2:=Lib.hid (show upd (z,on) bit=(z2,o2) by rw[HU.out,hz2,ho2]);have Q1:=Lib.hid q1;have Q2:=Lib.hid q2;clear hz2 ho2 q1 q2 HU
     go_upto_region 9 with(fail)
     rw[Q1.out,Q2.out];clear Q1 Q2;have HK6:=(HK5.set0 (.int .i64 (z2:Nat))).set1 (.int .i64 (o2:Nat));have HF6:=(HF5.far (p:=⟨kb,0,none⟩) nb4 (.int .i64 (z2:Nat))).far (p:=⟨kb,1,none⟩) nb4 (.int .i64 (o2:Nat));have HA6:=(HA5.far (p:=⟨kb,0,none⟩) nb3 nb2 (.int .i64 (z2:Nat))).far (p:=⟨kb,1,none⟩) nb3 nb2 (.int .i64 (o2:Nat));have y6:=kab7 (kab7 y5 (p:=⟨kb,0,none⟩) (.inr nb1) (.int .i64 (z2:Nat))) (p:=⟨kb,1,none⟩) (.inr nb1) (.int .i64 (o2:Nat));generalize (w5.setCell ⟨kb,0,none⟩ (.int .i64 (z2:Nat))).setCell ⟨kb,1,none⟩ (.int .i64 (o2:Nat))=w6 at HK6 HF6 HA6 y6 ⊢;clear k0 k1 k2 k3 HK5 HF5 HA5 y5;obtain⟨w7,hrun,hcm7,hg7⟩:=HA6.drew.cm.store hcx (by unfold maxLen;omega) (z2,o2);have hrun':(Instr.mapUpdate 168 (.map (some b)) (.agg #[.int .i64 (o:Nat),.int .i64 (la':Nat),.int .i64 (be':Nat),.int .i64 (bg':Nat)]) (.agg #[.int .i64 (z2:Nat),.int .i64 (o2:Nat)])).run Tryz.prog w6.drew=.ok () w7:=hrun;clear hrun;have HG7:=Lib.hid hg7;have bl7:Blk w7 s 170 #[.int .i64 (ord:Nat),.map (some b),.int .i64 (la:Nat),.int .i64 (be:Nat),.int .i64 (bg:Nat)]:=Blk.grown HA6.drew.blk hg7 (by simpa using Ne.symm HNE.out);have HA7:=Lib.hid (show Pm w7 s b (n+(k+1)) ord la be bg (fupd f (l.take (k+1)) bit) from⟨bl7,by rw[HT.out,HU2.out];exact hcm7⟩);have nb6:b≠cb:=HA6.cm.ne HF6;have HF7:=HF6.drew.grown hg7 (by simpa using Ne.symm nb6);have HK7:=Two.grown HK6.drew hg7 (by simpa using Ne.symm nb2)
     have y7:=kdn7 (kcz7 y6) hg7 (.inl rfl);clear hcm7 hg7;have f0:=HF6.c0;have g0:=HF7.c0;have f1:=HF6.c1;have g1:=HF7.c1;have f2:=HF6.c2;have g2:=HF7.c2;have f3:=HF6.c3;have g3:=HF7.c3;have k0:=HK6.c0;have j0:=HK7.c0;have k1:=HK6.c1;have j1:=HK7.c1;have t1:=HA6.c1;have u1:=HA7.out.c1
     go_region_held3 (fun w'=>w'.cell? ⟨cb,0,none⟩=some (.int .i64 (o:Nat))∧w'.cell? ⟨cb,1,none⟩=some (.int .i64 (la':Nat))∧w'.cell? ⟨cb,2,none⟩=some (.int .i64 (be':Nat))∧w'.cell? ⟨cb,3,none⟩=some (.int .i64 (bg':Nat))∧w'.cell? ⟨kb,0,none⟩=some (.int .i64 (z2:Nat))∧w'.cell? ⟨kb,1,none⟩=some (.int .i64 (o2:Nat))∧w'.cell? ⟨s,1,none⟩=some (.map (some b))) (go_keep) (fail)
     clear f0 g0 f1 g1 f2 g2 f3 g3 k0 j0 k1 j1 t1 u1 HK6 HF6 HA6 y6 HK7 HF7 bl7 hrun'
     go_wp2
     go_roundw
     case rel=>exact⟨k+1,by omega,by go_num,HA7.out,y7⟩
     case measure=>simp[intOf]<;>omega
    ·have HU:=Lib.hid (show upd (z,on) bit=(z,on+1) by subst hbit;unfold upd halve;simp only[if_pos rfl,];first|rw[if_neg (by omega)]|simp;omega);obtain⟨z2,hz2⟩:∃ z2,z2=z:=⟨_,rfl⟩
     obtain⟨o2,ho2⟩:∃ o2,o2=on+1:=⟨_,rfl⟩
     have q1:(z:Int)=((z2:Nat):Int):=by omega
     have q2:((on:Int)+1)=((o2:Nat):Int):=by omega
     have HU2:=Lib.hid (show upd (z,on) bit=(z2,o2) by rw[HU.out,hz2,ho2]);have Q1:=Lib.hid q1;have Q2:=Lib.hid q2;clear hz2 ho2 q1 q2 HU
     go_upto_region 9 with(fail)
     rw[Q1.out,Q2.out] at HK5;clear k0 k1 k2 k3 Q1 Q2;have HK6:=HK5;have HF6:=HF5;have HA6:=HA5;have y6:=y5;clear HK5 HF5 HA5 y5;generalize w5=w6 at HK6 HF6 HA6 y6 ⊢;obtain⟨w7,hrun,hcm7,hg7⟩:=HA6.drew.cm.store hcx (by unfold maxLen;omega) (z2,o2);have hrun':(Instr.mapUpdate 168 (.map (some b)) (.agg #[.int .i64 (o:Nat),.int .i64 (la':Nat),.int .i64 (be':Nat),.int .i64 (bg':Nat)]) (.agg #[.int .i64 (z2:Nat),.int .i64 (o2:Nat)])).run Tryz.prog w6.drew=.ok () w7:=hrun;clear hrun;have HG7:=Lib.hid hg7;have bl7:Blk w7 s 170 #[.int .i64 (ord:Nat),.map (some b),.int .i64 (la:Nat),.int .i64 (be:Nat),.int .i64 (bg:Nat)]:=Blk.grown HA6.drew.blk hg7 (by simpa using Ne.symm HNE.out);have HA7:=Lib.hid (show Pm w7 s b (n+(k+1)) ord la be bg (fupd f (l.take (k+1)) bit) from⟨bl7,by rw[HT.out,HU2.out];exact hcm7⟩);have nb6:b≠cb:=HA6.cm.ne HF6;have HF7:=HF6.drew.grown hg7 (by simpa using Ne.symm nb6);have HK7:=Two.grown HK6.drew hg7 (by simpa using Ne.symm nb2);have y7:=kdn7 (kcz7 y6) hg7 (.inl rfl);clear hcm7 hg7;have f0:=HF6.c0;have g0:=HF7.c0;have f1:=HF6.c1;have g1:=HF7.c1;have f2:=HF6.c2;have g2:=HF7.c2;have f3:=HF6.c3;have g3:=HF7.c3;have k0:=HK6.c0;have j0:=HK7.c0;have k1:=HK6.c1;have j1:=HK7.c1;have t1:=HA6.c1;have u1:=HA7.out.c1
     go_region_held3 (fun w'=>w'.cell? ⟨cb,0,none⟩=some (.int .i64 (o:Nat))∧w'.cell? ⟨cb,1,none⟩=some (.int .i64 (la':Nat))∧w'.cell? ⟨cb,2,none⟩=some (.int .i64 (be':Nat))∧w'.cell? ⟨cb,3,none⟩=some (.int .i64 (bg':Nat))∧w'.cell? ⟨kb,0,none⟩=some (.int .i64 (z2:Nat))∧w'.cell? ⟨kb,1,none⟩=some (.int .i64 (o2:Nat))∧w'.cell? ⟨s,1,none⟩=some (.map (some b))) (go_keep) (fail)
     clear f0 g0 f1 g1 f2 g2 f3 g3 k0 j0 k1 j1 t1 u1 HK6 HF6 HA6 y6 HK7 HF7 bl7 hrun'
     go_wp2
     go_roundw
     case rel=>exact⟨k+1,by omega,by go_num,HA7.out,y7⟩
     case measure=>simp[intOf]<;>omega
   ·have hbb:bi=0:=by have:=HBI.out;omega
    subst hbb
    go_upto_region 7 with(fail)
    have HK5:=HK4.set0 (.int .i64 ((z:Int)+1));have HF5:=HF3.far (p:=⟨kb,0,none⟩) nb4 (.int .i64 ((z:Int)+1));have HA5:=HA3.far (p:=⟨kb,0,none⟩) nb3 nb2 (.int .i64 ((z:Int)+1));have y5:=kab7 y3 (p:=⟨kb,0,none⟩) (.inr nb1) (.int .i64 ((z:Int)+1));generalize w3.setCell ⟨kb,0,none⟩ (.int .i64 ((z:Int)+1))=w5 at HK5 HF5 HA5 y5 ⊢;clear k0 k1 k2 k3 HK4 HF3 HA3 y3;have k0:=HK5.c0;have k1:=HK5.c1;have k2:=HK5.f0;have k3:=HK5.f1;by_cases hal:255≤z+1+on
    ·have HU:=Lib.hid (show upd (z,on) bit=((z+1+1) / 2,(on+1) / 2) by subst hbit;unfold upd halve;simp only[if_pos rfl,Nat.zero_ne_one,if_false];first|rw[if_pos (by omega)]|simp;omega);obtain⟨z2,hz2⟩:∃ z2,z2=(z+1+1) / 2:=⟨_,rfl⟩
     obtain⟨o2,ho2⟩:∃ o2,o2=(on+1) / 2:=⟨_,rfl⟩
     have q1:(((z:Int)+1)+1) / 2=((z2:Nat):Int):=by omega
     have q2:((on:Int)+1) / 2=((o2:Nat):Int):=by omega
     have HU2:=Lib.hid (show upd (z,on) bit=(z2,o2) by rw[HU.out,hz2,ho2]);have Q1:=Lib.hid q1;have Q2:=Lib.hid q2;clear hz2 ho2 q1 q2 HU
     go_upto_region 9 with(fail)
     rw[Q1.out,Q2.out];clear Q1 Q2;have HK6:=(HK5.set0 (.int .i64 (z2:Nat))).set1 (.int .i64 (o2:Nat));have HF6:=(HF5.far (p:=⟨kb,0,none⟩) nb4 (.int .i64 (z2:Nat))).far (p:=⟨kb,1,none⟩) nb4 (.int .i64 (o2:Nat));have HA6:=(HA5.far (p:=⟨kb,0,none⟩) nb3 nb2 (.int .i64 (z2:Nat))).far (p:=⟨kb,1,none⟩) nb3 nb2 (.int .i64 (o2:Nat));have y6:=kab7 (kab7 y5 (p:=⟨kb,0,none⟩) (.inr nb1) (.int .i64 (z2:Nat))) (p:=⟨kb,1,none⟩) (.inr nb1) (.int .i64 (o2:Nat));generalize (w5.setCell ⟨kb,0,none⟩ (.int .i64 (z2:Nat))).setCell ⟨kb,1,none⟩ (.int .i64 (o2:Nat))=w6 at HK6 HF6 HA6 y6 ⊢;clear k0 k1 k2 k3 HK5 HF5 HA5 y5;obtain⟨w7,hrun,hcm7,hg7⟩:=HA6.drew.cm.store hcx (by unfold maxLen;omega) (z2,o2);have hrun':(Instr.mapUpdate 168 (.map (some b)) (.agg #[.int .i64 (o:Nat),.int .i64 (la':Nat),.int .i64 (be':Nat),.int .i64 (bg':Nat)]) (.agg #[.int .i64 (z2:Nat),.int .i64 (o2:Nat)])).run Tryz.prog w6.drew=.ok () w7:=hrun;clear hrun;have HG7:=Lib.hid hg7;have bl7:Blk w7 s 170 #[.int .i64 (ord:Nat),.map (some b),.int .i64 (la:Nat),.int .i64 (be:Nat),.int .i64 (bg:Nat)]:=Blk.grown HA6.drew.blk hg7 (by simpa using Ne.symm HNE.out);have HA7:=Lib.hid (show Pm w7 s b (n+(k+1)) ord la be bg (fupd f (l.take (k+1)) bit) from⟨bl7,by rw[HT.out,HU2.out];exact hcm7⟩);have nb6:b≠cb:=HA6.cm.ne HF6;have HF7:=HF6.drew.grown hg7 (by simpa using Ne.symm nb6);have HK7:=Two.grown HK6.drew hg7 (by simpa using Ne.symm nb2)
     have y7:=kdn7 (kcz7 y6) hg7 (.inl rfl);clear hcm7 hg7;have f0:=HF6.c0;have g0:=HF7.c0;have f1:=HF6.c1;have g1:=HF7.c1;have f2:=HF6.c2;have g2:=HF7.c2;have f3:=HF6.c3;have g3:=HF7.c3;have k0:=HK6.c0;have j0:=HK7.c0;have k1:=HK6.c1;have j1:=HK7.c1;have t1:=HA6.c1;have u1:=HA7.out.c1
     go_region_held3 (fun w'=>w'.cell? ⟨cb,0,none⟩=some (.int .i64 (o:Nat))∧w'.cell? ⟨cb,1,none⟩=some (.int .i64 (la':Nat))∧w'.cell? ⟨cb,2,none⟩=some (.int .i64 (be':Nat))∧w'.cell? ⟨cb,3,none⟩=some (.int .i64 (bg':Nat))∧w'.cell? ⟨kb,0,none⟩=some (.int .i64 (z2:Nat))∧w'.cell? ⟨kb,1,none⟩=some (.int .i64 (o2:Nat))∧w'.cell? ⟨s,1,none⟩=some (.map (some b))) (go_keep) (fail)
     clear f0 g0 f1 g1 f2 g2 f3 g3 k0 j0 k1 j1 t1 u1 HK6 HF6 HA6 y6 HK7 HF7 bl7 hrun'
     go_wp2
     go_roundw
     case rel=>exact⟨k+1,by omega,by go_num,HA7.out,y7⟩
     case measure=>simp[intOf]<;>omega
    ·have HU:=Lib.hid (show upd (z,on) bit=(z+1,on) by subst hbit;unfold upd halve;simp only[if_pos rfl,Nat.zero_ne_one,if_false];first|rw[if_neg (by omega)]|simp;omega);obtain⟨z2,hz2⟩:∃ z2,z2=z+1:=⟨_,rfl⟩
     obtain⟨o2,ho2⟩:∃ o2,o2=on:=⟨_,rfl⟩
     have q1:((z:Int)+1)=((z2:Nat):Int):=by omega
     have q2:(on:Int)=((o2:Nat):Int):=by omega
     have HU2:=Lib.hid (show upd (z,on) bit=(z2,o2) by rw[HU.out,hz2,ho2]);have Q1:=Lib.hid q1;have Q2:=Lib.hid q2;clear hz2 ho2 q1 q2 HU
     go_upto_region 9 with(fail)
     rw[Q1.out,Q2.out] at HK5;clear k0 k1 k2 k3 Q1 Q2;have HK6:=HK5;have HF6:=HF5;have HA6:=HA5;have y6:=y5;clear HK5 HF5 HA5 y5;generalize w5=w6 at HK6 HF6 HA6 y6 ⊢;obtain⟨w7,hrun,hcm7,hg7⟩:=HA6.drew.cm.store hcx (by unfold maxLen;omega) (z2,o2);have hrun':(Instr.mapUpdate 168 (.map (some b)) (.agg #[.int .i64 (o:Nat),.int .i64 (la':Nat),.int .i64 (be':Nat),.int .i64 (bg':Nat)]) (.agg #[.int .i64 (z2:Nat),.int .i64 (o2:Nat)])).run Tryz.prog w6.drew=.ok () w7:=hrun;clear hrun;have HG7:=Lib.hid hg7;have bl7:Blk w7 s 170 #[.int .i64 (ord:Nat),.map (some b),.int .i64 (la:Nat),.int .i64 (be:Nat),.int .i64 (bg:Nat)]:=Blk.grown HA6.drew.blk hg7 (by simpa using Ne.symm HNE.out);have HA7:=Lib.hid (show Pm w7 s b (n+(k+1)) ord la be bg (fupd f (l.take (k+1)) bit) from⟨bl7,by rw[HT.out,HU2.out];exact hcm7⟩);have nb6:b≠cb:=HA6.cm.ne HF6;have HF7:=HF6.drew.grown hg7 (by simpa using Ne.symm nb6);have HK7:=Two.grown HK6.drew hg7 (by simpa using Ne.symm nb2);have y7:=kdn7 (kcz7 y6) hg7 (.inl rfl);clear hcm7 hg7;have f0:=HF6.c0;have g0:=HF7.c0;have f1:=HF6.c1;have g1:=HF7.c1;have f2:=HF6.c2;have g2:=HF7.c2;have f3:=HF6.c3;have g3:=HF7.c3;have k0:=HK6.c0;have j0:=HK7.c0;have k1:=HK6.c1;have j1:=HK7.c1;have t1:=HA6.c1;have u1:=HA7.out.c1
     go_region_held3 (fun w'=>w'.cell? ⟨cb,0,none⟩=some (.int .i64 (o:Nat))∧w'.cell? ⟨cb,1,none⟩=some (.int .i64 (la':Nat))∧w'.cell? ⟨cb,2,none⟩=some (.int .i64 (be':Nat))∧w'.cell? ⟨cb,3,none⟩=some (.int .i64 (bg':Nat))∧w'.cell? ⟨kb,0,none⟩=some (.int .i64 (z2:Nat))∧w'.cell? ⟨kb,1,none⟩=some (.int .i64 (o2:Nat))∧w'.cell? ⟨s,1,none⟩=some (.map (some b))) (go_keep) (fail)
     clear f0 g0 f1 g1 f2 g2 f3 g3 k0 j0 k1 j1 t1 u1 HK6 HF6 HA6 y6 HK7 HF7 bl7 hrun'
     go_wp2
     go_roundw
     case rel=>exact⟨k+1,by omega,by go_num,HA7.out,y7⟩
     case measure=>simp[intOf]<;>omega
  ·obtain rfl:k=m:=by omega
   have HT:=Lib.hid (show l.take k=l by rw[←hL,List.take_length]);have HB1:=Lib.hid ((But2.of_below y1 s b).trans (But2.of_grown YR.out s));have p0:=HPR.out.c0;have p1:=HPR.out.c1;have p2:=HPR.out.c2;have p3:=HPR.out.c3;have p4:=HPR.out.c4;have p5:=Blk.frozen HPR.out.blk 4;have q0:0≤bi:=hbi1;obtain⟨b2,hb2⟩:∃ b2,b2=2*bg+bit:=⟨_,rfl⟩
   have HB2:=Lib.hid (show 2*(bg:Int)+bi=((b2:Nat):Int) by have:=HBI.out;omega);have hb3:b2<512:=by omega
   go_upto_region 12 with(fail)
   rw[HB2.out];have HA9:=Blk.set_ HPR.out.blk 4 (.int .i64 (b2:Nat));have HM9:=HPR.out.cm.setCell (a:=⟨s,4,none⟩) HNE.out (.int .i64 (b2:Nat));have HB9:=Lib.hid (HB1.out.set_ 4 (.int .i64 (b2:Nat)));simp only[List.setIfInBounds_toArray,List.set_cons_succ,List.set_cons_zero] at HA9;rw[HT.out] at HM9;generalize wr.setCell ⟨s,4,none⟩ (.int .i64 (b2:Nat))=w9 at HA9 HM9 HB9 ⊢;clear p0 p1 p2 p3 p4 p5 HB1 HPR HB2;have p2:w9.cell? ⟨s,2,none⟩=some (.int .i64 (la:Nat)):=by simpa using Blk.cell HA9 2
   have p3:w9.cell? ⟨s,3,none⟩=some (.int .i64 (be:Nat)):=by simpa using Blk.cell HA9 3
   have p4:w9.cell? ⟨s,4,none⟩=some (.int .i64 (b2:Nat)):=by simpa using Blk.cell HA9 4
   rcases HNEW.out with⟨n1,n2,n3,n4⟩|⟨n1,n2,n3,n4⟩
   ·have HN2:=Lib.hid n2;have HN3:=Lib.hid n3;have HN4:=Lib.hid n4;have n1':¬256≤b2:=by omega
    have HB3:=Lib.hid hb2;clear n1 n2 n3 n4 hb2
    go_wp2
    go_end0
    refine⟨rfl,⟨?_,HM9⟩,HB9.out⟩;rw[HN2.out,HN3.out,HN4.out,←HB3.out];exact HA9
   ·have HN2:=Lib.hid n2;have HN3:=Lib.hid n3;have HN4:=Lib.hid n4;have n1':256≤b2:=by omega
    have HB3:=Lib.hid hb2;have f2:=Blk.frozen HA9 2;have f3:=Blk.frozen HA9 3;have f4:=Blk.frozen HA9 4;clear n1 n2 n3 n4 hb2
    go_upto_region 13 with(fail)
    go_region
    go_wp2
    go_end0
    have e32:(b2:Int) % 32=((LA:Nat):Int):=by rw[HN2.out,←HB3.out];omega
    rw[e32];have A1:=Blk.set_ (Blk.set_ (Blk.set_ HA9 2 (.int .i64 (LA:Nat))) 3 (.int .i64 (la:Nat))) 4 (.int .i64 1);simp only[List.setIfInBounds_toArray,List.set_cons_succ,List.set_cons_zero] at A1;have M1:=((HM9.setCell (a:=⟨s,2,none⟩) HNE.out (.int .i64 (LA:Nat))).setCell (a:=⟨s,3,none⟩) HNE.out (.int .i64 (la:Nat))).setCell (a:=⟨s,4,none⟩) HNE.out (.int .i64 1);refine⟨rfl,⟨?_,M1.drew⟩,(((HB9.out.set_ 2 (.int .i64 (LA:Nat))).set_ 3 (.int .i64 (la:Nat))).set_ 4 (.int .i64 1)).drew⟩;rw[HN3.out,HN4.out];exact A1
end PB
end
section
open Go.RowKit
attribute [local go_sem ↓] Go.wp_at_zero Go.wp_at_succ
namespace PB
def mf(ord:Nat)(h:List Nat)(i:Nat)(c:Ctx):Nat×Nat:=if c.1≤ord then cnts h c.1 c i else(0,0)
theorem mf_le(ord:Nat)(h:List Nat)(i:Nat)(c:Ctx):(mf ord h i c).1+(mf ord h i c).2≤254:=by
 unfold mf
 split
 ·exact cnts_le h _ c i
 ·exact Nat.zero_le _
theorem mf_zero(ord:Nat)(h:List Nat):mf ord h 0=fun _=>(0,0):=by
 funext c
 unfold mf
 split<;>rfl
theorem mf_append(ord:Nat)(h m:List Nat)(i:Nat)(hi:i≤h.length):mf ord (h++m) i=mf ord h i:=by
 funext c
 unfold mf
 split
 ·exact cnts_append h m _ c i hi
 ·rfl
theorem last_append(h m:List Nat)(k:Nat)(hk:k≤h.length):mbeg (h++m) k=mbeg h k∧mlast (h++m) k=mlast h k∧mbefore (h++m) k=mbefore h k:=by
 have e:=kiv7 h m k 2 hk;unfold ctx at e;simp only[Prod.mk.injEq,true_and] at e;obtain⟨e1,e2,e3⟩:=e;simp at e1 e2;exact⟨e3,e1,e2⟩
theorem ctxs_eq(ord:Nat)(ho:ord≤2)(h:List Nat)(i:Nat):ctxs ord (mlast h i) (mbefore h i) (mbeg h i)=(List.range (ord+1)).map (ctx h i):=by
 rcases(by omega:ord=0∨ord=1∨ord=2) with rfl|rfl|rfl<;>rfl
theorem ctx_ord(h:List Nat)(i o:Nat):(ctx h i o).1=o:=rfl
theorem fupd_map(h:List Nat)(i bit:Nat)(f:Ctx→Nat×Nat):∀ (m:Nat) (c:Ctx),fupd f ((List.range m).map (ctx h i)) bit c=if c.1<m∧ctx h i c.1=c then upd (f c) bit else f c:=by
 intro m
 induction m with
 | zero=>intro c;rw[if_neg (by omega)];rfl
 | succ m ih =>
  intro c;have e:fupd f ((List.range (m+1)).map (ctx h i)) bit=fset (fupd f ((List.range m).map (ctx h i)) bit) (ctx h i m) (upd (fupd f ((List.range m).map (ctx h i)) bit (ctx h i m)) bit):=by
   unfold fupd;rw[List.range_succ,List.map_append,List.foldl_append];rfl
  rw[e];unfold fset;rw[ih,ih];by_cases hc:c=ctx h i m
  ·rw[if_pos hc];subst hc;rw[if_neg (by rw[ctx_ord];omega),ctx_ord,if_pos ⟨by omega,rfl⟩]
  ·rw[if_neg hc];by_cases hcm:c.1<m∧ctx h i c.1=c
   ·rw[if_pos hcm,if_pos ⟨by omega,hcm.2⟩]
   ·rw[if_neg hcm,if_neg];rintro⟨h1,h2⟩;by_cases h3:c.1=m
    ·rw[h3] at h2;exact hc h2.symm
    ·exact hcm ⟨by omega,h2⟩
theorem mf_step(ord:Nat)(ho:ord≤2)(h:List Nat)(i:Nat):fupd (mf ord h i) (ctxs ord (mlast h i) (mbefore h i) (mbeg h i)) (h.getD i 0)=mf ord h (i+1):=by
 rw[ctxs_eq ord ho]
 funext c
 rw[fupd_map];unfold mf;by_cases hc:c.1≤ord
 ·rw[if_pos hc,if_pos hc,cnts];by_cases he:ctx h i c.1=c
  ·rw[if_pos ⟨by omega,he⟩,if_pos he]
  ·rw[if_neg (fun x=>he x.2),if_neg he]
 ·rw[if_neg hc,if_neg hc,if_neg (by omega)]
theorem pv_eq(ord:Nat)(ho:ord≤2)(h:List Nat)(i:Nat):pvf (mf ord h i) (ctxs ord (mlast h i) (mbefore h i) (mbeg h i))=predv h i ord:=by
 have key:∀ o,o≤ord→mf ord h i (ctx h i o)=hcnt h i o:=by
  intro o h1;unfold mf;rw[ctx_ord,if_pos h1];rfl
 rw[ctxs_eq ord ho];unfold pvf predv;have e:accf (mf ord h i) ((List.range (ord+1)).map (ctx h i)) (2048,1)=pacc2 h i (ord+1):=by
  have:∀ m,m≤ord+1→accf (mf ord h i) ((List.range m).map (ctx h i)) (2048,1)=pacc2 h i m:=by
   intro m
   induction m with
   | zero=>intro _;rfl
   | succ m ih =>
    intro hm;rw[List.range_succ,List.map_append,List.map_cons,List.map_nil,accf_snoc,ih (by omega),key m (by omega),ctx_ord];rfl
  exact this _ (Nat.le_refl _)
 rw[e]
def MSt(w:World)(s b n ord:Nat)(l:List Nat):Prop:=Pm w s b n ord (mlast l l.length) (mbefore l l.length) (mbeg l l.length) (mf ord l l.length)
structure Keep(w w':World):Prop where
 size:w.heap.size≤w'.heap.size
 blk:∀ k cs,Blk w k 170 cs→Blk w' k 170 cs
 fault:∀ k cs,Blk w k 24 cs→Blk w' k 24 cs
 mp:∀ (k:Nat) (es:Array MapEntry) (clock:Nat),w.heap[k]?=some (Obj.map es clock)→w'.heap[k]?=some (Obj.map es clock)
theorem Keep.trans{a b c:World}(h:Keep a b)(k:Keep b c):Keep a c:=⟨Nat.le_trans h.size k.size,fun i cs h1=>k.blk i cs (h.blk i cs h1),fun i cs h1=>k.fault i cs (h.fault i cs h1),fun i es cl h1=>k.mp i es cl (h.mp i es cl h1)⟩
theorem Keep.of_below{w w':World}(h:Below w.heap.size w w'):Keep w w' :=
 ⟨h.size,fun k cs h1=>h1.on h,fun k cs h1=>h1.on h,fun k es cl h1=>(h.block k (Array.getElem?_eq_some_iff.1 h1).1).trans h1⟩
theorem CM.keep{w w':World}{b n:Nat}{f:Ctx→Nat×Nat}(h:CM w b n f)(hk:Keep w w'):CM w' b n f:=by
 obtain⟨D,⟨es,clock,h1,h2⟩,r⟩:=h;exact⟨D,⟨es,clock,hk.mp _ _ _ h1,h2⟩,r⟩
theorem Pm.keep{w w':World}{s b n ord la be bg:Nat}{f:Ctx→Nat×Nat}(h:Pm w s b n ord la be bg f)(hk:Keep w w'):Pm w' s b n ord la be bg f :=
 ⟨hk.blk _ _ h.blk,h.cm.keep hk⟩
theorem mst_new{w:World}{s b ord:Nat}(h:Pm w s b 0 ord 0 0 1 (fun _=>(0,0))):MSt w s b 0 ord []:=by
 unfold MSt;rw[List.length_nil,mlast_zero,mbefore_zero,mbeg_zero,mf_zero];exact h
theorem mst_predict{w:World}{s b n ord:Nat}{l:List Nat}(h:MSt w s b n ord l)(h01:Is01 l)(ho:ord≤2)(V:Nat)(hV:V=predv l l.length ord) :
  Calls Tryz.prog 116 #[.pointer (some ⟨s,0,none⟩)] w fun e w'=>e=.returned (.int .i64 (V:Nat))∧Below w.heap.size w w' :=
 predict_any h ho (Nat.lt_of_lt_of_le (mlast_lt _ _) (by decide)) (Nat.lt_of_lt_of_le (kit7 _ _) (by decide)) (kfv7 h01 _ (Nat.le_refl _)).2 (mf_le _ _ _) V (by rw[hV,pv_eq ord ho])
theorem mst_update{w:World}{s b n ord bit:Nat}{l:List Nat}(h:MSt w s b n ord l)(h01:Is01 l)(ho:ord≤2)(hb:bit≤1)(hn:n+3<1000000)(bi:Int)(hbi:bi=(bit:Nat)) :
  Calls Tryz.prog 117 #[.pointer (some ⟨s,0,none⟩),.int .i64 bi] w fun e w'=>e=.returned (.tuple #[])∧MSt w' s b (n+(ord+1)) ord (l++[bit])∧But2 s b w w':=by
 have h01':Is01 (l++[bit]):=h01.snoc (by omega);have hlen:(l++[bit]).length=l.length+1:=by simp
 have hg:(l++[bit]).getD l.length 0=bit:=by simp
 obtain⟨a1,a2,a3⟩:=last_append l [bit] l.length (Nat.le_refl _);have af:=mf_append ord l [bit] l.length (Nat.le_refl _);have st:=mf_step ord ho (l++[bit]) l.length;rw[a1,a2,a3,af,hg] at st;refine(update_any (bit:=bit) h ho (mlast_lt _ _) (kit7 _ _) (kfv7 h01 _ (Nat.le_refl _)).2 hb (mf_le _ _ _) hn (mlast (l++[bit]) (l.length+1)) (mbefore (l++[bit]) (l.length+1)) (mbeg (l++[bit]) (l.length+1)) ?_ bi hbi).mono ?_
 ·by_cases hm:(l.length+1) % 8=0
  ·obtain⟨q1,q2,q3,q4,q5⟩:=mstep_end h01' l.length (by omega) hm;rw[a1,hg] at q2 q4;rw[a2] at q3;exact .inr ⟨q4,q2,q3,q1⟩
  ·obtain⟨q1,q2,q3,q4⟩:=mstep_in h01' l.length (by omega) hm;rw[a1,hg] at q1 q4;rw[a2] at q2;rw[a3] at q3;exact .inl ⟨q4,q2,q3,q1⟩
 ·rintro e w' ⟨rfl,hp,hb2⟩;refine⟨rfl,?_,hb2⟩;unfold MSt;rw[hlen,←st];exact hp
theorem call_func {fn:Nat}{fd:Func} (hfd:Tryz.prog.funcs[fn]?=some fd) (hfn:¬fd.name = "runtime.NumGoroutine") (hfb:¬fd.body=none) (args:Array Value) (W:World):(callFunc fn args).run Tryz.prog W=.ok (.enter fn args) W:=by
 simp[callFunc,hfd,hfn,hfb,go_sem]
theorem func_not_nil(fn:Nat)(cap:Array Value)(W:World):(binOp .eql 114 (.func (.func fn) #[] cap) .nilFunc).run Tryz.prog W=.ok (.bool false) W:=by
 kernel_rfl
theorem mdfault_any(code index:Int)(w:World) :
  Calls Tryz.prog 115 #[.int .i64 code,.int .i64 index] w fun e w'=>e=.returned (.agg #[.int .i64 code,.int .i64 index])∧Below w.heap.size w w':=by
 go_enter Tryz.func115,Tryz.ntmps115
 go_wp2
 refine bodyPost_ret (v:=.agg #[.int .i64 code,.int .i64 index]) (by simp[results,Tryz.results115,go_sem]) rfl ⟨rfl,?_⟩;exact(Below.refl _ _).alloc (Nat.le_refl _) _
theorem walk_any (w:World) (w0:Nat) (hw0:w.heap.size=w0) {ord steps:Nat} (ho:ord≤2) (hs:steps≤8192) (fn:Nat) (fd:Func) (hfd:Tryz.prog.funcs[fn]?=some fd) (hfn:¬fd.name = "runtime.NumGoroutine") (hfb:¬fd.body=none) (cap:Array Value) (Inv:List Nat→World→Prop) (Bad:List Nat→World→Prop)
  (hstep:∀ (l:List Nat) (w:World),Is01 l→l.length<steps→Inv l w→Calls Tryz.prog fn (#[.int .i64 (predv l l.length ord:Nat)]++cap) w fun e w'=>∃ v:Int,e=.returned (.int .i64 v)∧Keep w w'∧(((v=0∨v=1)∧Inv (l++[v.toNat]) w')∨(¬(v=0∨v=1)∧Bad l w')))
  (hquiet:∀ (l:List Nat) (w w':World),Inv l w→Below w.heap.size w w'→Inv l w')
  (hbad:∀ (l:List Nat) (w w':World) (s:Nat) (cs:Array Value),Blk w s 24 cs→w0≤s→But2 s s w w'→(Inv l w→Inv l w')∧(Bad l w→Bad l w'))
  (hupd:∀ (l:List Nat) (w w':World) (s b:Nat) (cs:Array Value) (es:Array MapEntry) (clock:Nat),Inv l w→Blk w s 170 cs→w.heap[b]?=some (.map es clock)→w0≤s→w0≤b→But2 s b w w'→Inv l w')
  (h0:Inv [] w) (si:Int) (hsi:si=(steps:Nat)) (oi:Int) (hoi:oi=(ord:Nat)) :
  Calls Tryz.prog 102 #[.int .i64 oi,.int .i64 si,.func (.func fn) #[] cap] w fun e w'=>∃ l,Is01 l∧((l.length=steps∧e=.returned (.agg #[.int .i64 0,.int .i64 0])∧Inv l w')∨(l.length<steps∧e=.returned (.agg #[.int .i64 6,.int .i64 (l.length:Nat)])∧Bad l w')):=by
 subst hsi hoi;have HW0:=Lib.hid hw0;clear hw0;have HS:=Lib.hid hstep;have HQ:=Lib.hid hquiet;have HB:=Lib.hid hbad;have HU:=Lib.hid hupd;have H0:=Lib.hid h0;clear hstep hquiet hbad hupd h0;have hmm:=@run_makeMap Tryz.prog;have hnn:=func_not_nil fn cap;have hcf:=call_func hfd hfn hfb
 go_enter Tryz.func102,Tryz.ntmps102
 go_upto_region 7 with(fail)
 have hM:=CM.made (w.alloc (.cells #[.int .i64 0,.int .i64 0] 24));have hR:=((Blk.new w 24 #[.int .i64 0,.int .i64 0]).alloc (.map #[] 0)).alloc (.cells #[.int .i64 (ord:Nat),.map (some (w.heap.size+1)),.int .i64 0,.int .i64 0,.int .i64 1] 170);have hP:=Blk.new ((w.alloc (.cells #[.int .i64 0,.int .i64 0] 24)).alloc (.map #[] 0)) 170 #[.int .i64 (ord:Nat),.map (some (w.heap.size+1)),.int .i64 0,.int .i64 0,.int .i64 1];have hM2:=hM.alloc (.cells #[.int .i64 (ord:Nat),.map (some (w.heap.size+1)),.int .i64 0,.int .i64 0,.int .i64 1] 170);have hY:=(((Below.refl w.heap.size w).alloc (Nat.le_refl _) (.cells #[.int .i64 0,.int .i64 0] 24)).alloc (by simp) (.map #[] 0)).alloc (by simp;omega) (.cells #[.int .i64 (ord:Nat),.map (some (w.heap.size+1)),.int .i64 0,.int .i64 0,.int .i64 1] 170);have e1:(w.alloc (.cells #[.int .i64 0,.int .i64 0] 24)).heap.size=w.heap.size+1:=by simp
 have e2:((w.alloc (.cells #[.int .i64 0,.int .i64 0] 24)).alloc (.map #[] 0)).heap.size=w.heap.size+2:=by simp
 rw[e1] at hM2;rw[e2] at hP;have hst:=mst_new ⟨hP,hM2⟩;have hI:=HQ.out _ _ _ H0.out hY
 go_upto_region 9 with(fail)
 generalize (((w.alloc (.cells #[.int .i64 0,.int .i64 0] 24)).alloc (.map #[] 0)).alloc (.cells #[.int .i64 (ord:Nat),.map (some (w.heap.size+1)),.int .i64 0,.int .i64 0,.int .i64 1] 170))=w1 at hR hst hI ⊢;have HR:=Lib.hid hR;have HST:=Lib.hid hst;have HI:=Lib.hid hI;clear hR hst hI hP hM hM2 hY e1 e2 hmm hnn
 go_loopw [35] (fun i wr=>∃ (k:Nat) (l:List Nat),k≤steps∧i=.int .i64 (k:Nat)∧l.length=k∧Is01 l∧Inv l wr∧MSt wr (w.heap.size+2) (w.heap.size+1) (k*(ord+1)) ord l∧Blk wr w.heap.size 24 #[.int .i64 0,.int .i64 0]) (fun i _=>steps-(intOf i).toNat)
 case atStart=>exact⟨0,[],by omega,rfl,rfl,Is01.nil,HI.out,by rw[Nat.zero_mul];exact HST.out,HR.out⟩
 case round =>
  obtain⟨k,l,hk,rfl,hl,h01,hI,hst,hR⟩:=hrel;have HL:=Lib.hid hl;have H01:=Lib.hid h01;have HIr:=Lib.hid hI;have HSTr:=Lib.hid hst;have HRr:=Lib.hid hR;clear hl h01 hI hst hR;have hkm:k*(ord+1)≤8192*3:=Nat.mul_le_mul (by omega) (by omega);by_cases hlt:k<steps
  ·obtain⟨V,hV⟩:∃ V,V=predv l l.length ord:=⟨_,rfl⟩
   have HPR:=Lib.hid (mst_predict HSTr.out H01.out ho V hV);have HV:=Lib.hid hV;clear hV
   go_wp2_with fail
   refine HPR.out.mono ?_;rintro e w9 ⟨rfl,y9⟩;have K9:=Keep.of_below y9;have HST9:=Lib.hid (show MSt w9 _ _ _ _ _ from HSTr.out.keep K9);have HR9:=Lib.hid (K9.fault _ _ HRr.out);have HI9:=Lib.hid (HQ.out _ _ _ HIr.out y9);clear K9 y9 HSTr HRr HIr
   go_wp2_with fail
   have hsl:=HS.out l w9 H01.out (by rw[HL.out];exact hlt) HI9.out;rw[←HV.out] at hsl;have HSL:=Lib.hid hsl;clear hsl;refine HSL.out.mono ?_;rintro e w10 ⟨v,rfl,K10,hv⟩;have HST10:=Lib.hid (show MSt w10 _ _ _ _ _ from HST9.out.keep K10);have HR10:=Lib.hid (K10.fault _ _ HR9.out);clear K10 HI9 HST9 HR9;rcases hv with⟨hv01,hI⟩|⟨hvb,hB⟩
   ·obtain⟨bt,hbt⟩:∃ bt,bt=v.toNat:=⟨_,rfl⟩
    have hbv:v=(bt:Nat):=by omega
    have hb1:bt≤1:=by omega
    rw[←hbt] at hI;have HI10:=Lib.hid hI;have HUP:=Lib.hid (mst_update HST10.out H01.out ho hb1 (by omega) v hbv);have h01b:Is01 (l++[bt]):=H01.out.snoc (by omega);have H01B:=Lib.hid h01b;have HBV:=Lib.hid hbv;clear hI hbt hbv h01b;have htest:(v != 0)=false∨((v != 0)=true∧(v != 1)=false):=by
     rcases hv01 with rfl|rfl
     ·left;rfl
     ·right;exact⟨rfl,rfl⟩
    clear hv01;rcases htest with htest|⟨htest,htest2⟩
    all_goals
     go_wp2_with fail
     refine HUP.out.mono ?_;rintro e w11 ⟨rfl,hst11,hb11⟩;obtain⟨D9,⟨es9,clock9,hmap9,-⟩,-⟩:=HST10.out.cm;have HI11:=Lib.hid (HU.out _ _ _ _ _ _ _ _ HI10.out HST10.out.blk hmap9 (by have:=HW0.out;omega) (by have:=HW0.out;omega) hb11);clear hmap9;have HR11:=Lib.hid (Blk.but2 HR10.out hb11 (by omega) (by omega));have HST11:=Lib.hid hst11;clear hst11 hb11
     go_wp2_with fail
     go_roundw
     case rel=>exact⟨k+1,l++[bt],by omega,by go_num,by rw[List.length_append,HL.out];rfl,H01B.out,HI11.out,by rw[Nat.succ_mul];exact HST11.out,HR11.out⟩
     case measure=>simp[intOf]<;>omega
   ·have hv0:(v != 0)=true:=by rw[bne_iff_ne];omega
    have hv1:(v != 1)=true:=by rw[bne_iff_ne];omega
    have HB10:=Lib.hid hB;clear hB hvb
    go_wp2_with fail
    refine(mdfault_any _ _ _).mono ?_;rintro e w11 ⟨rfl,y11⟩;have HR11:Blk w11 w.heap.size 24 #[.int .i64 0,.int .i64 0]:=HR10.out.on y11;have HY:=Lib.hid y11;clear y11;have q0:=Blk.cell HR11 0;have q1:=Blk.cell HR11 1;have q2:=Blk.frozen HR11 0;have q3:=Blk.frozen HR11 1;simp at q0 q1
    go_wp2
    have rr:=(HR11.set_ 0 (.int .i64 6)).set_ 1 (.int .i64 (k:Nat));simp only[List.setIfInBounds_toArray,List.set_cons_succ,List.set_cons_zero] at rr;have r0:=Blk.cell rr 0;have r1:=Blk.cell rr 1;simp at r0 r1;have hb:=(But2.of_below HY.out w.heap.size w.heap.size).trans (((But2.refl w.heap.size w.heap.size w11).set_ 0 (.int .i64 6)).set_ 1 (.int .i64 (k:Nat)));refine bodyPost_ret (v:=.agg #[.int .i64 6,.int .i64 (k:Nat)]) (by simp[results,Tryz.results102,go_sem,r0,r1]) rfl ?_;exact⟨l,H01.out,.inr ⟨by rw[HL.out];exact hlt,by rw[HL.out],(HB.out l _ _ _ _ HR10.out (by have:=HW0.out;omega) hb).2 HB10.out⟩⟩
  ·have hks:k=steps:=by omega
   subst hks;have q0:=Blk.cell HRr.out 0;have q1:=Blk.cell HRr.out 1;have q2:=Blk.frozen HRr.out 0;have q3:=Blk.frozen HRr.out 1;simp at q0 q1
   go_wp2
   have rr:=(HRr.out.set_ 0 (.int .i64 0)).set_ 1 (.int .i64 0);simp only[List.setIfInBounds_toArray,List.set_cons_succ,List.set_cons_zero] at rr;have r0:=Blk.cell rr 0;have r1:=Blk.cell rr 1;simp at r0 r1;have hb:=((But2.refl w.heap.size w.heap.size wr).set_ 0 (.int .i64 0)).set_ 1 (.int .i64 0);refine bodyPost_ret (v:=.agg #[.int .i64 0,.int .i64 0]) (by simp[results,Tryz.results102,go_sem,r0,r1]) rfl ?_;exact⟨l,H01.out,.inl ⟨HL.out,rfl,(HB.out l _ _ _ _ HRr.out (by have:=HW0.out;omega) hb).1 HIr.out⟩⟩
def mch(l:List Nat):List Cho:=(List.range l.length).map fun i=>⟨((l.getD i 0:Nat):Int),((predv l i 1:Nat):Int)⟩
theorem kds7(l:List Nat):(mch l).length=l.length:=by simp[mch]
theorem kix7(l:List Nat)(b:Nat):mch (l++[b])=mch l++[⟨(b:Int),((predv l l.length 1:Nat):Int)⟩]:=by
 unfold mch;rw[List.length_append,List.length_singleton,List.range_succ,List.map_append,List.map_singleton]
 congr 1
 ·refine List.map_congr_left fun i hi=>?_;rw[List.mem_range] at hi;rw[keu7 l [b] i 1 (by omega)]
  congr 2
  simp[List.getElem?_append_left hi]
 ·rw[keu7 l [b] _ 1 (Nat.le_refl _)];simp
theorem mch_all{l:List Nat}(h:Is01 l):AllCho (mch l):=by
 intro c hc;unfold mch at hc;obtain⟨i,hi,rfl⟩:=List.mem_map.1 hc;have h1:=kiu7 l i 1;have h2:=h i;refine⟨?_,?_,?_⟩<;>dsimp only<;>omega
theorem bstr_bt(l:List Nat):bstr (l.map (48+·))=bt l:=rfl
theorem clo_add{A:Option Addr}{n c gb:Nat}{L S:List Nat}{w:World}(h:Rd w A n c (bcells (pack S)))(h01:Is01 S)(hl:S.length≤131072)(hb:Bld w gb L)(hL:L.length+S.length≤1000000)(si:Int)(hsi:si=(S.length:Nat)) :
  Calls Tryz.prog 99 #[.agg #[.slice A n c,.int .i64 si],.pointer (some ⟨gb,0,none⟩)] w fun e w'=>e=.returned (.tuple #[])∧Bld w' gb (L++S)∧Below gb w w'∧Oth gb w w':=by
 subst hsi;have H01:=Lib.hid h01;have R_0:=h.alloc (.cells #[.slice A n c,.int .i64 (S.length:Nat)] 70);have B_0:=hb.alloc (.cells #[.slice A n c,.int .i64 (S.length:Nat)] 70);have Z0:=(Below.refl w.heap.size w).alloc (Nat.le_refl _) (.cells #[.slice A n c,.int .i64 (S.length:Nat)] 70);have b0:=Two.new w 70 (.slice A n c) (.int .i64 (S.length:Nat));have b0_c0:=b0.c0;have b0_c1:=b0.c1;have hlt:=hb.lt;clear h h01
 go_enter Tryz.func99,Tryz.ntmps99
 go_wp2_with fail
 refine(text_ok A n c S _ _ R_0 (Nat.le_refl _) H01.out hl).mono ?_;rintro e w1 ⟨rfl,y1⟩;rw[bstr_bt];unfold flt;have B_1:=(B_0.on y1).alloc (.cells #[.int .i64 0,.int .i64 0] 24);have z1:=Z0.trans (y1.mono Z0.size);have Z1:=z1.alloc (by have:=z1.size;omega) (.cells #[.int .i64 0,.int .i64 0] 24);have o1:Oth gb w (w1.alloc (.cells #[.int .i64 0,.int .i64 0] 24)):=fun s ob hs hne hc=>(Z1.block s (Array.getElem?_eq_some_iff.1 hs).1).trans hs
 go_wp2_with fail
 refine(bld_add B_1 hL).mono ?_;rintro e w2 ⟨rfl,hb2,y2,o2⟩
 go_wp2
 exact bodyPost_end (v:=.tuple #[]) (results_none rfl _ _ _) rfl ⟨rfl,hb2,(Z1.mono (Nat.le_of_lt hlt)).trans y2,o1.trans o2⟩
theorem bld_but2{w w':World}{gb s b:Nat}{l:List Nat}(h:Bld w gb l)(hw:But2 s b w w')(hs:∃ t cs,Blk w s t cs∧t≠145∧t≠5)(hb:(∃ es clock,w.heap[b]?=some (Obj.map es clock))∨b=s):Bld w' gb l:=by
 obtain⟨t,cs,hsb,ht1,ht2⟩:=hs;have nb:∀ (g:Nat) (u:TypeId) (vs:Array Value) (fz:Nat×Nat),w.heap[g]?=some (.cells vs u fz)→u≠t→g≠s∧g≠b:=by
  intro g u vs fz hg hu;have k1:g≠s:=by
   rintro rfl;unfold Blk at hsb;rw[hg] at hsb;injection hsb with hsb;injection hsb with _ e _;exact hu e
  refine⟨k1,?_⟩;rcases hb with⟨es,clock,hm⟩|rfl
  ·rintro rfl;rw[hg] at hm;cases hm
  ·exact k1
 have key:∀ p,Lib.BuilderAtF 145 5 gb gb p (Lib.strCells (bt l)) w→Lib.BuilderAtF 145 5 gb gb p (Lib.strCells (bt l)) w':=by
  rintro p ⟨hB,v,hbk,hown,hne⟩;have k1:=nb _ _ _ _ hbk (Ne.symm ht1);refine⟨hB,v,(hw.block _ (Array.getElem?_eq_some_iff.1 hbk).1 k1.1 k1.2).trans hbk,?_,hne⟩;rcases hown with⟨q1,hn|⟨g,cap,cur,fz,hv,hg,hh,r⟩⟩
  ·exact⟨q1,.inl hn⟩
  ·have k2:=nb g _ _ _ hh (Ne.symm ht2);exact⟨q1,.inr ⟨g,cap,cur,fz,hv,hg,(hw.block _ (Array.getElem?_eq_some_iff.1 hh).1 k2.1 k2.2).trans hh,r⟩⟩
 rcases h with h|h
 ·exact .inl (key _ h)
 ·exact .inr (key _ h)
structure SG(B gb gi gc ga gk:Nat)(w0:World)(A:Option Addr)(n c:Nat)(blk:List Nat)(iv lo hi:Int)(q:Nat)(L:List Nat)(w:World):Prop where
 kb:One w gk 22 (.slice A n c)
 ib:One w gi 3 (.int .i64 iv)
 cb:Three w gc 141 (.int .i64 lo) (.int .i64 hi) (.int .i64 (q:Nat))
 bb:Bld w gb L
 ab:One w ga 152 (.func (.func 99) #[] #[.pointer (some ⟨gb,0,none⟩)])
 rd:Reads w B A n c (bcells blk)
 bel:Below B w0 w
 ge:B≤gb∧B≤gi∧B≤gc∧B≤ga∧B≤gk
theorem bld_blk{w:World}{gb:Nat}{L:List Nat}(h:Bld w gb L):∃ p v,Blk w gb 145 #[p,v]:=by
 rcases h with⟨_,v,h,_⟩|⟨_,v,h,_⟩<;>exact⟨_,v,h⟩
section
variable {B gb gi gc ga gk:Nat}{w0 w w':World}{A:Option Addr}{n c:Nat}{blk:List Nat}{iv lo hi:Int}{q:Nat}{L:List Nat}
theorem SG.on(h:SG B gb gi gc ga gk w0 A n c blk iv lo hi q L w)(hw:Below w.heap.size w w'):SG B gb gi gc ga gk w0 A n c blk iv lo hi q L w':=by
 have hB:B≤w.heap.size:=Nat.le_trans h.ge.1 (Nat.le_of_lt h.bb.lt);exact⟨h.kb.on hw,h.ib.on hw,h.cb.on hw,h.bb.on hw,h.ab.on hw,h.rd.below (hw.mono hB),h.bel.trans (hw.mono hB),h.ge⟩
theorem SG.but2(h:SG B gb gi gc ga gk w0 A n c blk iv lo hi q L w){s b:Nat}(hw:But2 s b w w')(hs:B≤s)(hb2:B≤b)
  (hs1:∃ t cs,Blk w s t cs∧t≠145∧t≠5∧t≠22∧t≠3∧t≠141∧t≠152) (hb1:(∃ es clock,w.heap[b]?=some (Obj.map es clock))∨b=s):SG B gb gi gc ga gk w0 A n c blk iv lo hi q L w':=by
 obtain⟨t,cs,hsb,t1,t2,t3,t4,t5,t6⟩:=hs1;have hB:B≤w.heap.size:=Nat.le_trans h.ge.1 (Nat.le_of_lt h.bb.lt);have hbl:Below B w w':=hw.below hs hb2 hB;have nb:∀ (g:Nat) (u:TypeId) (vs:Array Value),Blk w g u vs→u≠t→g≠s∧g≠b:=by
  intro g u vs hg hu;have k1:=Blk.ne_ hg hsb hu;refine⟨k1,?_⟩;rcases hb1 with⟨es,clock,hm⟩|rfl
  ·rintro rfl;unfold Blk at hg;rw[hg] at hm;cases hm
  ·exact k1
 have k1:=nb _ _ _ h.kb (Ne.symm t3);have k2:=nb _ _ _ h.ib (Ne.symm t4);have k3:=nb _ _ _ h.cb (Ne.symm t5);have k4:=nb _ _ _ h.ab (Ne.symm t6);exact⟨Blk.but2 h.kb hw k1.1 k1.2,Blk.but2 h.ib hw k2.1 k2.2,Blk.but2 h.cb hw k3.1 k3.2,bld_but2 h.bb hw ⟨t,cs,hsb,t1,t2⟩ hb1,Blk.but2 h.ab hw k4.1 k4.2,h.rd.below hbl,h.bel.trans hbl,h.ge⟩
theorem SG.ne(h:SG B gb gi gc ga gk w0 A n c blk iv lo hi q L w):gk≠gi∧gk≠gc∧gi≠gc∧ga≠gi∧ga≠gc∧gi≠gb∧gc≠gb∧gk≠gb∧ga≠gb:=by
 obtain⟨p,v,hb⟩:=bld_blk h.bb;exact⟨Blk.ne_ h.kb h.ib (by decide),Blk.ne_ h.kb h.cb (by decide),Blk.ne_ h.ib h.cb (by decide),Blk.ne_ h.ab h.ib (by decide),Blk.ne_ h.ab h.cb (by decide),Blk.ne_ h.ib hb (by decide),Blk.ne_ h.cb hb (by decide),Blk.ne_ h.kb hb (by decide),Blk.ne_ h.ab hb (by decide)⟩
theorem SG.setI(h:SG B gb gi gc ga gk w0 A n c blk iv lo hi q L w)(v:Int):SG B gb gi gc ga gk w0 A n c blk v lo hi q L (w.setCell ⟨gi,0,none⟩ (.int .i64 v)):=by
 obtain⟨n1,n2,n3,n4,n5,n6,n7,n8,n9⟩:=h.ne;have hb:=(Below.refl B w).setCell (p:=⟨gi,0,none⟩) h.ge.2.1 (.int .i64 v);exact⟨One.far h.kb n1 _,h.ib.set0 _,Three.far h.cb (Ne.symm n3) _,Bld.far h.bb h.ib (by decide) n6 _ _,One.far h.ab n4 _,h.rd.below hb,h.bel.trans hb,h.ge⟩
theorem SG.setC(h:SG B gb gi gc ga gk w0 A n c blk iv lo hi q L w)(lo' hi':Int)(q':Nat) :
  SG B gb gi gc ga gk w0 A n c blk iv lo' hi' q' L (((w.setCell ⟨gc,0,none⟩ (.int .i64 lo')).setCell ⟨gc,1,none⟩ (.int .i64 hi')).setCell ⟨gc,2,none⟩ (.int .i64 (q':Nat))):=by
 obtain⟨n1,n2,n3,n4,n5,n6,n7,n8,n9⟩:=h.ne;have hb:=(((Below.refl B w).setCell (p:=⟨gc,0,none⟩) h.ge.2.2.1 (.int .i64 lo')).setCell (p:=⟨gc,1,none⟩) h.ge.2.2.1 (.int .i64 hi')).setCell (p:=⟨gc,2,none⟩) h.ge.2.2.1 (.int .i64 (q':Nat));have c1:=h.cb.set0 (.int .i64 lo');have c2:=c1.set1 (.int .i64 hi');exact⟨One.far (One.far (One.far h.kb n2 _) n2 _) n2 _,One.far (One.far (One.far h.ib n3 _) n3 _) n3 _,c2.set2 _,Bld.far (Bld.far (Bld.far h.bb h.cb (by decide) n7 _ _) c1 (by decide) n7 _ _) c2 (by decide) n7 _ _,
  One.far (One.far (One.far h.ab n5 _) n5 _) n5 _,h.rd.below hb,h.bel.trans hb,h.ge⟩
theorem SG.wrote(h:SG B gb gi gc ga gk w0 A n c blk iv lo hi q L w){L':List Nat}(hb:Bld w' gb L')(y:Below gb w w')(o:Oth gb w w'):SG B gb gi gc ga gk w0 A n c blk iv lo hi q L' w':=by
 obtain⟨n1,n2,n3,n4,n5,n6,n7,n8,n9⟩:=h.ne;have yB:=y.mono h.ge.1;exact⟨Oth.blk o h.kb (by decide) n8,Oth.blk o h.ib (by decide) n6,Oth.blk o h.cb (by decide) n7,hb,Oth.blk o h.ab (by decide) n9,h.rd.below yB,h.bel.trans yB,h.ge⟩
theorem kco7{s:Nat}{t:TypeId}{cs:Array Value}(hs:Blk w s t cs)(h1:t≠170)(h2:t≠24)(i:Nat)(u:Value):Keep w (w.setCell ⟨s,i,none⟩ u):=by
 refine⟨by simp[World.setCell],fun k ks hk=>Blk.far hk (Blk.ne_ hk hs (Ne.symm h1)) u,fun k ks hk=>Blk.far hk (Blk.ne_ hk hs (Ne.symm h2)) u,fun k es clock hk=>?_⟩;refine(Below.heap_setCell _ ⟨s,i,none⟩ _ _ ?_).trans hk;rintro rfl;unfold Blk at hs;rw[hk] at hs;cases hs
theorem keep_oth(hb:Bld w gb L)(hsz:w.heap.size≤w'.heap.size)(o:Oth gb w w'):Keep w w':=by
 obtain⟨p,v,hbk⟩:=bld_blk hb;refine⟨hsz,fun k ks hk=>Oth.blk o hk (by decide) (Blk.ne_ hk hbk (by decide)),fun k ks hk=>Oth.blk o hk (by decide) (Blk.ne_ hk hbk (by decide)),fun k es clock hk=>?_⟩;refine o k _ hk (fun e=>?_) (fun _ _ e=>by cases e);obtain rfl:=Option.some.inj e;unfold Blk at hbk;rw[hk] at hbk;cases hbk
end
theorem SG.alloc{B gb gi gc ga gk:Nat}{w0 w:World}{A:Option Addr}{n c:Nat}{blk:List Nat}{iv lo hi:Int}{q:Nat}{L:List Nat}(h:SG B gb gi gc ga gk w0 A n c blk iv lo hi q L w)(o:Obj):SG B gb gi gc ga gk w0 A n c blk iv lo hi q L (w.alloc o):=h.on ((Below.refl _ _).alloc (Nat.le_refl _) o)
theorem hfn99:¬Tryz.f99.name = "runtime.NumGoroutine":=by
 have:(Tryz.f99.name == "runtime.NumGoroutine")=false:=by kernel_rfl
 simpa using this
theorem hfb99:¬Tryz.f99.body=none:=by
 have:Tryz.f99.body.isNone=false:=by kernel_rfl
 intro h;rw[h] at this;cases this
structure SMod(B gb gi gc ga gk:Nat)(w0:World)(A:Option Addr)(n c:Nat)(blk l:List Nat)(w:World):Prop where
 sg:SG B gb gi gc ga gk w0 A n c blk (l.length:Nat) (erun (mch l) 0 65535).1 (erun (mch l) 0 65535).2.1 (sentf (erun (mch l) 0 65535).2.2 0).2 (sentf (erun (mch l) 0 65535).2.2 0).1 w
 pre:l=(allbits blk).take l.length
 len:l.length≤8*n
theorem clo_step{B gb gi gc ga gk:Nat}{w0:World}{A:Option Addr}{n c:Nat}{blk l:List Nat}{w:World}(h:SMod B gb gi gc ga gk w0 A n c blk l w)(h01:Is01 l)(hl:l.length<8*n)(hn:n≤1024)(h256:∀ k,blk.getD k 0<256)(pi:Int)(hpi:pi=(predv l l.length 1:Nat)) :
  Calls Tryz.prog 103 #[.int .i64 pi,.pointer (some ⟨gk,0,none⟩),.pointer (some ⟨gi,0,none⟩),.pointer (some ⟨gc,0,none⟩),.pointer (some ⟨ga,0,none⟩)] w fun e w'=>e=.returned (.int .i64 (bitAt blk l.length:Nat))∧Keep w w'∧SMod B gb gi gc ga gk w0 A n c blk (l++[bitAt blk l.length]) w':=by
 obtain⟨m,hm⟩:∃ m,m=l.length:=⟨_,rfl⟩
 rw[←hm] at hl hpi ⊢;obtain⟨p,hp⟩:∃ p,p=predv l m 1:=⟨_,rfl⟩
 rw[←hp] at hpi;subst hpi;have H:=Lib.hid h;have HM:=Lib.hid hm;have HP:=Lib.hid hp;have H01:=Lib.hid h01;have H256:=Lib.hid h256;obtain⟨bA,off,rfl,hbA,hcc⟩:=Reads.byte h.sg.rd (by omega);have hcell:=hcc (m / 8) (by have:=Reads.len h.sg.rd;rw[ka7] at this;omega);have hcm:=Reads.capMax h.sg.rd;have hcap:=Reads.cap h.sg.rd;unfold maxLen at hcm;have hx:=h256 (m / 8);have c0:=h.sg.kb.c0;have c1:=h.sg.ib.c0;rw[←hm] at c1;have f1:=h.sg.ib.f0;clear h hm hp h01 h256 hcc;obtain⟨x,hxx⟩:∃ x,x=blk.getD (m / 8) 0:=⟨_,rfl⟩
 rw[←hxx] at hcell hx;have HX:=Lib.hid hxx;clear hxx
 go_enter Tryz.func103,Tryz.ntmps103
 go_upto_region 1 with(fail)
 go_quiet (fail)
 rw[ker7 x (7-m % 8) hx];obtain⟨b,hb⟩:∃ b,b=x / 2 ^ (7-m % 8) % 2:=⟨_,rfl⟩
 rw[←hb];have hb1:b≤1:=by omega
 have HBB:=Lib.hid hb;clear hb;have S0:=Lib.hid H.out.sg;obtain⟨lo,hlo⟩:∃ lo,lo=(erun (mch l) 0 65535).1:=⟨_,rfl⟩
 obtain⟨hi,hhi⟩:∃ hi,hi=(erun (mch l) 0 65535).2.1:=⟨_,rfl⟩
 obtain⟨q,hq⟩:∃ q,q=(sentf (erun (mch l) 0 65535).2.2 0).2:=⟨_,rfl⟩
 obtain⟨L,hL⟩:∃ L,L=(sentf (erun (mch l) 0 65535).2.2 0).1:=⟨_,rfl⟩
 rw[←hlo,←hhi,←hq,←hL,←HM.out] at S0;have HLO:=Lib.hid hlo;have HHI:=Lib.hid hhi;have HQ:=Lib.hid hq;have HL:=Lib.hid hL;clear hlo hhi hq hL;have hbd:Below w.heap.size w (w.drewN nq):=⟨rfl,rfl,rfl,Nat.le_refl _,fun _ _=>rfl⟩
 have S1:=S0.out.on hbd;have K1:=Lib.hid (Keep.of_below hbd);obtain⟨w1,hw1⟩:∃ w1,w1=w.drewN nq:=⟨_,rfl⟩
 rw[←hw1] at S1 K1 ⊢;clear hw1 hbd c0 c1 f1 hcell S0;have c1:=S1.ib.c0;have f1:=S1.ib.f0
 go_upto_region 3 with(fail)
 have S2:=Lib.hid (S1.setI ((m:Int)+1));have K2:=Lib.hid (K1.out.trans (kco7 S1.ib (by decide) (by decide) 0 (.int .i64 ((m:Int)+1))));clear c1 f1 S1 K1;generalize w1.setCell ⟨gi,0,none⟩ (.int .i64 ((m:Int)+1))=w2 at S2 K2 ⊢;clear w1;have d0:=S2.out.cb.c0;have d1:=S2.out.cb.c1;have d2:=S2.out.cb.c2;have hcho:AllCho (mch l):=mch_all H01.out;obtain⟨hwid,hlen14,hk2⟩:=kfu7 (mch l) hcho 0 65535 wid0;have hcnt:=kbr7 (erun (mch l) 0 65535).2.2 0;rw[kds7,←HM.out] at hlen14;rw[←HQ.out,←HL.out] at hcnt;rw[←HLO.out,←HHI.out] at hwid;have hpr:=kiu7 l m 1;rw[←HP.out] at hpr;obtain⟨LO,hLO⟩:∃ LO,LO=(stp lo hi b (p:Nat)).1:=⟨_,rfl⟩
 obtain⟨HI,hHI⟩:∃ HI,HI=(stp lo hi b (p:Nat)).2.1:=⟨_,rfl⟩
 obtain⟨S3,hS3⟩:∃ S3,S3=(sentf (stp lo hi b (p:Nat)).2.2 q).1:=⟨_,rfl⟩
 obtain⟨Q3,hQ3⟩:∃ Q3,Q3=(sentf (stp lo hi b (p:Nat)).2.2 q).2:=⟨_,rfl⟩
 have hst:=kah7 b hwid (p:=(p:Nat)) (by omega) (by omega);have hc3:=kbr7 (stp lo hi b (p:Nat)).2.2 q;rw[←hS3,←hQ3] at hc3;have HPUT:=Lib.hid (fun(W:World)=>put_ok (lo:=lo) (hi:=hi) (p:=(p:Nat)) (b:=b) (q:=q) ⟨hwid,by omega,by omega⟩ (by omega) (by omega) hb1 LO HI S3 Q3 hLO hHI hS3 hQ3 (by omega) W);have hS3l:S3.length≤131072:=by omega
 have hLS:L.length+S3.length≤1000000:=by omega
 have hstp3:=hst.2.2.1;have HSTP:=Lib.hid hstp3;have HLO3:=Lib.hid hLO;have HHI3:=Lib.hid hHI;have HS3:=Lib.hid hS3;have HQ3:=Lib.hid hQ3;clear hLO hHI hS3 hQ3 hst hc3 hstp3 hcho hwid hlen14 hk2 hcnt hpr;have hcf:=call_func Tryz.func99 hfn99 hfb99
 go_wp2_with fail
 refine(HPUT.out _).mono ?_;rintro e w3 ⟨A3,n3,c3,rfl,hr3,y3⟩;have S4:=Lib.hid ((((S2.out.on y3).alloc (.cells #[.int .i64 LO,.int .i64 HI,.int .i64 (Q3:Nat)] 141)).alloc (.cells #[.slice A3 n3 c3,.int .i64 (S3.length:Nat)] 70)).alloc (.cells #[.int .i64 0,.int .i64 0] 24));have K4:=Lib.hid (K2.out.trans (Keep.of_below ((((y3.trans ((Below.refl _ _).alloc y3.size (.cells #[.int .i64 LO,.int .i64 HI,.int .i64 (Q3:Nat)] 141))).alloc (by have:=y3.size;simp;omega) (.cells #[.slice A3 n3 c3,.int .i64 (S3.length:Nat)] 70)).alloc (by have:=y3.size;simp;omega) (.cells #[.int .i64 0,.int .i64 0] 24)))));have R4:=((hr3.alloc (.cells #[.int .i64 LO,.int .i64 HI,.int .i64 (Q3:Nat)] 141)).alloc (.cells #[.slice A3 n3 c3,.int .i64 (S3.length:Nat)] 70)).alloc (.cells #[.int .i64 0,.int .i64 0] 24);have CB:=(((Three.new w3 141 (.int .i64 LO) (.int .i64 HI) (.int .i64 (Q3:Nat))).alloc (.cells #[.slice A3 n3 c3,.int .i64 (S3.length:Nat)] 70)).alloc (.cells #[.int .i64 0,.int .i64 0] 24))
 have BB:=((Two.new1 w3 (.cells #[.int .i64 LO,.int .i64 HI,.int .i64 (Q3:Nat)] 141) 70 (.slice A3 n3 c3) (.int .i64 (S3.length:Nat))).alloc (.cells #[.int .i64 0,.int .i64 0] 24))
 clear d0 d1 d2 S2 K2 y3 hr3
 go_upto_region 4 with(fail)
 generalize ((w3.alloc (.cells #[.int .i64 LO,.int .i64 HI,.int .i64 (Q3:Nat)] 141)).alloc (.cells #[.slice A3 n3 c3,.int .i64 (S3.length:Nat)] 70)).alloc (.cells #[.int .i64 0,.int .i64 0] 24)=w4 at S4 K4 R4 CB BB ⊢;have a0:=S4.out.ab.c0;have b0:=BB.c0;have b1:=BB.c1
 go_wp2_with fail
 have hS01:Is01 S3:=Is01.of_mem fun x hx=>by have:=sentf_le _ HSTP.out q x (by rw[←HS3.out];exact hx);omega
 refine(clo_add R4 hS01 hS3l S4.out.bb hLS (S3.length:Nat) rfl).mono ?_;rintro e w5 ⟨rfl,hb5,y5,o5⟩;have S5:=S4.out.wrote hb5 y5 o5;have K5:=Lib.hid (K4.out.trans (keep_oth S4.out.bb y5.size o5));have CB5:Three w5 w3.heap.size 141 (.int .i64 LO) (.int .i64 HI) (.int .i64 (Q3:Nat)):=by
  obtain⟨p,v,hbk⟩:=bld_blk S4.out.bb;exact Oth.blk o5 CB (by decide) (Blk.ne_ CB hbk (by decide))
 clear hb5 y5 o5 S4 K4 R4 CB BB a0 b0 b1 hS01;have d0:=CB5.c0;have d1:=CB5.c1;have d2:=CB5.c2;have f0:=S5.cb.f0;have f1:=S5.cb.f1;have f2:=S5.cb.f2;have g0:=S5.cb.c0;have g1:=S5.cb.c1;have g2:=S5.cb.c2
 go_upto_region 6 with(fail)
 have S6:=Lib.hid (S5.setC LO HI Q3);have K6:=Lib.hid (((K5.out.trans (kco7 S5.cb (by decide) (by decide) 0 (.int .i64 LO))).trans (kco7 (S5.cb.set0 (.int .i64 LO)) (by decide) (by decide) 1 (.int .i64 HI))).trans (kco7 ((S5.cb.set0 (.int .i64 LO)).set1 (.int .i64 HI)) (by decide) (by decide) 2 (.int .i64 (Q3:Nat))));clear d0 d1 d2 f0 f1 f2 g0 g1 g2 S5 K5 CB5;generalize ((w5.setCell ⟨gc,0,none⟩ (.int .i64 LO)).setCell ⟨gc,1,none⟩ (.int .i64 HI)).setCell ⟨gc,2,none⟩ (.int .i64 (Q3:Nat))=w6 at S6 K6 ⊢
 go_wp2
 go_ret
 have hbit:bitAt blk m=b:=by
  unfold bitAt;rw[←HX.out,←HBB.out]
 rw[hbit];have em:mch (l++[b])=mch l++[⟨(b:Int),((p:Nat):Int)⟩]:=by rw[kix7,←HM.out,←HP.out]
 have er:=erun_snoc (mch l) ⟨(b:Int),((p:Nat):Int)⟩ 0 65535;have en:Cho.n ⟨(b:Int),((p:Nat):Int)⟩=b:=by simp[Cho.n]
 rw[en] at er;dsimp only at er;rw[←HLO.out,←HHI.out,←HLO3.out,←HHI3.out] at er;have es:sentf ((erun (mch l) 0 65535).2.2++(stp lo hi b (p:Nat)).2.2) 0=(L++S3,Q3):=by
  rw[sentf_append,←HQ.out,←HL.out,←HS3.out,←HQ3.out]
 refine⟨rfl,K6.out,⟨?_,?_,?_⟩⟩
 ·rw[em,er];dsimp only;rw[es,List.length_append,List.length_singleton,←HM.out];exact S6.out
 ·rw[List.length_append,List.length_singleton,←HM.out,kdf7 blk m (by have:=Reads.len S6.out.rd;rw[ka7] at this;omega),hbit]
  congr 1
  have:=H.out.pre;rw[←HM.out] at this;exact this
 ·rw[List.length_append,List.length_singleton,←HM.out];omega
section
variable {B gb gi gc ga gk:Nat}{w0 w w':World}{A:Option Addr}{n c:Nat}{blk l:List Nat}
theorem SMod.on(h:SMod B gb gi gc ga gk w0 A n c blk l w)(hw:Below w.heap.size w w'):SMod B gb gi gc ga gk w0 A n c blk l w':=⟨h.sg.on hw,h.pre,h.len⟩
theorem SMod.but2(h:SMod B gb gi gc ga gk w0 A n c blk l w){s b:Nat}(hw:But2 s b w w')(hs:B≤s)(hb2:B≤b)
 (hs1:∃ t cs,Blk w s t cs∧t≠145∧t≠5∧t≠22∧t≠3∧t≠141∧t≠152) (hb1:(∃ es clock,w.heap[b]?=some (Obj.map es clock))∨b=s):SMod B gb gi gc ga gk w0 A n c blk l w':=⟨h.sg.but2 hw hs hb2 hs1 hb1,h.pre,h.len⟩
end
theorem walk_mod{B gb gi gc ga gk:Nat}{w0:World}{A:Option Addr}{n c:Nat}{blk:List Nat}{w:World}(h:SMod B gb gi gc ga gk w0 A n c blk [] w)(hn:n≤1024)(h256:∀ k,blk.getD k 0<256)(si:Int)(hsi:si=((8*n:Nat):Int))(hB:B≤w.heap.size) :
  Calls Tryz.prog 102 #[.int .i64 1,.int .i64 si,.func (.func 103) #[] #[.pointer (some ⟨gk,0,none⟩),.pointer (some ⟨gi,0,none⟩),.pointer (some ⟨gc,0,none⟩),.pointer (some ⟨ga,0,none⟩)]] w fun e w' =>
   e=.returned (.agg #[.int .i64 0,.int .i64 0])∧SMod B gb gi gc ga gk w0 A n c blk (allbits blk) w':=by
 refine(walk_any w w.heap.size rfl (ord:=1) (steps:=8*n) (by decide) (by omega) 103 _ Tryz.func103 (by decide +kernel) (by rw[Option.eq_none_iff_forall_ne_some];intro hh;exact hh _ rfl) #[.pointer (some ⟨gk,0,none⟩),.pointer (some ⟨gi,0,none⟩),.pointer (some ⟨gc,0,none⟩),.pointer (some ⟨ga,0,none⟩)]
  (fun l w'=>SMod B gb gi gc ga gk w0 A n c blk l w') (fun _ _=>False) ?_ ?_ ?_ ?_ h si hsi 1 rfl).mono ?_
 ·intro l w' h01 hl hI;refine(clo_step hI h01 hl hn h256 _ rfl).mono ?_;rintro e w2 ⟨rfl,hk,hI2⟩;have hb:bitAt blk l.length<2:=by unfold bitAt;exact Nat.mod_lt _ (by decide)
  exact⟨_,rfl,hk,.inl ⟨by omega,by simpa using hI2⟩⟩
 ·intro l w1 w2 hI hb;exact hI.on hb
 ·intro l w1 w2 s cs hs hsz hb;exact⟨fun hI=>hI.but2 hb (by omega) (by omega) ⟨_,_,hs,by decide,by decide,by decide,by decide,by decide,by decide⟩ (.inr rfl),fun x=>x⟩
 ·intro l w1 w2 s b cs es clock hI hs hmp hs0 hb0 hb;exact hI.but2 hb (by omega) (by omega) ⟨_,_,hs,by decide,by decide,by decide,by decide,by decide,by decide⟩ (.inl ⟨es,clock,hmp⟩)
 ·rintro e w' ⟨l,h01,⟨hl,rfl,hI⟩|⟨_,_,hf⟩⟩
  ·have hlen:blk.length=n:=by have:=Reads.len hI.sg.rd;rwa [ka7] at this
   have e1:=hI.pre;rw[List.take_of_length_le (by rw[km7];omega)] at e1;rw[←e1];exact⟨rfl,hI⟩
  ·exact hf.elim
theorem modpack_any{A A2:Option Addr}{n c n2 c2:Nat}{blk:List Nat}{w:World}(h:Rd w A n c (bcells blk))(hn:n≤1024)(h256:∀ k,blk.getD k 0<256) :
  Calls Tryz.prog 96 #[.agg #[],.slice A n c,.slice A2 n2 c2] w fun e w'=>∃ A' n' c',e=.returned (.slice A' n' c')∧Rd w' A' n' c' (bcells (pack (acode (mch (allbits blk)))))∧Below w.heap.size w w':=by
 have H:=Lib.hid h;have H256:=Lib.hid h256;clear h h256;have z0:=((Below.refl w.heap.size w).alloc (Nat.le_refl _) (.cells #[] 109)).alloc (by simp) (.cells #[.slice A n c] 22);have k0:=One.new1 w (.cells #[] 109) 22 (.slice A n c)
 go_enter Tryz.func96,Tryz.ntmps96
 go_wp2_with fail
 refine(start_any _).mono ?_;rintro e w1 ⟨rfl,y1⟩;have z1:=Lib.hid (z0.trans (y1.mono z0.size));have k1:=k0.on y1;clear z0 k0 y1
 go_upto_region 5 with(fail)
 obtain⟨w2,hw2⟩:∃ w2,w2=((((w1.alloc (.cells #[.int .i64 0,.int .i64 65535,.int .i64 0] 141)).alloc (.cells #[.pointer none,.slice none 0 0] 145)).alloc (.cells #[.func (.func 99) #[] #[.pointer (some ⟨w1.heap.size+1,0,none⟩)]] 152)).alloc (.cells #[.int .i64 0] 3)):=⟨_,rfl⟩
 have hB1:w.heap.size≤w1.heap.size:=z1.out.size;have z2:=(((z1.out.alloc hB1 (.cells #[.int .i64 0,.int .i64 65535,.int .i64 0] 141)).alloc (by simp;omega) (.cells #[.pointer none,.slice none 0 0] 145)).alloc (by simp;omega) (.cells #[.func (.func 99) #[] #[.pointer (some ⟨w1.heap.size+1,0,none⟩)]] 152)).alloc (by simp;omega) (.cells #[.int .i64 0] 3);have k2:=((((k1.alloc (.cells #[.int .i64 0,.int .i64 65535,.int .i64 0] 141)).alloc (.cells #[.pointer none,.slice none 0 0] 145)).alloc (.cells #[.func (.func 99) #[] #[.pointer (some ⟨w1.heap.size+1,0,none⟩)]] 152)).alloc (.cells #[.int .i64 0] 3))
 have c2:=(((Three.new w1 141 (.int .i64 0) (.int .i64 65535) (.int .i64 0)).alloc (.cells #[.pointer none,.slice none 0 0] 145)).alloc (.cells #[.func (.func 99) #[] #[.pointer (some ⟨w1.heap.size+1,0,none⟩)]] 152)).alloc (.cells #[.int .i64 0] 3);have b2:=((Bld.new (w1.alloc (.cells #[.int .i64 0,.int .i64 65535,.int .i64 0] 141))).alloc (.cells #[.func (.func 99) #[] #[.pointer (some ⟨w1.heap.size+1,0,none⟩)]] 152)).alloc (.cells #[.int .i64 0] 3);have a2:=(One.new2 w1 (.cells #[.int .i64 0,.int .i64 65535,.int .i64 0] 141) (.cells #[.pointer none,.slice none 0 0] 145) 152 (.func (.func 99) #[] #[.pointer (some ⟨w1.heap.size+1,0,none⟩)])).alloc (.cells #[.int .i64 0] 3);have i2:=One.new3 w1 (.cells #[.int .i64 0,.int .i64 65535,.int .i64 0] 141) (.cells #[.pointer none,.slice none 0 0] 145) (.cells #[.func (.func 99) #[] #[.pointer (some ⟨w1.heap.size+1,0,none⟩)]] 152) 3 (.int .i64 0);rw[World.size_alloc] at b2;rw[←hw2] at z2 k2 c2 b2 a2 i2 ⊢;have SM:SMod w.heap.size (w1.heap.size+1) (w1.heap.size+3) w1.heap.size (w1.heap.size+2) (w.heap.size+1) w A n c blk [] w2:=by
  refine⟨⟨k2,i2,c2,b2,a2,?_,z2,by omega,by omega,hB1,by omega,by omega⟩,rfl,Nat.zero_le _⟩;exact Reads.below H.out z2
 have SMH:=Lib.hid SM;have Z2:=Lib.hid z2;have kk:=k2.c0;obtain⟨p1,hp1⟩:∃ p1,p1=w1.heap.size:=⟨_,rfl⟩
 have hpk:w.heap.size+1<w2.heap.size:=k2.lt;have hcap:=Reads.cap H.out;rw[←hp1] at SMH ⊢;clear hw2 k2 c2 b2 a2 i2 SM z2 k1 z1 hB1 hp1
 go_wp2_with fail
 refine(walk_mod SMH.out hn H256.out _ (by push_cast;rfl) (by have:=Z2.out.size;omega)).mono ?_;rintro e w3 ⟨rfl,SM3⟩;obtain⟨X,hX⟩:∃ X,X=allbits blk:=⟨_,rfl⟩
 rw[←hX] at SM3;have HXX:=Lib.hid hX;have h01:Is01 X:=by rw[hX];exact kae7 blk
 have hXl:X.length≤8192:=by have:=SM3.len;omega
 clear hX SMH kk;have hcho:AllCho (mch X):=mch_all h01;have HA01:=Lib.hid (acode_01 hcho);have HAL:=Lib.hid (acode_le hcho (by rw[kds7];exact hXl));obtain⟨hwid,hlen14,hk2⟩:=kfu7 (mch X) hcho 0 65535 wid0;have hcnt:=kbr7 (erun (mch X) 0 65535).2.2 0;rw[kds7] at hlen14;have S3:=SM3.sg;obtain⟨lo,hlo⟩:∃ lo,lo=(erun (mch X) 0 65535).1:=⟨_,rfl⟩
 obtain⟨hi,hhi⟩:∃ hi,hi=(erun (mch X) 0 65535).2.1:=⟨_,rfl⟩
 obtain⟨q,hq⟩:∃ q,q=(sentf (erun (mch X) 0 65535).2.2 0).2:=⟨_,rfl⟩
 obtain⟨L,hL⟩:∃ L,L=(sentf (erun (mch X) 0 65535).2.2 0).1:=⟨_,rfl⟩
 obtain⟨fb,hfb⟩:∃ fb,fb=if lo<16384 then 0 else 1:=⟨_,rfl⟩
 have hcode:L++crt fb (q+1)=acode (mch X):=by unfold acode;rw[←hlo,←hq,←hL,←hfb]
 rw[←hlo,←hhi,←hq,←hL] at S3;rw[←hlo,←hhi] at hwid;rw[←hq,←hL] at hcnt;have hfb1:fb≤1:=by rw[hfb];split<;>omega
 have HC:=Lib.hid hcode;have HFIN:=Lib.hid (fun(W:World)=>finish_ok (lo:=lo) (hi:=hi) (q:=q) ⟨hwid,by omega,by omega⟩ fb hfb W);have hq1:q≤114688:=by omega
 have hL1:L.length≤114688:=by omega
 obtain⟨C,hC⟩:∃ C,C=crt fb (q+1):=⟨_,rfl⟩
 have hCl:C.length=q+2:=by rw[hC];simp[crt]
 have hC01:Is01 C:=by
  rw[hC];refine Is01.of_mem fun x hx=>?_;unfold crt at hx;rcases List.mem_cons.1 hx with rfl|hx
  ·omega
  ·have:=List.eq_of_mem_replicate hx;omega
 rw[←hC] at HC HFIN;have HC01:=Lib.hid hC01;have HCl:=Lib.hid hCl;clear hlo hhi hq hL hfb hcode hwid hcnt hlen14 hk2 hcho h01 SM3 hC hfb1 hC01 hCl;have S3H:=Lib.hid S3;have d0:=S3.cb.c0;have d1:=S3.cb.c1;have d2:=S3.cb.c2;clear S3
 go_wp2_with fail
 refine(HFIN.out _).mono ?_;rintro e w4 ⟨A4,n4,c4,rfl,hr4,y4⟩;have S4:=Lib.hid (((S3H.out.on y4).alloc (.cells #[.slice A4 n4 c4,.int .i64 (C.length:Nat)] 70)).alloc (.cells #[.int .i64 0,.int .i64 0] 24));have R4:=Lib.hid ((hr4.alloc (.cells #[.slice A4 n4 c4,.int .i64 (C.length:Nat)] 70)).alloc (.cells #[.int .i64 0,.int .i64 0] 24));have BB:=((Two.new w4 70 (.slice A4 n4 c4) (.int .i64 (C.length:Nat))).alloc (.cells #[.int .i64 0,.int .i64 0] 24))
 clear d0 d1 d2 S3H y4 hr4
 go_upto_region 7 with(fail)
 generalize (w4.alloc (.cells #[.slice A4 n4 c4,.int .i64 (C.length:Nat)] 70)).alloc (.cells #[.int .i64 0,.int .i64 0] 24)=w5 at S4 R4 BB ⊢;have a0:=S4.out.ab.c0;have b0:=BB.c0;have b1:=BB.c1;have hcf:=call_func Tryz.func99 hfn99 hfb99
 go_wp2_with fail
 refine(clo_add R4.out HC01.out (by rw[HCl.out];omega) S4.out.bb (by rw[HCl.out];omega) (C.length:Nat) rfl).mono ?_;rintro e w6 ⟨rfl,hb6,y6,o6⟩;have S6:=S4.out.wrote hb6 y6 o6;rw[HC.out] at S6;clear hb6 y6 o6 S4 R4 BB a0 b0 b1;have Z6:=Lib.hid S6.bel;have B6:=Lib.hid S6.bb;have G6:=Lib.hid S6.ge;clear S6
 go_wp2_with fail
 refine(bld_str B6.out).mono ?_;rintro e w7 ⟨rfl,y7⟩;have Z7:=Lib.hid (Z6.out.trans (y7.mono G6.out.1));clear y7 Z6 B6
 go_wp2_with fail
 refine(make_bt (acode (mch X)) HA01.out (by have:=HAL.out;omega) _).mono ?_;rintro e w8 ⟨A8,n8,c8,rfl,ho8,y8⟩;have z8:=Z7.out.trans (y8.mono Z7.out.size);have Z8:=Lib.hid ((z8.alloc (by have:=z8.size;omega) (.cells #[.slice A8 n8 c8,.int .i64 ((acode (mch X)).length:Nat)] 70)).alloc (by have:=z8.size;simp;omega) (.cells #[.int .i64 0,.int .i64 0] 24));have R8:=Lib.hid (((Rd.own ho8).alloc (.cells #[.slice A8 n8 c8,.int .i64 ((acode (mch X)).length:Nat)] 70)).alloc (.cells #[.int .i64 0,.int .i64 0] 24));have BB:=((Two.new w8 70 (.slice A8 n8 c8) (.int .i64 ((acode (mch X)).length:Nat))).alloc (.cells #[.int .i64 0,.int .i64 0] 24))
 have b0:=BB.c0;have b1:=BB.c1;clear z8 y8 ho8 Z7
 go_wp2
 go_ret
 refine⟨A8,n8,c8,rfl,?_,Z8.out⟩;rw[←HXX.out];exact R8.out
end PB
end
section
open Go.RowKit
attribute [local go_sem ↓] Go.wp_at_zero Go.wp_at_succ
namespace PB
theorem kec7(w:World):Calls Tryz.prog 36 #[] w fun e w'=>∃ g,e=.returned (.slice (some ⟨g,0,none⟩) 2 2)∧Blk w' g 67 #[.iface 109 (.agg #[]),.iface 110 (.agg #[])]∧w.heap.size≤g∧Below w.heap.size w w':=by
 go_enter Tryz.func36,Tryz.ntmps36
 go_wp2
 go_ret
 exact⟨w.heap.size,rfl,Blk.new w _ _,Nat.le_refl _,(Below.refl _ _).alloc (Nat.le_refl _) _⟩
def fr1(blk:List Nat):List Nat:=[1,blk.length % 256,blk.length / 256]++pack (acode (mch (allbits blk)))
def fr2(blk:List Nat)(ts:List Tok):List Nat:=[2,blk.length % 256,blk.length / 256]++pack (codeOf ts)
def pk1(blk:List Nat):List Nat:=if (fr1 blk).length<(0::blk).length then fr1 blk else 0::blk
def pk2(blk:List Nat)(ts:List Tok):List Nat:=if (fr2 blk ts).length<(pk1 blk).length then fr2 blk ts else pk1 blk
theorem rd_lit(w:World){g:Nat}(hg:g=w.heap.size)(t:TypeId)(l:List Nat)(k:Nat)(hk:l.length=k)(hm:k≤1000):Rd (w.alloc (.cells (bcells l).toArray t)) (some ⟨g,0,none⟩) k k (bcells l):=by
 subst hg;refine⟨by rw[ka7];exact hk,Nat.le_refl _,by unfold maxLen;omega,fun _=>⟨w.heap.size,0,rfl,by simp,fun j x hx=>?_⟩⟩;have:=Blk.cell (Blk.new w t (bcells l).toArray) j;rw[Nat.zero_add,this,List.getElem?_toArray];exact hx
theorem rd_form(w:World)(k n:Nat):Rd (w.alloc (.cells #[.int .u8 (k:Nat),.int .u8 ((n:Int) % 256),.int .u8 ((n:Int) / 256)] 5)) (some ⟨w.heap.size,0,none⟩) 3 3 (bcells [k,n % 256,n / 256]):=rd_lit w rfl 5 [k,n % 256,n / 256] 3 rfl (by decide)
theorem fr1_len(blk:List Nat)(h:blk.length≤1024):(pack (acode (mch (allbits blk)))).length≤20000:=by
 have a:=acode_le (cs:=mch (allbits blk)) (mch_all (kae7 blk)) (by rw[kds7,km7];omega);rw[kd7];omega
theorem fr2_len{blk dict:List Nat}{ts:List Tok}(h:PTok blk dict ts)(h1:blk.length≤1024)(h2:dict.length≤512):(pack (codeOf ts)).length≤20000:=by
 obtain⟨ok1,ok2,-⟩:=h.ok h1 h2;rw[kd7,kgv7 _ (AllTok.of _ ok1)];have:=h.cost_le h1 h2;omega
def Stg(blk dict:List Nat)(k:Nat)(bl:List Nat):Prop:=match k with
 | 0=>bl=0::blk
 | 1=>bl=pk1 blk
 | _=>∃ ts,PTok blk dict ts∧bl=pk2 blk ts
theorem pack_any{A:Option Addr}{n c:Nat}{blk:List Nat}{A2:Option Addr}{n2 c2:Nat}{dict:List Nat}{w:World}(h:Rd w A n c (bcells blk))(h2:Rd w A2 n2 c2 (bcells dict))(hn:n≤1024)(hn2:n2≤512)(hd:∀ k,blk.getD k 0<256)(hd2:∀ k,dict.getD k 0<256) :
  Calls Tryz.prog 20 #[.slice A n c,.slice A2 n2 c2] w fun e w'=>∃ A' n' c' ts,e=.returned (.slice A' n' c')∧PTok blk dict ts∧w'.ownsRow w.heap.size 5 1 (.slice A' n' c') n' (bcells (pk2 blk ts))∧Below w.heap.size w w':=by
 have e1:=h.len;rw[ka7] at e1;have E1:=Lib.hid e1;have H:=Lib.hid h;have H2:=Lib.hid h2;have HD:=Lib.hid hd;have HD2:=Lib.hid hd2;clear h h2 hd hd2 e1
 go_enter Tryz.func20,Tryz.ntmps20
 go_wp2_with fail
 have R0:=H.out.alloc (.cells #[.int .u8 (0:Nat)] 5);have L0:Rd (w.alloc (.cells #[.int .u8 (0:Nat)] 5)) (some ⟨w.heap.size,0,none⟩) 1 1 (bcells [0]):=rd_lit w rfl 5 [0] 1 rfl (by decide);refine(kfp7 22 L0 R0 (by omega) (w.heap.size+1) (by simp)).mono ?_;rintro e w1 ⟨A1,c1,rfl,ho1,y1⟩;have z1:=((Below.refl w.heap.size w).alloc (Nat.le_refl _) (.cells #[.int .u8 (0:Nat)] 5)).trans (y1.mono (by simp));have o1:=Lib.hid (kav7 ho1 (by simp:w.heap.size≤_));have Z1:=Lib.hid z1;clear ho1 y1 z1 L0 R0
 go_wp2_with fail
 refine(kec7 _).mono ?_;rintro e w2 ⟨g,rfl,hb,hg,y2⟩;have O2:=Lib.hid (kbv7 o1.out y2);have Z2:=Lib.hid (Z1.out.trans (y2.mono Z1.out.size));have HB2:=Lib.hid hb;clear hb y2 o1;have hb1:(blk.length:Nat)=n:=E1.out;have hmet:Stg blk dict 0 ([0]++blk):=rfl;have HMET:=Lib.hid hmet;have HLEN:=Lib.hid (show 1+n=([0]++blk).length by rw[List.length_append,E1.out];rfl);clear hb1 hmet
 go_wp2_with fail
 go_loopw [5,16] (fun s i wr=>∃ k:Nat,k≤2∧i=.int .i64 (k:Nat)∧Below w.heap.size w wr∧Blk wr g 67 #[.iface 109 (.agg #[]),.iface 110 (.agg #[])]∧∃ A' m c' bl,s=.slice A' m c'∧m=bl.length∧Stg blk dict k bl∧wr.ownsRow w.heap.size 5 1 (.slice A' m c') m (bcells bl)) (fun _ i _=>2-(intOf i).toNat)
 case atStart=>exact⟨0,Nat.zero_le _,rfl,Z2.out,HB2.out,A1,1+n,c1,_,rfl,HLEN.out,HMET.out,O2.out⟩
 case round =>
  obtain⟨k,hk,rfl,yr,hbk,A',m,c',bl,rfl,hm,hst,ho⟩:=hrel;have HO:=Lib.hid ho;have HST:=Lib.hid hst;have HM:=Lib.hid hm;have YR:=Lib.hid yr;have HBK:=Lib.hid hbk;clear ho hst hm yr HMET HLEN O2 HB2 Z2;have hmc:=Reads.capMax (Rd.own HO.out);rcases(by omega:k=0∨k=1∨k=2) with rfl|rfl|rfl
  ·have m0:wr.cell? ⟨g,0,none⟩=some (.iface 109 (.agg #[])):=Blk.cell hbk 0
   go_wp2_with fail
   have RB:=H.out.on YR.out;have SB:=H2.out.on YR.out;have hal:Below w.heap.size w (wr.alloc (.cells #[.int .u8 1,.int .u8 ((n:Int) % 256),.int .u8 ((n:Int) / 256)] 5)):=YR.out.alloc YR.out.size _;have oa:=kbv7 HO.out ((Below.refl wr.heap.size wr).alloc (Nat.le_refl _) (.cells #[.int .u8 1,.int .u8 ((n:Int) % 256),.int .u8 ((n:Int) / 256)] 5));have ba:=HBK.out.alloc (.cells #[.int .u8 1,.int .u8 ((n:Int) % 256),.int .u8 ((n:Int) / 256)] 5);refine(modpack_any (A2:=A2) (n2:=n2) (c2:=c2) (RB.alloc _) hn HD.out).mono ?_;rintro e w3 ⟨A3,m3,c3,rfl,R3,y3⟩;have L3:=(rd_form wr 1 n).on y3;have O3:=Lib.hid (kbv7 oa y3);have B3:=Lib.hid (ba.on y3);have z3:=hal.trans (y3.mono hal.size);have e3:=R3.len;rw[ka7] at e3;have E3:=Lib.hid e3;have M3:=Lib.hid (show m3≤20000 by rw[←e3];exact fr1_len blk (by rw[E1.out];exact hn));have m3b:=M3.out;have STN:=Lib.hid (show(3+m3<m→3+m3=(fr1 blk).length∧Stg blk dict 1 (fr1 blk))∧(¬3+m3<m→Stg blk dict 1 bl) from by
    have h0:bl=0::blk:=HST.out;have h1:(fr1 blk).length=3+m3:=by unfold fr1;rw[List.length_append,e3];rfl
    have h2:=HM.out;rw[h0] at h2;refine⟨fun hh=>⟨h1.symm,?_⟩,fun hh=>?_⟩
    ·show fr1 blk=pk1 blk;unfold pk1;rw[if_pos (by omega)]
    ·show bl=pk1 blk;unfold pk1;rw[if_neg (by omega),h0])
   have N3:=Lib.hid (show [1,n % 256,n / 256]++pack (acode (mch (allbits blk)))=fr1 blk by unfold fr1;rw[E1.out]);clear hal oa ba RB SB y3 hbk m0 HO HBK YR e3
   go_wp2_with fail
   refine(kfp7 22 L3 R3 (by omega) w3.heap.size rfl).mono ?_;rintro e w4 ⟨A4,c4,rfl,ho4,y4⟩;have z4:=Lib.hid (z3.trans (y4.mono z3.size));have O4:=Lib.hid (kav7 ho4 z3.size);have P4:=Lib.hid (kbv7 O3.out y4);have B4:=Lib.hid (B3.out.on y4);clear ho4 y4 z3 L3 R3 O3 B3;by_cases hlt:3+m3<m
   ·have hz:(3:Int)+(m3:Int)<(m:Int):=by omega
    go_wp2_with fail
    go_roundw
    case rel=>exact⟨1,by omega,by go_num,z4.out,B4.out,A4,3+m3,c4,_,rfl,(STN.out.1 hlt).1,(STN.out.1 hlt).2,N3.out ▸ O4.out⟩
    case measure=>simp[intOf]
   ·have hz:¬(3:Int)+(m3:Int)<(m:Int):=by omega
    go_wp2_with fail
    go_roundw
    case rel=>exact⟨1,by omega,by go_num,z4.out,B4.out,A',m,c',_,rfl,HM.out,STN.out.2 hlt,P4.out⟩
    case measure=>simp[intOf]
  ·have m0:wr.cell? ⟨g,1,none⟩=some (.iface 110 (.agg #[])):=Blk.cell hbk 1
   go_wp2_with fail
   have RB:=H.out.on YR.out;have SB:=H2.out.on YR.out;have hal:Below w.heap.size w (wr.alloc (.cells #[.int .u8 2,.int .u8 ((n:Int) % 256),.int .u8 ((n:Int) / 256)] 5)):=YR.out.alloc YR.out.size _;have oa:=kbv7 HO.out ((Below.refl wr.heap.size wr).alloc (Nat.le_refl _) (.cells #[.int .u8 2,.int .u8 ((n:Int) % 256),.int .u8 ((n:Int) / 256)] 5));have ba:=HBK.out.alloc (.cells #[.int .u8 2,.int .u8 ((n:Int) % 256),.int .u8 ((n:Int) / 256)] 5);refine(mpack_any (RB.alloc _) (SB.alloc _) hn hn2 HD.out HD2.out).mono ?_;rintro e w3 ⟨A3,m3,c3,ts,rfl,hT,R3,y3⟩;have L3:=(rd_form wr 2 n).on y3;have O3:=Lib.hid (kbv7 oa y3);have B3:=Lib.hid (ba.on y3);have z3:=hal.trans (y3.mono hal.size);have e3:=R3.len;rw[ka7] at e3;have E3:=Lib.hid e3;have HT:=Lib.hid hT;have hdl2:dict.length≤512:=by
    have:=H2.out.len;rw[ka7] at this;omega
   have M3:=Lib.hid (show m3≤20000 by rw[←e3];exact fr2_len hT (by rw[E1.out];exact hn) hdl2);have m3b:=M3.out;have STN:=Lib.hid (show(3+m3<m→3+m3=(fr2 blk ts).length∧Stg blk dict 2 (fr2 blk ts))∧(¬3+m3<m→Stg blk dict 2 bl) from by
    have h0:bl=pk1 blk:=HST.out;have h1:(fr2 blk ts).length=3+m3:=by unfold fr2;rw[List.length_append,e3];rfl
    have h2:=HM.out;rw[h0] at h2;refine⟨fun hh=>⟨h1.symm,ts,hT,?_⟩,fun hh=>⟨ts,hT,?_⟩⟩
    ·unfold pk2;rw[if_pos (by omega)]
    ·unfold pk2;rw[if_neg (by omega),h0])
   have N3:=Lib.hid (show [2,n % 256,n / 256]++pack (codeOf ts)=fr2 blk ts by unfold fr2;rw[E1.out]);clear hT hdl2;clear hal oa ba RB SB y3 hbk m0 HO HBK YR e3
   go_wp2_with fail
   refine(kfp7 22 L3 R3 (by omega) w3.heap.size rfl).mono ?_;rintro e w4 ⟨A4,c4,rfl,ho4,y4⟩;have z4:=Lib.hid (z3.trans (y4.mono z3.size));have O4:=Lib.hid (kav7 ho4 z3.size);have P4:=Lib.hid (kbv7 O3.out y4);have B4:=Lib.hid (B3.out.on y4);clear ho4 y4 z3 L3 R3 O3 B3;by_cases hlt:3+m3<m
   ·have hz:(3:Int)+(m3:Int)<(m:Int):=by omega
    go_wp2_with fail
    go_roundw
    case rel=>exact⟨2,by omega,by go_num,z4.out,B4.out,A4,3+m3,c4,_,rfl,(STN.out.1 hlt).1,(STN.out.1 hlt).2,N3.out ▸ O4.out⟩
    case measure=>simp[intOf]
   ·have hz:¬(3:Int)+(m3:Int)<(m:Int):=by omega
    go_wp2_with fail
    go_roundw
    case rel=>exact⟨2,by omega,by go_num,z4.out,B4.out,A',m,c',_,rfl,HM.out,STN.out.2 hlt,P4.out⟩
    case measure=>simp[intOf]
  ·obtain⟨ts,hT,rfl⟩:=HST.out;have HT:=Lib.hid hT;clear hT HST
   go_wp2_with fail
   go_ret
   exact⟨A',m,c',ts,rfl,HT.out,HO.out,YR.out⟩
theorem NOk.ok{l:List Nat}(h01:Is01 l){p mis:Nat}{t:Tok}{e:Nat}(h:NOk l p mis t e)(hm:mis≤1024):t.ok:=by
 rcases h with⟨h1,h2,h3,rfl,rfl⟩|⟨h1,h2,d,e1,n,hg,hd,hg2,hn,rfl⟩
 ·exact .inl ⟨rfl,rfl⟩
 ·have a:=gat_pos h01 hg;have b:=gat_pos h01 hg2;exact .inr ⟨rfl,by show(1:Int)≤((d:Nat):Int);omega,by show((d:Nat):Int)≤1536;omega,by show(3:Int)≤((n+2:Nat):Int);omega,by show((n+2:Nat):Int)≤1024;omega⟩
theorem Dec.facts{l:List Nat}(h01:Is01 l){p cnt c i:Nat}{ts:List Tok}{en:Nat}(h:Dec l p cnt c i ts en):cnt≤1024→p≤l.length→(∀ t∈ts,t.ok∧t.lit<256)∧ts.length≤cnt∧en≤l.length∧(c=0→(ts.map tlen).sum=cnt):=by
 induction h with
 | nil p=>exact fun _ hp=>⟨by simp,by simp,hp,fun _=>rfl⟩
 | bad p cnt c h1 h2 =>
  intro _ hp;refine⟨by simp,by simp,by omega,fun hc=>?_⟩;subst hc;rcases h2 with⟨_,h⟩|⟨_,_,_,h⟩|⟨_,_,⟨cd,_,h,rfl⟩|⟨_,_,_,_,h⟩|⟨_,_,cd,_,_,_,h,rfl⟩|⟨_,_,_,_,_,_,_,_,h⟩⟩
  ·cases h
  ·cases h
  ·exact absurd rfl h
  ·cases h
  ·exact absurd rfl h
  ·cases h
 | cons p cnt t e c i ts en h1 h2 h3 ih =>
  intro hc hp;have ok:=h2.ok h01 hc;obtain⟨a1,a2,a3,a4,a5⟩:=h2.facts h01 (by omega);obtain⟨b1,b2,b3,b4⟩:=ih (by omega) a1;refine⟨fun x hx=>?_,by simp;omega,b3,fun hh=>by simp only[List.map_cons,List.sum_cons];rw[b4 hh];omega⟩;rcases List.mem_cons.1 hx with rfl|hx
  ·exact⟨ok,a5⟩
  ·exact b1 x hx
theorem kiy7{d:List Nat}(hd:∀ k,d.getD k 0<256):pack (allbits d)=d:=pack_bitsOf d (8*d.length) hd (by omega) (fun i h1 h2=>by omega)
theorem lzdec_b{A:Option Addr}{n c:Nat}{p:List Nat}{count cd ix en:Nat}{ts:List Tok}{w:World}(h:Rd w A n c (bcells p))(hp:pack (allbits p)=p)(hL:(allbits p).length=8*n)(hn:n≤16384)(hc:count≤1024)(hD:Dec (allbits p) 0 count cd ix ts en)(e2 i2:Nat)(he2:e2=if cd=0 then en else 0)(hi2:i2=if cd=0 then 0 else ix)(t2:List Tok)(ht2:t2=if cd=0 then ts else []) :
  Calls Tryz.prog 147 #[.agg #[.slice A n c,.int .i64 (8*(n:Int))],.int .i64 (count:Nat)] w fun e w'=>∃ A' m' c',e=.returned (.tuple #[.slice A' m' c',.int .i64 (e2:Nat),.agg #[.int .i64 (cd:Nat),.int .i64 (i2:Nat)]])∧RdT w' A' m' c' t2∧Below w.heap.size w w':=by
 subst he2 hi2 ht2;have h':Rd w A n c (bcells (pack (allbits p))):=by rw[hp];exact h
 have:=lzdec_ok h' (kae7 p) (by omega) hc hD;rw[hL,show((8*n:Nat):Int)=8*(n:Int) by omega] at this;refine this.mono ?_;rintro e w' ⟨A',m,c',rfl,ho,hb⟩;exact⟨A',m,c',rfl,RdT.own ho,hb⟩
theorem rd_b{A:Option Addr}{n c:Nat}{p:List Nat}{f:Nat}{w:World}(h:Rd w A n c (bcells p))(hp:pack (allbits p)=p)(hL:(allbits p).length=8*n)(hn:n≤16384)(hf:f≤8*n)(hm:8*n≤f+7)(v:Nat)(hv:v=num ((allbits p).drop f)) :
  Calls Tryz.prog 148 #[.agg #[.slice A n c,.int .i64 (8*(n:Int))],.int .i64 (f:Nat),.int .i64 (8*(n:Int)-(f:Nat))] w fun e w'=>e=.returned (.tuple #[.int .i64 (v:Nat),.agg #[.int .i64 0,.int .i64 0]])∧Below w.heap.size w w':=by
 have h':Rd w A n c (bcells (pack (allbits p))):=by rw[hp];exact h
 have:=rd_ok (f:=f) (m:=8*n-f) (fi:=(f:Nat)) (mi:=8*(n:Int)-(f:Nat)) h' (kae7 p) (by omega) (by omega) (by omega) rfl (by omega) v (by rw[hv,List.take_of_length_le (by rw[List.length_drop];omega)]);rw[hL,show((8*n:Nat):Int)=8*(n:Int) by omega] at this;exact this
theorem Rd.farTwo{w:World}{A:Option Addr}{n c s:Nat}{t:TypeId}{D:List Nat}{a b:Int}(h:Rd w A n c (bcells D))(hF:Two w s t (.int .i64 a) (.int .i64 b))(u0 u1:Value):Rd ((w.setCell ⟨s,0,none⟩ u0).setCell ⟨s,1,none⟩ u1) A n c (bcells D):=by
 obtain⟨h1,h2,h3,h4⟩:=h;refine⟨h1,h2,h3,fun hn=>?_⟩;obtain⟨g,off,e,hb,hc⟩:=h4 hn;have hne:g≠s:=by
  rintro rfl;rw[ka7] at h1;have hx:(bcells D)[0]?=some (.int .u8 (D[0]'(by omega):Nat)):=by
   unfold bcells;rw[List.getElem?_map,List.getElem?_eq_getElem (by omega)];rfl
  have:=hc 0 _ hx;rw[Blk.cell hF] at this;rcases(by omega:off+0=0∨off+0=1∨2≤off+0) with h0|h0|h0
  ·rw[h0] at this;simp at this
  ·rw[h0] at this;simp at this
  ·rw[Array.getElem?_eq_none (by simpa using h0)] at this;cases this
 refine⟨g,off,e,by simpa [World.setCell] using hb,fun j u hu=>?_⟩;rw[World.cell?_setCell_other _ _ _ _ (fun e=>by injection e with e;omega),World.cell?_setCell_other _ _ _ _ (fun e=>by injection e with e;omega)];exact hc j u hu
def MUnp(p dict:List Nat)(n:Nat)(D:List Nat)(ok:Bool):Prop :=
 ∃ cd ix ts en,Dec (allbits p) 0 n cd ix ts en ∧
  ((¬(cd=0∧(en+7) / 8=p.length∧num ((allbits p).drop en)=0)∧D=[]∧ok=false) ∨
   ((cd=0∧(en+7) / 8=p.length∧num ((allbits p).drop en)=0)∧D=(if (expf dict.length ts 0 dict).1=0 then(expf dict.length ts 0 dict).2.2.drop dict.length else [])∧ok=decide ((expf dict.length ts 0 dict).1=0)))
theorem munpack_any{A:Option Addr}{n c N:Nat}{p:List Nat}{A2:Option Addr}{n2 c2:Nat}{dict:List Nat}{w:World}(h:Rd w A n c (bcells p))(h2:Rd w A2 n2 c2 (bcells dict))(hn:n≤16384)(hn2:n2≤512)(hN:N≤1024)(hd:∀ k,p.getD k 0<256) :
  Calls Tryz.prog 144 #[.agg #[],.slice A n c,.slice A2 n2 c2,.int .i64 (N:Nat)] w fun e w'=>∃ A' m' c' D ok,e=.returned (.tuple #[.slice A' m' c',.bool ok])∧MUnp p dict N D ok∧Rd w' A' m' c' (bcells D)∧Below w.heap.size w w':=by
 have e1:=h.len;have e2:=h2.len;rw[ka7] at e1 e2;have h01:=kae7 p;obtain⟨cd,ix,ts,en,hD⟩:=dec_ex h01 N 0 (Nat.zero_le _);obtain⟨f1,f2,f3,f4⟩:=Dec.facts h01 hD hN (Nat.zero_le _);have hL:(allbits p).length=8*n:=by rw[km7,e1]
 have E1:=Lib.hid e1;have E2:=Lib.hid e2;have H01:=Lib.hid h01;have HD:=Lib.hid hD;have HF:=Lib.hid f1;have HL:=Lib.hid hL;have HP:=Lib.hid (kiy7 hd);rw[hL] at f3;have R0:=h.alloc (.cells #[] 110);have S0:=h2.alloc (.cells #[] 110);have Z0:=(Below.refl w.heap.size w).alloc (Nat.le_refl _) (.cells #[] 110);have hcap:=h.2.1;have hcm:=h.2.2.1;unfold maxLen at hcm;clear h h2 hd e1 e2 h01 hD f1 f4 hL
 go_enter Tryz.func144,Tryz.ntmps144
 go_wp2_with fail
 have R1:=R0.alloc (.cells #[.slice A n c,.int .i64 (8*(n:Int))] 70);have S1:=S0.alloc (.cells #[.slice A n c,.int .i64 (8*(n:Int))] 70);have B1:=Two.new1 w (.cells #[] 110) 70 (.slice A n c) (.int .i64 (8*(n:Int)));have Z1:=Z0.alloc Z0.size (.cells #[.slice A n c,.int .i64 (8*(n:Int))] 70);obtain⟨e2,he2⟩:∃ e2,e2=if cd=0 then en else 0:=⟨_,rfl⟩
 obtain⟨i2,hi2⟩:∃ i2,i2=if cd=0 then 0 else ix:=⟨_,rfl⟩
 obtain⟨t2,ht2⟩:∃ t2,t2=if cd=0 then ts else []:=⟨_,rfl⟩
 refine(lzdec_b R1 HP.out HL.out hn hN HD.out e2 i2 he2 hi2 t2 ht2).mono ?_;rintro e w1 ⟨A3,m3,c3,rfl,T1,y1⟩;have R_2:=(R1.on y1).alloc (.cells #[.int .i64 (cd:Nat),.int .i64 (i2:Nat)] 24);have S_2:=(S1.on y1).alloc (.cells #[.int .i64 (cd:Nat),.int .i64 (i2:Nat)] 24);have B_2:=(B1.on y1).alloc (.cells #[.int .i64 (cd:Nat),.int .i64 (i2:Nat)] 24);have T_2:=T1.alloc (.cells #[.int .i64 (cd:Nat),.int .i64 (i2:Nat)] 24);have F_2:=Two.new w1 24 (.int .i64 (cd:Nat)) (.int .i64 (i2:Nat));have z1:=Z1.trans (y1.mono Z1.size);have Z2:=z1.alloc z1.size (.cells #[.int .i64 (cd:Nat),.int .i64 (i2:Nat)] 24);have B_2_c0:=B_2.c0;have B_2_c1:=B_2.c1;have F_2_c0:=F_2.c0;have F_2_c1:=F_2.c1;have hw1:w.heap.size≤w1.heap.size:=z1.size;clear R1 S1 B1 Z1 R0 S0 Z0 z1 y1 T1;have H2:=Lib.hid (And.intro R_2 (And.intro S_2 T_2));clear R_2 S_2 T_2;by_cases hc:cd=0
 ·subst hc;rw[if_pos rfl] at he2 hi2 ht2;subst he2 hi2 ht2;have z0:((0:Nat):Int)=0:=rfl;simp only[z0] at F_2_c0 F_2_c1 B_2_c0 B_2_c1;by_cases h7:(e2+7) / 8=n
  ·have h7z:((e2:Int)+7) / 8=(n:Int):=by omega
   go_wp2_with fail
   obtain⟨v,hv⟩:∃ v,v=num ((allbits p).drop e2):=⟨_,rfl⟩
   refine(rd_b H2.out.1 HP.out HL.out hn f3 (by omega) v hv).mono ?_;rintro e w3 ⟨rfl,y3⟩;obtain⟨R2,S2,T2⟩:=H2.out;have H3:=Lib.hid (And.intro ((S2.on y3).alloc (.cells #[.int .i64 0,.int .i64 0] 24)) ((T2.on y3).alloc (.cells #[.int .i64 0,.int .i64 0] 24)));have B_3:=(B_2.on y3).alloc (.cells #[.int .i64 0,.int .i64 0] 24);have F_3:=(F_2.on y3).alloc (.cells #[.int .i64 0,.int .i64 0] 24);have G_3:=Two.new w3 24 (.int .i64 0) (.int .i64 0);have z3:=Z2.trans (y3.mono Z2.size);have Z3:=z3.alloc z3.size (.cells #[.int .i64 0,.int .i64 0] 24);have B_3_c0:=B_3.c0;have B_3_c1:=B_3.c1;have F_3_c0:=F_3.c0;have F_3_c1:=F_3.c1;have G_3_c0:=G_3.c0;have G_3_c1:=G_3.c1;clear R2 S2 T2 H2 B_2 F_2 B_2_c0 B_2_c1 F_2_c0 F_2_c1 z3 y3 Z2;by_cases hv0:v=0
   ·subst hv0;have HV:=Lib.hid hv.symm;clear hv;simp only[z0]
    go_wp2_with fail
    obtain⟨S3,T3⟩:=H3.out;have hokl:=HF.out;refine(lzexp_ok T3 S3 (by omega) (AllTok.of _ fun t ht=>(hokl t ht).1) hn2).mono ?_;obtain⟨R,hR⟩:∃ R,R=expf n2 t2 0 dict:=⟨_,rfl⟩
    have hR1:=expf_code n2 t2 0 dict;have hR2:=expf_idx n2 t2 0 dict;rw[←hR] at hR1 hR2;have HRR:=Lib.hid hR;rw[←hR];obtain⟨code,idx,all⟩:=R;clear hR hokl S3 T3;simp only at hR1 hR2;rintro e w5 ⟨A5,m5,c5,rfl,R5,y5⟩;simp only at R5;have R5:=Lib.hid R5;have F_5:=F_3.on y5;have z5:=Z3.trans (y5.mono Z3.size);have F_6:=(F_5.set0 (.int .i64 code)).set1 (.int .i64 idx);obtain⟨f0,f1,f2,f3,f4⟩:=F_5.facts;obtain⟨g0,g1,g2,g3,g4⟩:=F_6.facts;clear F_3_c0 F_3_c1 B_3_c0 B_3_c1 G_3_c0 G_3_c1 y5
    go_upto_region 9 with(fail)
    have Z6:=Lib.hid (belowD ((z5.setCell (p:=⟨w1.heap.size,0,none⟩) hw1 (.int .i64 code)).setCell (p:=⟨w1.heap.size,1,none⟩) hw1 (.int .i64 idx)));have R6:=Lib.hid ((R5.out.farTwo F_5 (.int .i64 code) (.int .i64 idx)).drew);by_cases hc0:code=0
    ·have hi0:=hR2 hc0;subst hc0 hi0;have HR:=Lib.hid (show MUnp p dict N (if (0:Int)=0 then all.drop n2 else []) true from⟨0,ix,t2,e2,HD.out,.inr ⟨⟨rfl,by rw[E1.out];exact h7,HV.out⟩,by rw[E2.out,←HRR.out],by rw[E2.out,←HRR.out];rfl⟩⟩);clear hR1 hR2
     go_region
     go_wp2
     go_ret2
     exact⟨A5,m5,c5,_,.inr ⟨rfl,HR.out,R6.out,Z6.out⟩⟩
    ·have HR:=Lib.hid (show MUnp p dict N (if code=0 then all.drop n2 else []) false from⟨0,ix,t2,e2,HD.out,.inr ⟨⟨rfl,by rw[E1.out];exact h7,HV.out⟩,by rw[E2.out,←HRR.out],by rw[E2.out,←HRR.out];exact(decide_eq_false hc0).symm⟩⟩);clear hR1 hR2
     go_region
     go_wp2
     go_ret2
     exact⟨A5,m5,c5,_,false,rfl,HR.out,R6.out,Z6.out⟩
   ·have hvz:¬((v:Nat):Int)=0:=by omega
    have HR:=Lib.hid (show MUnp p dict N [] false from⟨0,ix,_,e2,HD.out,.inl ⟨fun⟨_,_,hh⟩=>hv0 (by rw[hv,hh]),rfl,rfl⟩⟩);clear hv
    go_wp2_with fail
    go_ret2
    exact⟨_,_,_,[],false,rfl,HR.out,Reads.nil _ _ none 0 (Nat.zero_le _),Z3⟩
  ·have h7z:¬((e2:Int)+7) / 8=(n:Int):=by omega
   have HR:=Lib.hid (show MUnp p dict N [] false from⟨0,ix,_,e2,HD.out,.inl ⟨fun⟨_,hh,_⟩=>h7 (by rw[hh,E1.out]),rfl,rfl⟩⟩)
   go_wp2_with fail
   go_ret2
   exact⟨_,_,_,[],false,rfl,HR.out,Reads.nil _ _ none 0 (Nat.zero_le _),Z2⟩
 ·have HR:=Lib.hid (show MUnp p dict N [] false from⟨cd,ix,_,en,HD.out,.inl ⟨fun⟨hh,_⟩=>hc hh,rfl,rfl⟩⟩);have hcz:¬((cd:Nat):Int)=0:=by omega
  clear he2 hi2 ht2
  go_wp2_with fail
  go_ret2
  exact⟨_,_,_,[],false,rfl,HR.out,Reads.nil _ _ none 0 (Nat.zero_le _),Z2⟩
def DecOk(lo hi V t:Int):Prop:=Wid lo hi∧(lo≤V∧V≤hi)∧16≤t∧t≤131086
instance (lo hi V t:Int):Decidable (DecOk lo hi V t):=by unfold DecOk;exact inferInstance
end PB
end
end Go.Proofs.YtnpcandaehejbaaGreat
