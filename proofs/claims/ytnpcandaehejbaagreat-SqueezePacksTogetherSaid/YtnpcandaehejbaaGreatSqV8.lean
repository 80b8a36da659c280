/-
  Plain facts on matches: how many bytes repeat at a distance, the cheapest tokens at each p
-/
import Derived.Lib.AppendZerosOnto
import Derived.Deep.Cut
import Derived.Test.YtnpcandaehejbaaGreatSqV7
set_option linter.unusedVariables false
set_option linter.unusedSimpArgs false
set_option linter.unusedSectionVars false
set_option maxHeartbeats 6400000
set_option maxRecDepth 100000
namespace Go.Proofs.YtnpcandaehejbaaGreat
section
namespace PB
structure Tok where
 d:Int
 n:Int
 lit:Nat
def repf(all:List Nat)(d:Nat):Nat→Nat→Nat
 | 0,_=>0
 | f+1,i=>if all.getD i 0=all.getD (i-d) 0 then repf all d f (i+1)+1 else 0
def rep(all:List Nat)(i d:Nat):Nat:=repf all d (all.length-i) i
section
variable {all:List Nat}{i d:Nat}
theorem rep_end(h:all.length≤i):rep all i d=0:=by
 unfold rep;rw[show all.length-i=0 by omega];rfl
theorem rep_yes(h:i<all.length)(he:all.getD i 0=all.getD (i-d) 0):rep all i d=rep all (i+1) d+1:=by
 unfold rep;rw[show all.length-i=(all.length-(i+1))+1 by omega,repf,if_pos he]
theorem rep_no(he:all.getD i 0≠all.getD (i-d) 0):rep all i d=0:=by
 unfold rep;rcases Nat.eq_zero_or_pos (all.length-i) with h|h
 ·rw[h];rfl
 ·rw[show all.length-i=(all.length-i-1)+1 by omega,repf,if_neg he]
theorem repf_le(f:Nat):∀ i,repf all d f i≤f:=by
 induction f with
 | zero=>intro i;exact Nat.le_refl _
 | succ f ih =>
  intro i;rw[repf]
  split
  ·have:=ih (i+1);omega
  ·omega
theorem rep_le:rep all i d≤all.length-i:=repf_le _ _
theorem rep_ge{n:Nat}(h:∀ k,k<n→i+k<all.length∧all.getD (i+k) 0=all.getD (i+k-d) 0):n≤rep all i d:=by
 induction n generalizing i with
 | zero=>exact Nat.zero_le _
 | succ n ih =>
  have h0:=h 0 (by omega);simp only[Nat.add_zero] at h0;rw[rep_yes h0.1 h0.2];have:=ih (i:=i+1) (fun k hk=>by
   have:=h (k+1) (by omega)
   rwa [show i+(k+1)=i+1+k by omega] at this)
  omega
end
section
variable (g:Nat→Nat)(all:List Nat)
def mcost(d n:Nat):Nat:=1+g d+g (n-2)
def Cand(i n d:Nat):Prop:=3≤n∧1≤d∧d≤i∧n≤rep all i d
structure Good(L:Nat→Nat)(i:Nat)(S:Nat→Nat→Prop)(c n d:Nat):Prop where
 one:(n=0∧d=0∧c=9+L (i+1))∨(Cand all i n d∧c=mcost g d n+L (i+n))
 lit:c≤9+L (i+1)
 opt:∀ n' d',Cand all i n' d'→S n' d'→c<mcost g d' n'+L (i+n')∨(c=mcost g d' n'+L (i+n')∧(n'<n∨(n'=n∧d≤d')))
def Any(_ _:Nat):Prop:=True
variable {g all}{L L':Nat→Nat}{i c n d:Nat}{S S':Nat→Nat→Prop}
theorem Good.start(h:∀ n' d',Cand all i n' d'→¬S n' d'):Good g all L i S (9+L (i+1)) 0 0 :=
 ⟨.inl ⟨rfl,rfl,rfl⟩,Nat.le_refl _,fun n' d' h1 h2=>absurd h2 (h n' d' h1)⟩
theorem Good.more(h:Good g all L i S c n d)(hS:∀ n' d',Cand all i n' d'→S' n' d'→S n' d'):Good g all L i S' c n d :=
 ⟨h.one,h.lit,fun n' d' h1 h2=>h.opt n' d' h1 (hS n' d' h1 h2)⟩
theorem Good.uniq{c' n' d':Nat}(h:Good g all L i Any c n d)(h':Good g all L i Any c' n' d'):c=c'∧n=n'∧d=d':=by
 rcases h.one with⟨rfl,rfl,e⟩|⟨hc,e⟩<;>rcases h'.one with⟨rfl,rfl,e'⟩|⟨hc',e'⟩
 ·exact⟨by omega,rfl,rfl⟩
 ·have h1:=h.opt _ _ hc' trivial;have h2:=h'.lit;have:=hc'.1;omega
 ·have h1:=h'.opt _ _ hc trivial;have h2:=h.lit;have:=hc.1;omega
 ·have h1:=h.opt _ _ hc' trivial;have h2:=h'.opt _ _ hc trivial;omega
theorem Good.congr(h:Good g all L i S c n d)(hL:∀ j,i<j→j≤all.length→L j=L' j)(hi:i<all.length):Good g all L' i S c n d:=by
 have e1:L (i+1)=L' (i+1):=hL _ (by omega) (by omega);have e2:∀ n d,Cand all i n d→L (i+n)=L' (i+n):=fun n d hc=>by
  have:=hc.1;have:=hc.2.2.2;have:=rep_le (all:=all) (i:=i) (d:=d);exact hL _ (by omega) (by omega)
 refine⟨?_,by rw[←e1];exact h.lit,fun n' d' h1 h2=>by rw[←e2 _ _ h1];exact h.opt n' d' h1 h2⟩;rcases h.one with⟨h1,h2,h3⟩|⟨h1,h2⟩
 ·exact .inl ⟨h1,h2,by rw[←e1];exact h3⟩
 ·exact .inr ⟨h1,by rw[←e2 _ _ h1];exact h2⟩
theorem Good.take{len D:Nat}(hg:∀ a b,1≤a→a≤b→b≤i→g a≤g b)(h:Good g all L i (fun n' _=>n'≤len) c n d)(hc:Cand all i (len+1) D)(hD:∀ d',1≤d'→d'<D→rep all i d'≤len)
  (hle:mcost g D (len+1)+L (i+(len+1))≤c):Good g all L i (fun n' _=>n'≤len+1) (mcost g D (len+1)+L (i+(len+1))) (len+1) D:=by
 refine⟨.inr ⟨hc,rfl⟩,Nat.le_trans hle h.lit,fun n' d' h1 h2=>?_⟩;rcases Nat.lt_or_ge n' (len+1) with h3|h3
 ·have:=h.opt n' d' h1 (by show n'≤len;omega);omega
 ·obtain rfl:n'=len+1:=by omega
  have hd:D≤d':=by
   rcases Nat.lt_or_ge d' D with h4|h4
   ·have:=hD d' h1.2.1 h4;have:=h1.2.2.2;omega
   ·exact h4
  have:=hg D d' hc.2.1 hd h1.2.2.1;unfold mcost;omega
theorem Good.pass{len D:Nat}(hg:∀ a b,1≤a→a≤b→b≤i→g a≤g b)(h:Good g all L i (fun n' _=>n'≤len) c n d)(hc:Cand all i (len+1) D)(hD:∀ d',1≤d'→d'<D→rep all i d'≤len)
  (hlt:c<mcost g D (len+1)+L (i+(len+1))):Good g all L i (fun n' _=>n'≤len+1) c n d:=by
 refine⟨h.one,h.lit,fun n' d' h1 h2=>?_⟩;rcases Nat.lt_or_ge n' (len+1) with h3|h3
 ·exact h.opt n' d' h1 (by show n'≤len;omega)
 ·obtain rfl:n'=len+1:=by omega
  have hd:D≤d':=by
   rcases Nat.lt_or_ge d' D with h4|h4
   ·have:=hD d' h1.2.1 h4;have:=h1.2.2.2;omega
   ·exact h4
  have:=hg D d' hc.2.1 hd h1.2.2.1;left;unfold mcost at hlt ⊢;omega
theorem Good.all_{len:Nat}(h:Good g all L i (fun n' _=>n'≤len) c n d)(hD:∀ d',1≤d'→d'≤i→rep all i d'≤len):Good g all L i Any c n d :=
 h.more fun n' d' h1 _=>Nat.le_trans h1.2.2.2 (hD d' h1.2.1 h1.2.2.1)
end
section
variable (g:Nat→Nat)(all:List Nat)
def Tab(i:Nat)(L nn dd:Nat→Nat):Prop:=L all.length=0∧∀ j,i≤j→j<all.length→Good g all L j Any (L j) (nn j) (dd j)
variable {g all}
theorem Tab.uniq{i:Nat}{L nn dd L' nn' dd':Nat→Nat}(h:Tab g all i L nn dd)(h':Tab g all i L' nn' dd') :
  ∀ k j,i≤j→j+k=all.length→L j=L' j∧(j<all.length→nn j=nn' j∧dd j=dd' j):=by
 intro k
 induction k using Nat.strongRecOn with
 | _ k ih =>
  intro j hj hk;rcases Nat.eq_zero_or_pos k with rfl|hpos
  ·obtain rfl:j=all.length:=by omega
   exact⟨by rw[h.1,h'.1],fun h=>absurd h (by omega)⟩
  ·have hlt:j<all.length:=by omega
   have e:=((h.2 j hj hlt).congr (L':=L') (fun q hq hq2=>(ih (all.length-q) (by omega) q (by omega) (by omega)).1) hlt).uniq (h'.2 j hj hlt);exact⟨e.1,fun _=>e.2⟩
def tokOf(all:List Nat)(nn dd:Nat→Nat)(i:Nat):Tok:=if nn i=0 then⟨0,0,all.getD i 0⟩ else⟨(dd i:Nat),(nn i:Nat),0⟩
def toks(all:List Nat)(nn dd:Nat→Nat):Nat→Nat→List Tok
 | 0,_=>[]
 | f+1,i=>if i<all.length then tokOf all nn dd i::toks all nn dd f (i+max (nn i) 1) else []
theorem khy7{nn dd:Nat→Nat}{f i:Nat}(h:all.length≤i):toks all nn dd f i=[]:=by
 cases f with
 | zero=>rfl
 | succ f=>rw[toks,if_neg (by omega)]
theorem toks_fuel{nn dd:Nat→Nat}:∀ f f' i,all.length≤i+f→all.length≤i+f'→toks all nn dd f i=toks all nn dd f' i:=by
 intro f
 induction f with
 | zero=>intro f' i h h';rw[khy7 (by omega),khy7 (by omega)]
 | succ f ih =>
  intro f' i h h';cases f' with
  | zero=>rw[khy7 (by omega),khy7 (by omega)]
  | succ f' =>
   rw[toks,toks]
   split
   ·rw[ih f' _ (by omega) (by omega)]
   ·rfl
def tokens(all:List Nat)(nn dd:Nat→Nat)(i:Nat):List Tok:=toks all nn dd all.length i
theorem kbs7{nn dd:Nat→Nat}{i:Nat}(h:all.length≤i):tokens all nn dd i=[]:=khy7 h
theorem kdt7{nn dd:Nat→Nat}{i:Nat}(h:i<all.length):tokens all nn dd i=tokOf all nn dd i::tokens all nn dd (i+max (nn i) 1):=by
 unfold tokens;obtain⟨f,hf⟩:∃ f,all.length=f+1:=⟨all.length-1,by omega⟩
 conv=>lhs;rw[hf,toks,if_pos h]
 rw[toks_fuel f all.length _ (by omega) (by omega)]
theorem tokens_congr{nn dd nn' dd':Nat→Nat}{i:Nat}(h:∀ j,i≤j→j<all.length→nn j=nn' j∧dd j=dd' j):∀ k j,i≤j→all.length≤j+k→tokens all nn dd j=tokens all nn' dd' j:=by
 intro k
 induction k with
 | zero=>intro j hj hk;rw[kbs7 (by omega),kbs7 (by omega)]
 | succ k ih =>
  intro j hj hk;rcases Nat.lt_or_ge j all.length with hlt|hge
  ·obtain⟨e1,e2⟩:=h j hj hlt;rw[kdt7 hlt,kdt7 hlt,←e1,ih (j+max (nn j) 1) (by omega) (by omega)];unfold tokOf;rw[e1,e2]
  ·rw[kbs7 hge,kbs7 hge]
theorem Tab.tokens{i:Nat}{L nn dd L' nn' dd':Nat→Nat}(h:Tab g all i L nn dd)(h':Tab g all i L' nn' dd'):PB.tokens all nn dd i=PB.tokens all nn' dd' i :=
 tokens_congr (fun j hj hlt=>(h.uniq h' (all.length-j) j hj (by omega)).2 hlt) all.length i (Nat.le_refl _) (by omega)
theorem Tab.nn0{i:Nat}{L nn dd:Nat→Nat}(h:Tab g all i L nn dd){j:Nat}(hj:i≤j)(hlt:j<all.length):nn j=0∧dd j=0∧L j=9+L (j+1)∨Cand all j (nn j) (dd j)∧L j=mcost g (dd j) (nn j)+L (j+nn j):=(h.2 j hj hlt).one
end
section
variable {g:Nat→Nat}{all:List Nat}
theorem Tab.le{i:Nat}{L nn dd:Nat→Nat}(h:Tab g all i L nn dd):∀ k j,i≤j→j+k=all.length→L j≤9*k:=by
 intro k
 induction k with
 | zero =>
  intro j hj hk;obtain rfl:j=all.length:=by omega
  rw[h.1];omega
 | succ k ih =>
  intro j hj hk;have h1:=(h.2 j hj (by omega)).lit;have h2:=ih (j+1) (by omega) (by omega);omega
structure TabL(g:Nat→Nat)(all:List Nat)(i:Nat)(Ls:List Nat)(Bs:List Tok)(nn dd:Nat→Nat):Prop where
 ll:Ls.length=all.length+1
 bl:Bs.length=all.length
 tab:Tab g all i (fun j=>Ls.getD j 0) nn dd
 tok:∀ j,i≤j→j<all.length→Bs[j]?=some (tokOf all nn dd j)
theorem TabL.start:TabL g all all.length (List.replicate (all.length+1) 0) (List.replicate all.length ⟨0,0,0⟩) (fun _=>0) (fun _=>0) :=
 ⟨by simp,by simp,⟨by simp[List.getD_eq_getElem?_getD],fun j h1 h2=>absurd h2 (by omega)⟩,fun j h1 h2=>absurd h2 (by omega)⟩
def tk(all:List Nat)(i n d:Nat):Tok:=if n=0 then⟨0,0,all.getD i 0⟩ else⟨(d:Nat),(n:Nat),0⟩
theorem kad7{l:List Nat}{i j x:Nat}(h:i≠j):(l.set i x).getD j 0=l.getD j 0:=by
 simp[List.getD_eq_getElem?_getD,List.getElem?_set,h]
theorem kbj7{l:List Nat}{i x:Nat}(h:i<l.length):(l.set i x).getD i 0=x:=by
 simp[List.getD_eq_getElem?_getD,List.getElem?_set,h]
theorem TabL.cons{i c n d:Nat}{Ls:List Nat}{Bs:List Tok}{nn dd:Nat→Nat}(h:TabL g all (i+1) Ls Bs nn dd)(hi:i<all.length)
  (hG:Good g all (fun j=>Ls.getD j 0) i Any c n d):TabL g all i (Ls.set i c) (Bs.set i (tk all i n d)) (fun j=>if j=i then n else nn j) (fun j=>if j=i then d else dd j):=by
 have hll:=h.ll;refine⟨by rw[List.length_set];exact hll,by rw[List.length_set];exact h.bl,⟨?_,fun j h1 h2=>?_⟩,fun j h1 h2=>?_⟩
 ·show(Ls.set i c).getD all.length 0=0;rw[kad7 (by omega)];exact h.tab.1
 ·have hc:∀ q,j<q→q≤all.length→Ls.getD q 0=(Ls.set i c).getD q 0:=fun q hq _=>by rw[kad7 (by omega)]
  by_cases e:j=i
  ·subst e;simp only[if_true];rw[kbj7 (by omega)];exact hG.congr hc h2
  ·simp only[if_neg e];rw[kad7 (by omega)];exact(h.tab.2 j (by omega) h2).congr hc h2
 ·by_cases e:j=i
  ·subst e;rw[List.getElem?_set_self (by rw[h.bl];exact h2)];unfold tk tokOf;simp
  ·rw[List.getElem?_set_ne (by omega),h.tok j (by omega) h2];unfold tokOf;simp[e]
def SameL(all:List Nat)(i:Nat)(S:List Nat)(D:Nat):Prop:=S.length=all.length+1∧(∀ d,1≤d→d<D→S.getD d 0=rep all i d)∧∀ d,D≤d→d≤i+1→S.getD d 0=rep all (i+1) d
theorem SameL.start:SameL all all.length (List.replicate (all.length+1) 0) (all.length+1):=by
 have hz:∀ d,(List.replicate (all.length+1) 0).getD d 0=0:=by
  intro d;simp only[List.getD_eq_getElem?_getD,List.getElem?_replicate]
  split<;>rfl
 exact⟨by simp,fun d h1 h2=>by rw[hz,rep_end (Nat.le_refl _)],fun d h1 h2=>by rw[hz,rep_end (by omega)]⟩
theorem SameL.next{i D:Nat}{S:List Nat}(h:SameL all (i+1) S D)(hD:i+1<D):SameL all i S 1 :=
 ⟨h.1,fun d h1 h2=>absurd h2 (by omega),fun d h1 h2=>h.2.1 d h1 (by omega)⟩
theorem SameL.yes{i D:Nat}{S:List Nat}(h:SameL all i S D)(hD:1≤D)(hi:D≤i)(hl:i<all.length)(he:all.getD i 0=all.getD (i-D) 0):SameL all i (S.set D (S.getD D 0+1)) (D+1):=by
 have hs:=h.1;refine⟨by rw[List.length_set];exact h.1,fun d h1 h2=>?_,fun d h1 h2=>?_⟩
 ·by_cases e:d=D
  ·subst e;rw[kbj7 (by omega),h.2.2 d (Nat.le_refl _) (by omega),rep_yes hl he]
  ·rw[kad7 (by omega)];exact h.2.1 d h1 (by omega)
 ·rw[kad7 (by omega)];exact h.2.2 d (by omega) h2
theorem SameL.no{i D:Nat}{S:List Nat}(h:SameL all i S D)(hD:1≤D)(hi:D≤i)(hl:i<all.length)(he:all.getD i 0≠all.getD (i-D) 0):SameL all i (S.set D 0) (D+1):=by
 have hs:=h.1;refine⟨by rw[List.length_set];exact h.1,fun d h1 h2=>?_,fun d h1 h2=>?_⟩
 ·by_cases e:d=D
  ·subst e;rw[kbj7 (by omega),rep_no he]
  ·rw[kad7 (by omega)];exact h.2.1 d h1 (by omega)
 ·rw[kad7 (by omega)];exact h.2.2 d (by omega) h2
end
end PB
end
section
open Go.RowKit
attribute [local go_sem ↓] Go.wp_at_zero Go.wp_at_succ
namespace PB
def TokOk(d n lit:Int):Prop:=(d=0∧n=0)∨(lit=0∧1≤d∧d≤1536∧3≤n∧n≤1024)
def Tok.ok(t:Tok):Prop:=TokOk t.d t.n t.lit
def tcell(t:Tok):List Value:=[.int .i64 t.d,.int .i64 t.n,.int .u8 (t.lit:Nat)]
def tcells(l:List Tok):List Value:=l.flatMap tcell
theorem kcc7(l:List Tok):(tcells l).length=l.length*3:=by
 induction l with
 | nil=>rfl
 | cons t l ih=>simp only[tcells,List.flatMap_cons,List.length_append,List.length_cons] at ih ⊢;simp only[tcell,List.length_cons,List.length_nil] at ih ⊢;omega
theorem kgh7(a b:List Tok):tcells (a++b)=tcells a++tcells b:=by simp[tcells]
theorem khz7(l:List Tok)(i:Nat)(t:Tok)(h:l[i]?=some t):(tcells l)[i*3]?=some (.int .i64 t.d)∧(tcells l)[i*3+1]?=some (.int .i64 t.n)∧(tcells l)[i*3+2]?=some (.int .u8 (t.lit:Nat)):=by
 induction l generalizing i with
 | nil=>simp at h
 | cons x l ih =>
  have e:tcells (x::l)=tcell x++tcells l:=by simp[tcells]
  rw[e];cases i with
  | zero =>
   obtain rfl:x=t:=by simpa using h
   simp[tcell]
  | succ i =>
   have:=ih i (by simpa using h);have hl:(tcell x).length=3:=rfl;rw[List.getElem?_append_right (by omega),List.getElem?_append_right (by omega),List.getElem?_append_right (by omega),hl];rw[show(i+1)*3-3=i*3 by omega,show(i+1)*3+1-3=i*3+1 by omega,show(i+1)*3+2-3=i*3+2 by omega];exact this
def RdT(w:World)(A:Option Addr)(n c:Nat)(xs:List Tok):Prop :=
 xs.length=n∧n≤c∧c≤maxLen∧(0<n→∃ b off,A=some ⟨b,off,none⟩∧b<w.heap.size∧∀ i x,xs[i]?=some x →
  w.cell? ⟨b,off+i*3,none⟩=some (.int .i64 x.d)∧w.cell? ⟨b,off+i*3+1,none⟩=some (.int .i64 x.n)∧w.cell? ⟨b,off+i*3+2,none⟩=some (.int .u8 (x.lit:Nat)))
section
variable {w w':World}{A:Option Addr}{n c:Nat}{xs:List Tok}
theorem RdT.on(h:RdT w A n c xs)(hb:Below w.heap.size w w'):RdT w' A n c xs:=by
 obtain⟨h1,h2,h3,h4⟩:=h;refine⟨h1,h2,h3,fun hn=>?_⟩;obtain⟨b,off,e,hlt,hc⟩:=h4 hn;refine⟨b,off,e,Nat.lt_of_lt_of_le hlt hb.size,fun i x hx=>?_⟩;obtain⟨q1,q2,q3⟩:=hc i x hx;exact⟨(hb.cell (p:=⟨b,off+i*3,none⟩) hlt).trans q1,(hb.cell (p:=⟨b,off+i*3+1,none⟩) hlt).trans q2,(hb.cell (p:=⟨b,off+i*3+2,none⟩) hlt).trans q3⟩
theorem RdT.alloc(h:RdT w A n c xs)(o:Obj):RdT (w.alloc o) A n c xs:=h.on ((Below.refl _ _).alloc (Nat.le_refl _) o)
theorem RdT.at(h:RdT w A n c xs)(k:Nat)(hk:k<xs.length):∃ b off,A=some ⟨b,off,none⟩∧b<w.heap.size ∧
  w.cell? ⟨b,off+k*3,none⟩=some (.int .i64 xs[k].d)∧w.cell? ⟨b,off+k*3+1,none⟩=some (.int .i64 xs[k].n)∧w.cell? ⟨b,off+k*3+2,none⟩=some (.int .u8 (xs[k].lit:Nat)):=by
 obtain⟨h1,h2,h3,h4⟩:=h;obtain⟨b,off,e,hlt,hc⟩:=h4 (by omega);exact⟨b,off,e,hlt,hc k _ (List.getElem?_eq_getElem hk)⟩
theorem RdT.own{base:Nat}{e:TypeId}(h:w.ownsRow base e 3 (.slice A n c) n (tcells xs)):RdT w A n c xs:=by
 have hl:=h.1;rw[kcc7] at hl;have hl2:xs.length=n:=by omega
 rcases h.2 with⟨h1,h2⟩|⟨g,cap,cur,h1,h2,h3,h4,h5,h6,h7⟩
 ·injection h1 with e1 e2 e3;subst e1 e2 e3;exact⟨hl2,Nat.le_refl _,Nat.zero_le _,fun h=>absurd h (by decide)⟩
 ·injection h1 with e1 e2 e3;subst e1 e3;refine⟨hl2,h4,h5,fun hn=>?_⟩;have hcells:=World.ownsRow.cells h (g:=g) rfl;have key:∀ j u,(tcells xs)[j]?=some u→w.cell? ⟨g,j,none⟩=some u:=by
   intro j u hu;have:=hcells j u hu;have e:(⟨g,0,none⟩:Addr).add j=⟨g,j,none⟩:=by
    unfold Addr.add;by_cases hj:j=0<;>simp[hj]
   rwa [e] at this
  refine⟨g,0,rfl,?_,fun i x hx=>?_⟩
  ·rcases Nat.lt_or_ge g w.heap.size with h|h
   ·exact h
   ·rw[Array.getElem?_eq_none h] at h3;cases h3
  ·obtain⟨q1,q2,q3⟩:=khz7 xs i x hx;rw[show 0+i*3=i*3 by omega];exact⟨key _ _ q1,key _ _ q2,key _ _ q3⟩
end
theorem kcm7(code index:Int)(w:World) :
  Calls Tryz.prog 150 #[.int .i64 code,.int .i64 index] w fun e w'=>e=.returned (.agg #[.int .i64 code,.int .i64 index])∧Below w.heap.size w w':=by
 go_enter Tryz.func150,Tryz.ntmps150
 go_wp2
 refine bodyPost_ret (v:=.agg #[.int .i64 code,.int .i64 index]) (by simp[results,Tryz.results150,go_sem]) rfl ⟨rfl,?_⟩;exact(Below.refl _ _).alloc (Nat.le_refl _) _
theorem kan7(d n lit:Int)(b:Bool)(hb:b=decide (d=0∧n=0))(w:World) :
  Calls Tryz.prog 153 #[.agg #[.int .i64 d,.int .i64 n,.int .u8 lit]] w fun e w'=>e=.returned (.bool b)∧Below w.heap.size w w':=by
 subst hb;have X0:=Three.new w 79 (.int .i64 d) (.int .i64 n) (.int .u8 lit);have y0:Below w.heap.size w (w.alloc (.cells #[.int .i64 d,.int .i64 n,.int .u8 lit] 79)):=(Below.refl _ _).alloc (Nat.le_refl _) _;by_cases hd:d=0
 ·have q1:(d == 0)=true:=by simpa using hd
  by_cases hn:n=0
  ·have q2:(n == 0)=true:=by simpa using hn
   have e:decide (d=0∧n=0)=true:=by simp[hd,hn]
   rw[e];clear hd hn e
   go_enter Tryz.func153,Tryz.ntmps153
   go_wp2
   go_ret
   exact⟨rfl,y0⟩
  ·have q2:(n == 0)=false:=by simpa using hn
   have e:decide (d=0∧n=0)=false:=by simp[hn]
   rw[e];clear hd hn e
   go_enter Tryz.func153,Tryz.ntmps153
   go_wp2
   go_ret
   exact⟨rfl,y0⟩
 ·have q1:(d == 0)=false:=by simpa using hd
  have e:decide (d=0∧n=0)=false:=by simp[hd]
  rw[e];clear hd e
  go_enter Tryz.func153,Tryz.ntmps153
  go_wp2
  go_ret
  exact⟨rfl,y0⟩
theorem lzvalid_any(d n lit:Int)(b:Bool)(hb:b=true↔TokOk d n lit)(w:World) :
  Calls Tryz.prog 159 #[.agg #[.int .i64 d,.int .i64 n,.int .u8 lit]] w fun e w'=>e=.returned (.bool b)∧Below w.heap.size w w':=by
 have X0:=Three.new w 79 (.int .i64 d) (.int .i64 n) (.int .u8 lit);have y0:Below w.heap.size w (w.alloc (.cells #[.int .i64 d,.int .i64 n,.int .u8 lit] 79)):=(Below.refl _ _).alloc (Nat.le_refl _) _;by_cases h0:d=0∧n=0
 ·obtain rfl:b=true:=hb.2 (.inl h0);have HI:=Lib.hid (show true=decide (d=0∧n=0) by simp[h0]);clear h0 hb
  go_enter Tryz.func159,Tryz.ntmps159
  go_wp2_with fail
  refine(kan7 _ _ _ true HI.out _).mono ?_;rintro e w1 ⟨rfl,y1⟩;have X1:=X0.on y1;have Y1:=y0.trans (y1.mono y0.size);have c0:=X1.c0;have c1:=X1.c1;have c2:=X1.c2
  go_wp2
  go_ret
  exact⟨rfl,Y1⟩
 have HI:=Lib.hid (show false=decide (d=0∧n=0) by simp[h0]);have hb2:b=true↔(lit=0∧1≤d∧d≤1536∧3≤n∧n≤1024):=by
  rw[hb];unfold TokOk;constructor
  ·rintro(h|h)
   ·exact absurd h h0
   ·exact h
  ·exact .inr
 clear h0 hb;by_cases h1:lit=0
 case neg =>
  have q1:(lit == 0)=false:=by simpa using h1
  obtain rfl:b=false:=by rw[Bool.eq_false_iff];intro e;exact h1 (hb2.1 e).1
  clear hb2 h1
  go_enter Tryz.func159,Tryz.ntmps159
  go_wp2_with fail
  refine(kan7 _ _ _ false HI.out _).mono ?_;rintro e w1 ⟨rfl,y1⟩;have X1:=X0.on y1;have Y1:=y0.trans (y1.mono y0.size);have c0:=X1.c0;have c1:=X1.c1;have c2:=X1.c2
  go_wp2
  go_ret
  exact⟨rfl,Y1⟩
 subst h1;by_cases h2:1≤d
 case neg =>
  have q2:decide ((1:Int)≤d)=false:=by simpa using h2
  obtain rfl:b=false:=by rw[Bool.eq_false_iff];intro e;exact h2 (hb2.1 e).2.1
  clear hb2 h2
  go_enter Tryz.func159,Tryz.ntmps159
  go_wp2_with fail
  refine(kan7 _ _ _ false HI.out _).mono ?_;rintro e w1 ⟨rfl,y1⟩;have X1:=X0.on y1;have Y1:=y0.trans (y1.mono y0.size);have c0:=X1.c0;have c1:=X1.c1;have c2:=X1.c2
  go_wp2
  go_ret
  exact⟨rfl,Y1⟩
 have q2:decide ((1:Int)≤d)=true:=by simpa using h2
 by_cases h3:d≤1536
 case neg =>
  have q3:decide (d≤(1536:Int))=false:=by simpa using h3
  obtain rfl:b=false:=by rw[Bool.eq_false_iff];intro e;exact h3 (hb2.1 e).2.2.1
  clear hb2 h3
  go_enter Tryz.func159,Tryz.ntmps159
  go_wp2_with fail
  refine(kan7 _ _ _ false HI.out _).mono ?_;rintro e w1 ⟨rfl,y1⟩;have X1:=X0.on y1;have Y1:=y0.trans (y1.mono y0.size);have c0:=X1.c0;have c1:=X1.c1;have c2:=X1.c2
  go_wp2
  go_ret
  exact⟨rfl,Y1⟩
 have q3:decide (d≤(1536:Int))=true:=by simpa using h3
 by_cases h4:3≤n
 case neg =>
  have q4:decide ((3:Int)≤n)=false:=by simpa using h4
  obtain rfl:b=false:=by rw[Bool.eq_false_iff];intro e;exact h4 (hb2.1 e).2.2.2.1
  clear hb2 h4
  go_enter Tryz.func159,Tryz.ntmps159
  go_wp2_with fail
  refine(kan7 _ _ _ false HI.out _).mono ?_;rintro e w1 ⟨rfl,y1⟩;have X1:=X0.on y1;have Y1:=y0.trans (y1.mono y0.size);have c0:=X1.c0;have c1:=X1.c1;have c2:=X1.c2
  go_wp2
  go_ret
  exact⟨rfl,Y1⟩
 have q4:decide ((3:Int)≤n)=true:=by simpa using h4
 by_cases h5:n≤1024
 case neg =>
  have q5:decide (n≤(1024:Int))=false:=by simpa using h5
  obtain rfl:b=false:=by rw[Bool.eq_false_iff];intro e;exact h5 (hb2.1 e).2.2.2.2
  clear hb2 h5
  go_enter Tryz.func159,Tryz.ntmps159
  go_wp2_with fail
  refine(kan7 _ _ _ false HI.out _).mono ?_;rintro e w1 ⟨rfl,y1⟩;have X1:=X0.on y1;have Y1:=y0.trans (y1.mono y0.size);have c0:=X1.c0;have c1:=X1.c1;have c2:=X1.c2
  go_wp2
  go_ret
  exact⟨rfl,Y1⟩
 have q5:decide (n≤(1024:Int))=true:=by simpa using h5
 obtain rfl:b=true:=hb2.2 ⟨rfl,h2,h3,h4,h5⟩;clear hb2
 go_enter Tryz.func159,Tryz.ntmps159
 go_wp2_with fail
 refine(kan7 _ _ _ false HI.out _).mono ?_;rintro e w1 ⟨rfl,y1⟩;have X1:=X0.on y1;have Y1:=y0.trans (y1.mono y0.size);have c0:=X1.c0;have c1:=X1.c1;have c2:=X1.c2
 go_wp2
 go_ret
 exact⟨rfl,Y1⟩
end PB
end
section
open Go.RowKit
attribute [local go_sem ↓] Go.wp_at_zero Go.wp_at_succ
namespace PB
theorem lzcost_match(d n:Nat)(lit di ni r:Int)(hdi:di=(d:Nat))(hni:ni=(n:Nat))(h1:1≤d)(h2:d≤1000000)(h3:3≤n)(h4:n≤1000000)(hr:r=(mcost gsz d n:Nat))(w:World) :
  Calls Tryz.prog 151 #[.agg #[.int .i64 di,.int .i64 ni,.int .u8 lit]] w fun e w'=>e=.returned (.int .i64 r)∧Below w.heap.size w w':=by
 subst hdi hni;have X0:=Three.new w 79 (.int .i64 (d:Nat)) (.int .i64 (n:Nat)) (.int .u8 lit);have y0:Below w.heap.size w (w.alloc (.cells #[.int .i64 (d:Nat),.int .i64 (n:Nat),.int .u8 lit] 79)):=(Below.refl _ _).alloc (Nat.le_refl _) _;have b1:gsz d≤200:=by unfold gsz;have:=kcl7 d (by omega);omega
 have b2:gsz (n-2)≤200:=by unfold gsz;have:=kcl7 (n-2) (by omega);omega
 obtain⟨G1,hG1⟩:∃ G,G=gsz d:=⟨_,rfl⟩
 obtain⟨G2,hG2⟩:∃ G,G=gsz (n-2):=⟨_,rfl⟩
 have HR:=Lib.hid (show r=1+(G1:Int)+(G2:Int) by rw[hr,hG1,hG2];unfold mcost;omega);have C1:∀ W:World,Calls Tryz.prog 158 #[.int .i64 (d:Nat)] W fun e w'=>e=.returned (.int .i64 (G1:Nat))∧w'=W:=fun W=>by rw[hG1];exact kgr7 d W h1 (by omega)
 have C2:∀ W:World,Calls Tryz.prog 158 #[.int .i64 ((n:Int)-2)] W fun e w'=>e=.returned (.int .i64 (G2:Nat))∧w'=W:=fun W=>by
  rw[hG2,show((n:Int)-2)=((n-2:Nat):Int) by omega];exact kgr7 (n-2) W (by omega) (by omega)
 rw[←hG1] at b1;rw[←hG2] at b2;have HC1:=Lib.hid C1;have HC2:=Lib.hid C2;clear C1 C2 hG1 hG2 hr
 go_enter Tryz.func151,Tryz.ntmps151
 go_wp2_with fail
 refine(kan7 _ _ _ false (by simp;omega) _).mono ?_;rintro e w1 ⟨rfl,y1⟩;have X1:=X0.on y1;have Y1:=y0.trans (y1.mono y0.size);have c0:=X1.c0;have c1:=X1.c1
 go_wp2_with fail
 have u1:IntKind.i64.wrap ((n:Int)-2)=(n:Int)-2:=IntWalk.i64_in _ (by omega);have u2:IntKind.i64.wrap (1+(G1:Int))=1+(G1:Int):=IntWalk.i64_in _ (by omega);have u3:IntKind.i64.wrap (1+(G1:Int)+(G2:Int))=1+(G1:Int)+(G2:Int):=IntWalk.i64_in _ (by omega)
 go_quiet ((first|(go_at_call 158;(with_reducible exact Calls.quiet_of_same (HC1.out _)))|(go_at_call 158;(with_reducible exact Calls.quiet_of_same (HC2.out _)))))
 clear u1 u2 u3
 go_wp2
 go_ret
 exact⟨ret_int (by rw[HR.out]),belowN Y1 _⟩
def tcost(t:Tok):Nat:=if t.d=0 then 9 else mcost gsz t.d.toNat t.n.toNat
def AllTok(xs:List Tok)(q:Nat):Prop:=∀ i (h:i<xs.length),i<q→xs[i].ok
def TOut(xs:List Tok)(code idx:Int):Prop :=
 (1024<xs.length∧code=2∧idx=-1) ∨
 (xs.length≤1024∧∃ q,∃ h:q<xs.length,AllTok xs q∧¬xs[q].ok∧code=6∧idx=(q:Nat)) ∨
 (xs.length≤1024∧AllTok xs xs.length∧code=0∧idx=0)
theorem lzcheck_any{A:Option Addr}{n c:Nat}{xs:List Tok}{code idx:Int}{w:World}(h:RdT w A n c xs)(hT:TOut xs code idx) :
  Calls Tryz.prog 152 #[.slice A n c] w fun e w'=>e=.returned (.agg #[.int .i64 code,.int .i64 idx])∧Below w.heap.size w w':=by
 have hn:=h.1;have hcap:=h.2.1;have hcm:=h.2.2.1;unfold maxLen at hcm;obtain rfl:=hn;have X0:=Two.new w 24 (.int .i64 0) (.int .i64 0);have y0:Below w.heap.size w (w.alloc (.cells #[.int .i64 0,.int .i64 0] 24)):=(Below.refl _ _).alloc (Nat.le_refl _) _;have fin:∀ (W:World) (cd ix:Int),Two W w.heap.size 24 (.int .i64 0) (.int .i64 0)→((W.setCell ⟨w.heap.size,0,none⟩ (.int .i64 cd)).setCell ⟨w.heap.size,1,none⟩ (.int .i64 ix)).cell? ⟨w.heap.size,0,none⟩=some (.int .i64 cd)∧((W.setCell ⟨w.heap.size,0,none⟩ (.int .i64 cd)).setCell ⟨w.heap.size,1,none⟩ (.int .i64 ix)).cell? ⟨w.heap.size,1,none⟩=some (.int .i64 ix) :=
  fun W cd ix hX=>⟨((hX.set0 _).set1 _).c0,((hX.set0 _).set1 _).c1⟩
 have HF:=Lib.hid fin;clear fin;by_cases hlong:1024<xs.length
 ·obtain⟨rfl,rfl⟩:code=2∧idx=-1:=by
   rcases hT with⟨_,h1,h2⟩|⟨h1,_⟩|⟨h1,_⟩
   ·exact⟨h1,h2⟩
   all_goals omega
  clear hT
  go_enter Tryz.func152,Tryz.ntmps152
  go_wp2_with fail
  refine(kcm7 _ _ _).mono ?_;rintro e w1 ⟨rfl,y1⟩;have X1:=X0.on y1;have Y1:=y0.trans (y1.mono y0.size);obtain⟨f0,f1,f2,f3,f4⟩:=X1.facts
  go_wp2
  obtain⟨r0,r1⟩:=HF.out _ 2 (-1) X1;exact bodyPost_ret (v:=.agg #[.int .i64 2,.int .i64 (-1)]) (by simp[results,Tryz.results152,go_sem,r0,r1]) rfl ⟨rfl,(Y1.setCell (Nat.le_refl _) _).setCell (Nat.le_refl _) _⟩
 have hT2:∃ q,q≤xs.length∧AllTok xs q∧((∃ h:q<xs.length,¬xs[q].ok∧code=6∧idx=(q:Nat))∨(q=xs.length∧code=0∧idx=0)):=by
  rcases hT with⟨h0,_⟩|⟨_,q,h0,h1,h2,h3,h4⟩|⟨_,h1,h2,h3⟩
  ·omega
  ·exact⟨q,by omega,h1,.inl ⟨h0,h2,h3,h4⟩⟩
  ·exact⟨_,Nat.le_refl _,h1,.inr ⟨rfl,h2,h3⟩⟩
 obtain⟨q,hq,hall,hend⟩:=hT2;have HA:=Lib.hid hall;have HE:=Lib.hid hend;clear hT hall hend;have hlen:xs.length≤1024:=by omega
 have k1024:decide ((1024:Int)<((xs.length:Nat):Int))=false:=by simp;omega
 go_enter Tryz.func152,Tryz.ntmps152
 go_wp2_with fail
 go_loopw [10] (fun i wr=>∃ k:Nat,k≤q∧i=.int .i64 k∧Below w.heap.size w wr∧Two wr w.heap.size 24 (.int .i64 0) (.int .i64 0)) (fun i _=>xs.length-(intOf i).toNat)
 case atStart=>exact⟨0,Nat.zero_le _,rfl,y0,X0⟩
 case round =>
  obtain⟨k,hk,rfl,yr,XR⟩:=hrel;clear y0 X0;by_cases hlt:k<xs.length
  ·obtain⟨b,off,rfl,hb,q1,q2,q3⟩:=(h.on yr).at k hlt;obtain⟨x,hx⟩:∃ x,x=xs[k]:=⟨_,rfl⟩
   rw[←hx] at q1 q2 q3;have HX:=Lib.hid hx;clear hx;by_cases hkq:k<q
   ·have HOK:=Lib.hid (show x.ok by rw[HX.out];exact HA.out k hlt hkq)
    go_wp2_with fail
    refine(lzvalid_any x.d x.n (x.lit:Nat) true ⟨fun _=>HOK.out,fun _=>rfl⟩ _).mono ?_;rintro e w1 ⟨rfl,y1⟩;have Y1:=yr.trans (y1.mono yr.size);have X1:=XR.on y1
    go_wp2_with fail
    go_roundw
    case rel=>exact⟨k+1,by omega,by go_num,Y1,X1⟩
    case measure=>simp[intOf];omega
   ·obtain rfl:k=q:=by omega
    rcases HE.out with⟨_,hbad,rfl,rfl⟩|⟨h1,_⟩
    ·have HB:=Lib.hid (show ¬x.ok by rw[HX.out];exact hbad);clear hbad
     go_wp2_with fail
     refine(lzvalid_any x.d x.n (x.lit:Nat) false ⟨(fun h=>by cases h),fun h=>absurd h HB.out⟩ _).mono ?_;rintro e w1 ⟨rfl,y1⟩;have Y1:=yr.trans (y1.mono yr.size);have X1:=XR.on y1
     go_wp2_with fail
     refine(kcm7 _ _ _).mono ?_;rintro e w2 ⟨rfl,y2⟩;have Y2:=Y1.trans (y2.mono Y1.size);have X2:=X1.on y2;obtain⟨f0,f1,f2,f3,f4⟩:=X2.facts
     go_wp2
     obtain⟨r0,r1⟩:=HF.out _ 6 (k:Nat) X2;exact bodyPost_ret (v:=.agg #[.int .i64 6,.int .i64 (k:Nat)]) (by simp[results,Tryz.results152,go_sem,r0,r1]) rfl ⟨rfl,(Y2.setCell (Nat.le_refl _) _).setCell (Nat.le_refl _) _⟩
    ·omega
  ·obtain rfl:k=xs.length:=by omega
   rcases HE.out with⟨h1,_⟩|⟨_,rfl,rfl⟩
   ·omega
   ·obtain⟨f0,f1,f2,f3,f4⟩:=XR.facts
    go_wp2
    obtain⟨r0,r1⟩:=HF.out _ 0 0 XR;exact bodyPost_ret (v:=.agg #[.int .i64 0,.int .i64 0]) (by simp[results,Tryz.results152,go_sem,r0,r1]) rfl ⟨rfl,(yr.setCell (Nat.le_refl _) _).setCell (Nat.le_refl _) _⟩
section
variable {P:Program}
theorem wpList_tok1{ops:Array Oper}{rest:List Oper}{o:Oper}{a:Act}{Q:Exit→Act→World→Prop}(W:World)(hgd:o.guard=none)(s x:Operand)(t:TypeId)
  (ho:o.op=.call { callee:=.builtin .append,args:=#[s,x],argTypes:=#[t,t] })
  (base:Nat) (e:TypeId) (i:TypeInfo) (z:Value) (bytes:Nat) (ht:P.underlying t=some (.slice e)) (hi:P.info? e=some i) (hz:i.zero=some z)
  (hsize:i.size=3) (hby:i.bytes=bytes) (hzs:z.cells.size=3)
  (v:Value) (n:Nat) (xs:List Value) (hs:a.eval s=v) (hown:W.ownsRow base e 3 v n xs)
  (u0 u1 u2:Value) (h1:∀ u∈[u0,u1,u2],u.oneCell'=true) (hx:a.eval x=.slice (some ⟨W.heap.size,0,none⟩) 1 1)
  (h63:n+1≤maxLen) (hbytes:(n+1)*bytes≤140737488355328) (hbase:base≤W.heap.size)
  (h:∀ A' c' w',w'.ownsRow base e 3 (.slice A' (n+1) c') (n+1) (xs++[u0,u1,u2])→W.grownBy w' v.ownBlock→wpList P ops Q rest (a.put o.dst (.slice A' (n+1) c')) w') :
  wpList P ops Q (o::rest) a (W.alloc (.cells #[u0,u1,u2] e)):=by
 have hB:=Blk.new W e #[u0,u1,u2];refine wpList_append_own (P:=P) (W.alloc (.cells #[u0,u1,u2] e)) hgd s x t ho base e i z 3 bytes ht hi hz hsize hby hzs (by decide) v n xs hs (hown.alloc _) ⟨W.heap.size,0,none⟩ 1 1 [u0,u1,u2] hx rfl (fun j u hj=>?_) h1 h63 hbytes (by simp;omega) ?_
 ·have e:(⟨W.heap.size,0,none⟩:Addr).add j=⟨W.heap.size,j,none⟩:=by
   unfold Addr.add;by_cases hj:j=0<;>simp[hj]
  rw[e,hB.cell j]
  simpa using hj
 ·intro v' w' h2 h3 _;obtain⟨A',c',rfl⟩:=own_shape h2;refine h A' c' w' h2 ?_;exact⟨h3.os,h3.tape,h3.output,Nat.le_trans (by simp) h3.size,fun k hk hne=>(h3.block k (by simp;omega) hne).trans (Below.heap_alloc W _ k hk)⟩
end
theorem tok_info:(Tryz.prog.info? 79).map (fun i=>(i.zero,i.size,i.bytes))=some (some (.agg #[.int .i64 0,.int .i64 0,.int .u8 0]),3,24):=by kernel_rfl
theorem tcells_cons(x:Tok)(l:List Tok):tcells (x::l)=.int .i64 x.d::.int .i64 x.n::.int .u8 (x.lit:Nat)::tcells l:=rfl
theorem tcells_set(l:List Tok)(i:Nat)(t:Tok)(hi:i<l.length):(((tcells l).set (i*3) (.int .i64 t.d)).set (i*3+1) (.int .i64 t.n)).set (i*3+2) (.int .u8 (t.lit:Nat))=tcells (l.set i t):=by
 induction l generalizing i with
 | nil=>exact absurd hi (Nat.not_lt_zero _)
 | cons x l ih =>
  cases i with
  | zero=>rfl
  | succ i =>
   have:=ih i (by simpa using hi);rw[List.set_cons_succ,tcells_cons,tcells_cons,←this];rw[show(i+1)*3=i*3+1+1+1 by omega,show i*3+1+1+1+1=(i*3+1)+1+1+1 by omega,show i*3+1+1+1+2=(i*3+2)+1+1+1 by omega];simp only[List.set_cons_succ]
theorem madeTok(n:Nat):(madeCells #[Value.int .i64 0,Value.int .i64 0,Value.int .u8 0] (n*3)).toList=tcells (List.replicate n ⟨0,0,0⟩):=by
 refine List.ext_getElem? fun i=>?_;rcases Nat.lt_or_ge i (n*3) with h|h
 ·have hk:i / 3<n:=by omega
  obtain⟨q1,q2,q3⟩:=khz7 (List.replicate n ⟨0,0,0⟩) (i / 3) ⟨0,0,0⟩ (by simp[List.getElem?_replicate,hk]);have e:(madeCells #[Value.int .i64 0,Value.int .i64 0,Value.int .u8 0] (n*3)).toList[i]?=some (#[Value.int .i64 0,Value.int .i64 0,Value.int .u8 0][i % 3]!):=by
   simp[madeCells,h]
  rw[e];rcases(by omega:i % 3=0∨i % 3=1∨i % 3=2) with h3|h3|h3
  ·rw[h3,show i=i / 3*3 by omega,q1];rfl
  ·rw[h3,show i=i / 3*3+1 by omega,q2];rfl
  ·rw[h3,show i=i / 3*3+2 by omega,q3];rfl
 ·rw[List.getElem?_eq_none (by simp[size_madeCells];omega),List.getElem?_eq_none (by rw[kcc7];simp;omega)]
theorem tcells_one(l:List Tok):∀ u∈tcells l,u.oneCell'=true:=by
 intro u hu;obtain⟨x,_,hx⟩:=List.mem_flatMap.1 hu;simp only[tcell,List.mem_cons,List.not_mem_nil,or_false] at hx;rcases hx with rfl|rfl|rfl<;>rfl
theorem bitLen_mono_le{m n:Nat}(h1:1≤m)(h:m≤n)(hn:n<2 ^ 64):Lib.bitLen m≤Lib.bitLen n:=by
 obtain⟨a1,a2,a3⟩:=kbc7 m h1 (by omega);obtain⟨b1,b2,b3⟩:=kbc7 n (by omega) hn;rcases Nat.lt_or_ge (Lib.bitLen n) (Lib.bitLen m) with h4|h4
 ·have:2 ^ Lib.bitLen n≤2 ^ (Lib.bitLen m-1):=Nat.pow_le_pow_right (by decide) (by omega);omega
 ·exact h4
theorem gsz_mono{a b:Nat}(h1:1≤a)(h:a≤b)(hb:b<1000000):gsz a≤gsz b:=by
 have:=bitLen_mono_le h1 h (by omega);unfold gsz;omega
end PB
end
section
open Go.RowKit
namespace PB
structure SItem where
 A:Option Addr
 n:Nat
 c:Nat
 d:List Nat
def RdSS(w:World)(A:Option Addr)(n c:Nat)(xs:List SItem):Prop :=
 xs.length=n∧n≤c∧c≤maxLen∧(0<n→∃ b off,A=some ⟨b,off,none⟩∧b<w.heap.size∧∀ i x,xs[i]?=some x →
  w.cell? ⟨b,off+i,none⟩=some (.slice x.A x.n x.c)∧Rd w x.A x.n x.c (bcells x.d))
theorem RdSS.on{w w':World}{A:Option Addr}{n c:Nat}{xs:List SItem}(h:RdSS w A n c xs)(hb:Below w.heap.size w w'):RdSS w' A n c xs:=by
 obtain⟨h1,h2,h3,h4⟩:=h;refine⟨h1,h2,h3,fun hn=>?_⟩;obtain⟨b,off,e,hlt,hc⟩:=h4 hn;refine⟨b,off,e,Nat.lt_of_lt_of_le hlt hb.size,fun i x hx=>?_⟩;obtain⟨q1,q3⟩:=hc i x hx;exact⟨(hb.cell (p:=⟨b,off+i,none⟩) hlt).trans q1,q3.on hb⟩
theorem RdSS.alloc{w:World}{A:Option Addr}{n c:Nat}{xs:List SItem}(h:RdSS w A n c xs)(o:Obj):RdSS (w.alloc o) A n c xs:=h.on ((Below.refl _ _).alloc (Nat.le_refl _) o)
theorem RdSS.at{w:World}{A:Option Addr}{n c:Nat}{xs:List SItem}(h:RdSS w A n c xs)(k:Nat)(hk:k<xs.length) :
  ∃ b off,A=some ⟨b,off,none⟩∧b<w.heap.size∧w.cell? ⟨b,off+k,none⟩=some (.slice xs[k].A xs[k].n xs[k].c)∧Rd w xs[k].A xs[k].n xs[k].c (bcells xs[k].d):=by
 obtain⟨h1,h2,h3,h4⟩:=h;obtain⟨b,off,e,hlt,hc⟩:=h4 (by omega);exact⟨b,off,e,hlt,hc k _ (List.getElem?_eq_getElem hk)⟩
def cat(xs:List SItem):List Nat:=xs.flatMap SItem.d
theorem kbd7(xs:List SItem)(k:Nat)(h:k<xs.length):cat (xs.take (k+1))=cat (xs.take k)++xs[k].d:=by
 rw[List.take_succ_eq_append_getElem h];unfold cat;rw[List.flatMap_append,List.flatMap_singleton]
theorem cat_take_le(xs:List SItem)(k:Nat):(cat (xs.take k)).length≤(cat xs).length:=by
 have:cat xs=cat (xs.take k)++cat (xs.drop k):=by
  unfold cat;rw[←List.flatMap_append,List.take_append_drop]
 rw[this,List.length_append];omega
theorem RdSS.two (w:World) (t:TypeId) {A1 A2:Option Addr}{n1 c1 n2 c2:Nat}{d1 d2:List Nat} (h1:Rd w A1 n1 c1 (bcells d1)) (h2:Rd w A2 n2 c2 (bcells d2)) :
   RdSS (w.alloc (.cells #[.slice A1 n1 c1,.slice A2 n2 c2] t)) (some ⟨w.heap.size,0,none⟩) 2 2 [⟨A1,n1,c1,d1⟩,⟨A2,n2,c2,d2⟩]:=by
 refine⟨rfl,Nat.le_refl _,by decide,fun _=>⟨w.heap.size,0,rfl,by simp,fun i x hx=>?_⟩⟩
 have hB:=Blk.new w t #[.slice A1 n1 c1,.slice A2 n2 c2]
 match i,hx with
 | 0, hx => obtain rfl:_=x:=by simpa using hx
            exact⟨by rw[hB.cell];rfl,h1.alloc _⟩
 | 1, hx => obtain rfl:_=x:=by simpa using hx
            exact⟨by rw[show 0+1=1 from rfl,hB.cell];rfl,h2.alloc _⟩
 | i+2,hx=>simp at hx
theorem zeroCells_size(z:Array Value)(n:Nat):(Builtin.zeroCells z n).size=n*z.size:=by simp[Builtin.zeroCells]
theorem grow_nil(n:Nat)(hn:n≤70368744177664)(w:World) :
  Calls Tryz.prog 69 #[.slice none 0 0,.int .i64 (n:Int)] w fun e w'=>∃ A c,e=.returned (.slice A 0 c)∧w'.ownsRow w.heap.size 5 1 (.slice A 0 c) 0 []∧Below w.heap.size w w':=by
 obtain⟨i0,hi,hz0,hz1,hz2⟩:=info_parts kca7;rcases Nat.eq_zero_or_pos n with rfl|hpos
 ·go_enter Tryz.func69,Tryz.ntmps69
  go_wp2
  go_ret
  exact⟨none,0,rfl,World.ownsRow_nil _ _ _ _,Below.refl _ _⟩
 ·have hold:(Builtin.firstCells i0.size 0 (.slice none 0 0)).run Tryz.prog w.drew=.ok ([]:List Value).toArray w.drew:=run_firstCells_none w.drew i0.size 0 0 0;have hrz:∀ ty,(Builtin.append_ #[22,3] ty #[.slice none 0 0,.int .i64 (n:Int)]).run Tryz.prog w =
    .ok (.slice (some ⟨w.heap.size,0,none⟩) n (grownCap w n 0 5)) (w.drew.alloc (.cells (([]:List Value).toArray++Builtin.zeroCells (Value.int .u8 0).cells n++Builtin.zeroCells (Value.int .u8 0).cells (grownCap w n 0 5-n)) 5)):=fun ty=>by
   have h:=Lib.run_append_grow_zeros w 22 3 ty 5 i0 _ .i64 .i64 Tryz.underlying22 Tryz.underlying3 hi hz0 none 0 0 [] hold n hpos (by omega) (by omega) (by omega)
    (by rw[hz2];omega) (by rw[hz2];exact growslice_fits (by omega) (by omega))
   simpa only [Nat.zero_add] using h
  have hGn:n≤grownCap w n 0 5:=grownCap_ge w _ _ _;obtain⟨G,hG⟩:∃ G,G=grownCap w n 0 5:=⟨_,rfl⟩
  rw[←hG] at hrz hGn;have hG63:G≤maxLen:=by
   have:=grownCap_le_maxLen w n 0 5 (by unfold maxLen;omega)
   rwa [←hG] at this
  have hGM:=hG63;unfold maxLen at hGM;obtain⟨C,hC⟩:∃ C,C=(([]:List Value).toArray++Builtin.zeroCells (Value.int .u8 0).cells n++Builtin.zeroCells (Value.int .u8 0).cells (G-n)):=⟨_,rfl⟩
  have HCS:=Lib.hid (show C.size=G*1 by rw[hC];simp only[Array.size_append,zeroCells_size];simp[Value.cells];omega);rw[←hC] at hrz;clear hold hG hC
  go_enter Tryz.func69,Tryz.ntmps69
  go_wp2_with (at_builtin;refine Lib.wpList_append_run _ rfl _ _ _ _ rfl _ _ rfl rfl _ _ (hrz _) ?_)
  all_goals
   go_ret
   exact⟨_,_,rfl,World.ownsRow_made (w:=w.drew) C G (Nat.le_refl _) hG63 HCS.out,(Below.refl _ _).drew.alloc (Nat.le_refl _) _⟩
theorem concat_any{A:Option Addr}{n c:Nat}{xs:List SItem}{w:World}(h:RdSS w A n c xs)(hl:(cat xs).length≤70368744177664) :
  Calls Tryz.prog 35 #[.slice A n c] w fun e w'=>∃ A' c',e=.returned (.slice A' (cat xs).length c')∧w'.ownsRow w.heap.size 5 1 (.slice A' (cat xs).length c') (cat xs).length (bcells (cat xs))∧Below w.heap.size w w':=by
 obtain⟨i0,hi,hz0,hz1,hz2⟩:=info_parts kca7;have hn:=h.1;have hcap:=h.2.1;have hcm:=h.2.2.1;unfold maxLen at hcm;obtain rfl:=hn;have HTL:=Lib.hid (cat_take_le xs);obtain⟨N,hN⟩:∃ N,N=(cat xs).length:=⟨_,rfl⟩
 rw[←hN] at hl HTL ⊢;have HN:=Lib.hid hN;clear hN
 go_enter Tryz.func35,Tryz.ntmps35
 go_wp2_with fail
 go_loop [3,11] (fun t i=>∃ k:Nat,k≤xs.length∧i=.int .i64 k∧t=.int .i64 ((cat (xs.take k)).length:Nat)) (fun _ i=>xs.length-(intOf i).toNat)
 case atStart=>exact⟨0,Nat.zero_le _,rfl,rfl⟩
 case round =>
  obtain⟨k,hk,rfl,rfl⟩:=hrel;have hT:=HTL.out k;obtain⟨T,hTT⟩:∃ T,T=(cat (xs.take k)).length:=⟨_,rfl⟩
  rw[←hTT] at hT ⊢;have HT:=Lib.hid hTT;clear hTT;by_cases hlt:k<xs.length
  ·obtain⟨b,off,rfl,hb,q1,R⟩:=h.at k hlt;obtain⟨x,hx⟩:∃ x,x=xs[k]:=⟨_,rfl⟩
   rw[←hx] at q1 R;have hs:=HTL.out (k+1);have hxl:=R.len;rw[ka7] at hxl;rw[kbd7 xs k hlt,List.length_append,←HT.out,←hx,hxl] at hs;have HS:=Lib.hid (show(cat (xs.take (k+1))).length=T+x.n by rw[kbd7 xs k hlt,List.length_append,←HT.out,←hx,hxl]);clear hx hxl R
   go_wp2_with fail
   go_round
   case rel=>exact⟨k+1,by omega,by go_num,congrArg (Value.int .i64) (by rw[HS.out];omega)⟩
   case measure=>simp[intOf];omega
  ·obtain rfl:k=xs.length:=by omega
   obtain rfl:T=N:=by rw[HT.out,HN.out,List.take_of_length_le (Nat.le_refl _)]
   go_wp2_with fail
   refine(grow_nil T hl _).mono ?_;rintro e w1 ⟨A1,c1,rfl,ho1,y1⟩;have HO1:=Lib.hid ho1;clear ho1
   go_wp2_with fail
   go_loopw [6,27] (fun s i wr=>∃ k:Nat,k≤xs.length∧i=.int .i64 k∧Below w.heap.size w wr∧∃ A2 c2 m,s=.slice A2 m c2∧m=(cat (xs.take k)).length∧wr.ownsRow w.heap.size 5 1 (.slice A2 m c2) m (bcells (cat (xs.take k)))) (fun _ i _=>xs.length-(intOf i).toNat)
   case atStart=>exact⟨0,Nat.zero_le _,rfl,y1,A1,c1,0,rfl,rfl,HO1.out⟩
   case round =>
    obtain⟨k,hk,rfl,yr,A2,c2,m,rfl,hm,ho⟩:=hrel;have hmb:m≤T:=by rw[hm];exact HTL.out k
    have HM:=Lib.hid hm;clear hm y1;have yrs:=yr.size;by_cases hlt:k<xs.length
    ·obtain⟨b,off,rfl,hb,q1,R⟩:=(h.on yr).at k hlt;obtain⟨x,hx⟩:∃ x,x=xs[k]:=⟨_,rfl⟩
     rw[←hx] at q1 R;have hs:=HTL.out (k+1);have hxl:=R.len;rw[ka7] at hxl;rw[kbd7 xs k hlt,List.length_append,←HM.out,←hx,hxl] at hs;have HS:=Lib.hid (show(cat (xs.take (k+1))).length=m+x.n by rw[kbd7 xs k hlt,List.length_append,←HM.out,←hx,hxl]);have HC:=Lib.hid (show bcells (cat (xs.take (k+1)))=bcells (cat (xs.take k))++bcells x.d by rw[kbd7 xs k hlt,←hx,kbz7]);clear hx hxl;have HO:=Lib.hid ho;clear ho
     go_wp2_with (at_builtin;refine kbe7 _ rfl _ _ _ rfl w.heap.size 5 i0 _ 1 Tryz.underlying22 hi hz0 hz1 hz2 rfl _ _ _ rfl HO.out _ _ x.n x.c _ rfl R (kht7 _) ?c1 ?c2 yrs ?_)
     case c1=>unfold maxLen;omega
     case c2=>omega
     intro A4 c4 w4 ho4 hg4 hat4;have Y4:=kaq7 yr HO.out hg4 (Nat.le_refl _) yrs;rw[←HC.out] at ho4;have HO4:=Lib.hid ho4;clear ho4
     go_wp2_with fail
     go_roundw
     case rel=>exact⟨k+1,by omega,by go_num,Y4,A4,c4,m+x.n,rfl,HS.out.symm,HO4.out⟩
     case measure=>simp[intOf];omega
    ·obtain rfl:k=xs.length:=by omega
     have e:cat (xs.take xs.length)=cat xs:=by rw[List.take_of_length_le (Nat.le_refl _)]
     rw[e] at HM ho;obtain rfl:m=T:=by rw[HM.out,HN.out]
     have HO:=Lib.hid ho;clear ho e
     go_wp2_with fail
     go_ret
     exact⟨_,_,rfl,HO.out,yr⟩
theorem kfd7{A1 A2:Option Addr}{n1 c1 n2 c2:Nat}{d1 d2:List Nat}{w:World}(t:TypeId)(h1:Rd w A1 n1 c1 (bcells d1))(h2:Rd w A2 n2 c2 (bcells d2))(hl:n1+n2≤70368744177664)(g:Nat)(hg:g=w.heap.size) :
  Calls Tryz.prog 35 #[.slice (some ⟨g,0,none⟩) 2 2] (w.alloc (.cells #[.slice A1 n1 c1,.slice A2 n2 c2] t)) fun e w'=>∃ A' c',e=.returned (.slice A' (n1+n2) c')∧w'.ownsRow w.heap.size 5 1 (.slice A' (n1+n2) c') (n1+n2) (bcells (d1++d2))∧Below w.heap.size w w':=by
 subst hg;have e1:=h1.len;have e2:=h2.len;rw[ka7] at e1 e2;have ec:cat [⟨A1,n1,c1,d1⟩,⟨A2,n2,c2,d2⟩]=d1++d2:=by simp[cat]
 have el:(cat [⟨A1,n1,c1,d1⟩,⟨A2,n2,c2,d2⟩]).length=n1+n2:=by rw[ec,List.length_append,e1,e2]
 have:=concat_any (RdSS.two w t h1 h2) (by rw[el];exact hl);rw[ec,←ec,el,ec] at this;refine this.mono ?_;rintro e w' ⟨A',c',rfl,ho,hb⟩;exact⟨A',c',rfl,kao7 ho (by simp),((Below.refl _ _).alloc (Nat.le_refl _) _).trans (hb.mono (by simp))⟩
theorem Rd.tail{P:Program}{A:Option Addr}{n c:Nat}(t e:TypeId)(i:TypeInfo)(ht:P.underlying t=some (.slice e))(hi:P.info? e=some i)(hsize:i.size=1)(hcap:n≤c)(f:Nat)(hf:f≤n) :
  ∃ A',(∀ W,(Instr.slice t (.slice A n c) (some (.int .i64 (f:Nat))) none none).run P W=.ok (.slice A' (n-f) (c-f)) W)∧∀ (w:World) (xs:List Value),Rd w A n c xs→Rd w A' (n-f) (c-f) (xs.drop f):=by
 have hrun:∀ W,(Instr.slice t (.slice A n c) (some (.int .i64 (f:Nat))) none none).run P W=.ok (.slice (if c=f then A else A.map (·.add (f*1))) (n-f) (c-f)) W:=by
  intro W;have h1:n≤c:=by omega
  simp[Instr.slice,Instr.sliceBounds,Instr.sliceBound,asIntOf,run_underlying ht,sizeOf,typeInfo,hi,hsize,h1,hf,go_sem]
 refine⟨_,hrun,fun w xs h=>?_⟩;have hn:=h.len;have hcm:=Reads.capMax h;by_cases hc:c=f
 ·rw[if_pos hc];have h0:n-f=0:=by omega
  rw[h0,List.drop_eq_nil_of_le (by omega)];exact Reads.nil _ _ A _ (by omega)
 ·rw[if_neg hc];refine⟨by rw[List.length_drop];omega,by omega,by omega,fun hpos=>?_⟩;obtain⟨b,off,rfl,hb,hcell⟩:=h.2.2.2 (by omega);refine⟨b,off+f,?_,hb,fun j u hu=>?_⟩
  ·simp only[Option.map_some,Nat.mul_one,Option.some.injEq];unfold Addr.add;by_cases h0:f=0<;>simp[h0]
  ·rw[List.getElem?_drop] at hu;have:=hcell (f+j) u hu
   rwa [←Nat.add_assoc] at this
theorem bclone_any{A:Option Addr}{n c:Nat}{d:List Nat}{w:World}(h:Rd w A n c (bcells d))(hl:n≤140737488355328) :
  Calls Tryz.prog 44 #[.slice A n c] w fun e w'=>∃ A' c',e=.returned (.slice A' n c')∧w'.ownsRow w.heap.size 5 1 (.slice A' n c') n (bcells d)∧Below w.heap.size w w':=by
 obtain⟨i0,hi,hz0,hz1,hz2⟩:=info_parts kca7;have hnil:=fun W=>Lib.run_eql_slice_nil (P:=Tryz.prog) W 22 5 A n c 0 0 Tryz.underlying22;cases A with
 | none =>
  obtain rfl:n=0:=by
   rcases Nat.eq_zero_or_pos n with h0|h0
   ·exact h0
   ·obtain⟨_,_,e,_⟩:=h.2.2.2 h0;cases e
  go_enter Tryz.func44,Tryz.ntmps44
  go_wp2
  go_ret
  have hd:bcells d=[]:=List.eq_nil_of_length_eq_zero h.1;exact⟨none,0,rfl,by rw[hd];exact World.ownsRow_nil _ _ _ _,Below.refl _ _⟩
 | some ad =>
  have y0:Below w.heap.size w (w.alloc (.cells #[] 5)):=(Below.refl _ _).alloc (Nat.le_refl _) _;have hO:(w.alloc (.cells #[] 5)).ownsRow w.heap.size 5 1 (.slice (some ⟨w.heap.size,0,none⟩) 0 0) 0 []:=by
   have:=World.ownsRow_lit (base:=w.heap.size) (e:=5) (size:=1) w #[] 0 (Nat.le_refl _) (by simp[maxLen]) rfl
   simpa using this
  go_enter Tryz.func44,Tryz.ntmps44
  go_wp2_with (at_builtin;refine kbe7 _ rfl _ _ _ rfl w.heap.size 5 i0 _ 1 Tryz.underlying22 hi hz0 hz1 hz2 rfl _ _ _ rfl hO _ _ n c _ rfl (h.alloc _) (kht7 _) ?c1 ?c2 ?c3 ?_)
  case c1=>unfold maxLen;omega
  case c2=>omega
  case c3=>simp
  intro A4 c4 w4 ho4 hg4 hat4;have Y4:=kaq7 y0 hO hg4 (Nat.le_refl _) (by simp)
  (try simp only[Nat.zero_add,List.nil_append] at ho4)
  have HO4:=Lib.hid ho4;clear ho4
  go_wp2
  go_ret
  have e0:0+n=n:=Nat.zero_add n;have ho5:=HO4.out
  (try rw[e0] at ho5)
  exact⟨A4,c4,by simp,ho5,Y4⟩
end PB
end
section
open Go.RowKit
attribute [local go_sem ↓] Go.wp_at_zero Go.wp_at_succ
namespace PB
def ParseOut(all:List Nat)(f:Nat)(w:World)(e:Ending)(w':World):Prop :=
 ∃ L nn dd A' m c',e=.returned (.tuple #[.slice A' m c',.agg #[.int .i64 0,.int .i64 0]])∧Tab gsz all f L nn dd∧w'.ownsRow w.heap.size 79 3 (.slice A' m c') m (tcells (tokens all nn dd f))∧Below w.heap.size w w'
structure PRows(w0 w1 w:World)(gs gl gb:Nat)(all:List Nat)(S Ls:List Nat)(Bs:List Tok):Prop where
 s:w.ownsRow (w0.heap.size+1) 3 1 (.slice (some ⟨gs,0,none⟩) (all.length+1) (all.length+1)) (all.length+1) (ncells S)
 l:w.ownsRow (w0.heap.size+1) 3 1 (.slice (some ⟨gl,0,none⟩) (all.length+1) (all.length+1)) (all.length+1) (ncells Ls)
 b:w.ownsRow (w0.heap.size+1) 79 3 (.slice (some ⟨gb,0,none⟩) all.length all.length) all.length (tcells Bs)
 x:Two w w0.heap.size 24 (.int .i64 0) (.int .i64 0)
 y:Below w0.heap.size w0 w
 z:Below gs w1 w
 o:gs<gl∧gl<gb
section
variable {w0 w1 w w':World}{gs gl gb:Nat}{all S Ls:List Nat}{Bs:List Tok}
theorem PRows.lts(h:PRows w0 w1 w gs gl gb all S Ls Bs):w0.heap.size+1≤gs∧gs<w.heap.size:=h.s.lt _ rfl
theorem PRows.ltl(h:PRows w0 w1 w gs gl gb all S Ls Bs):w0.heap.size+1≤gl∧gl<w.heap.size:=h.l.lt _ rfl
theorem PRows.ltb(h:PRows w0 w1 w gs gl gb all S Ls Bs):w0.heap.size+1≤gb∧gb<w.heap.size:=h.b.lt _ rfl
theorem PRows.on(h:PRows w0 w1 w gs gl gb all S Ls Bs)(hb:Below w.heap.size w w'):PRows w0 w1 w' gs gl gb all S Ls Bs :=
 ⟨kdc7 h.s hb,kdc7 h.l hb,kdc7 h.b hb,h.x.on hb,h.y.trans (hb.mono h.y.size),h.z.trans (hb.mono (by have:=h.lts;omega)),h.o⟩
theorem PRows.drew(h:PRows w0 w1 w gs gl gb all S Ls Bs):PRows w0 w1 w.drew gs gl gb all S Ls Bs:=⟨h.s,h.l,h.b,h.x,belowD h.y,belowD h.z,h.o⟩
theorem PRows.drewN(h:PRows w0 w1 w gs gl gb all S Ls Bs)(q:Nat):PRows w0 w1 (w.drewN q) gs gl gb all S Ls Bs:=⟨h.s,h.l,h.b,h.x,belowN h.y q,belowN h.z q,h.o⟩
theorem PRows.alloc(h:PRows w0 w1 w gs gl gb all S Ls Bs)(o:Obj):PRows w0 w1 (w.alloc o) gs gl gb all S Ls Bs:=h.on ((Below.refl _ _).alloc (Nat.le_refl _) o)
theorem PRows.sets(h:PRows w0 w1 w gs gl gb all S Ls Bs)(i x:Nat)(xi:Int)(hx:xi=(x:Nat)):PRows w0 w1 (w.setCell ⟨gs,i,none⟩ (.int .i64 xi)) gs gl gb all (S.set i x) Ls Bs:=by
 subst hx;have hx:=h.lts;have ho:=h.o;have e:ncells (S.set i x)=(ncells S).set i (.int .i64 (x:Nat)):=by simp[ncells,List.map_set]
 exact⟨by rw[e];exact(h.s.stored i _).1,kby7 h.l (by show gs≠gl;omega) _,kby7 h.b (by show gs≠gb;omega) _,h.x.far (by show w0.heap.size≠gs;omega) _,h.y.setCell (by show w0.heap.size≤gs;omega) _,h.z.setCell (by show gs≤gs;omega) _,h.o⟩
theorem PRows.setl(h:PRows w0 w1 w gs gl gb all S Ls Bs)(i x:Nat)(xi:Int)(hx:xi=(x:Nat)):PRows w0 w1 (w.setCell ⟨gl,i,none⟩ (.int .i64 xi)) gs gl gb all S (Ls.set i x) Bs:=by
 subst hx;have hx:=h.ltl;have ho:=h.o;have e:ncells (Ls.set i x)=(ncells Ls).set i (.int .i64 (x:Nat)):=by simp[ncells,List.map_set]
 exact⟨kby7 h.s (by show gl≠gs;omega) _,by rw[e];exact(h.l.stored i _).1,kby7 h.b (by show gl≠gb;omega) _,h.x.far (by show w0.heap.size≠gl;omega) _,h.y.setCell (by show w0.heap.size≤gl;omega) _,h.z.setCell (by show gs≤gl;omega) _,h.o⟩
theorem PRows.setb(h:PRows w0 w1 w gs gl gb all S Ls Bs)(i:Nat)(hi:i<all.length)(d n lit:Int)(t:Tok)(ht:t.d=d∧t.n=n∧((t.lit:Nat):Int)=lit) :
  PRows w0 w1 (((w.setCell ⟨gb,i*3,none⟩ (.int .i64 d)).setCell ⟨gb,i*3+1,none⟩ (.int .i64 n)).setCell ⟨gb,i*3+2,none⟩ (.int .u8 lit)) gs gl gb all S Ls (Bs.set i t):=by
 obtain⟨rfl,rfl,rfl⟩:=ht;have hx:=h.ltb;have ho:=h.o;have hl:=h.b.1;rw[kcc7] at hl;have e1:gb≠gs:=by omega
 have e2:gb≠gl:=by omega
 have e3:w0.heap.size≠gb:=by omega
 have e4:w0.heap.size≤gb:=by omega
 have e5:gs≤gb:=by omega
 refine⟨kby7 (kby7 (kby7 h.s e1 _) e1 _) e1 _,kby7 (kby7 (kby7 h.l e2 _) e2 _) e2 _,?_,
  ((h.x.far e3 _).far e3 _).far e3 _,((h.y.setCell e4 _).setCell e4 _).setCell e4 _,((h.z.setCell e5 _).setCell e5 _).setCell e5 _,h.o⟩
 rw[←tcells_set Bs i t (by omega)];exact(((h.b.stored (i*3) _).1.stored (i*3+1) _).1.stored (i*3+2) _).1
theorem PRows.grown(h:PRows w0 w1 w gs gl gb all S Ls Bs){row:Option Nat}(hg:w.grownBy w' row)(hr:∀ g,row=some g→gb<g):PRows w0 w1 w' gs gl gb all S Ls Bs:=by
 have ho:=h.o;have a1:=h.lts;have a2:=h.ltl;have a3:=h.ltb;have key:∀ q,q≤gb→some q≠row:=fun q hq e=>by have:=hr q e.symm;omega
 have kb:∀ {base e size n c xs g},w.ownsRow base e size (.slice (some ⟨g,0,none⟩) n c) n xs→g≤gb→w'.ownsRow base e size (.slice (some ⟨g,0,none⟩) n c) n xs:=by
  intro base e size n c xs g hw hq;rcases hw.2 with⟨q1,_⟩|⟨g',cap,cur,q1,q2,q3,q4⟩
  ·cases q1
  ·injection q1 with q1 q5 q6;injection q1 with q1;injection q1 with q1;subst q1 q6;refine⟨hw.1,.inr ⟨g,c,cur,rfl,q2,?_,q4⟩⟩;have hlt:g<w.heap.size:=by
    rcases Nat.lt_or_ge g w.heap.size with h|h
    ·exact h
    ·rw[Array.getElem?_eq_none h] at q3;cases q3
   exact(hg.block g hlt (key g hq)).trans q3
 refine⟨kb h.s (by omega),kb h.l (by omega),kb h.b (Nat.le_refl _),h.x.grown hg (key _ (by omega)),h.y.grown hg h.y.size (fun g hq=>by have:=hr g hq;omega),h.z.grown hg (by omega) (fun g hq=>by have:=hr g hq;omega),h.o⟩
theorem PRows.sat(h:PRows w0 w1 w gs gl gb all S Ls Bs)(i:Nat)(hi:i≤all.length):w.cell? ⟨gs,i,none⟩=some (.int .i64 (S.getD i 0:Nat))∧w.frozen? ⟨gs,i,none⟩=false:=by
 have hl:=h.s.1;rw[kgg7] at hl;refine⟨?_,h.s.frozenAt i⟩;rw[h.s.cellAt i (by omega),ncells_get _ _ (by omega)]
theorem PRows.lat(h:PRows w0 w1 w gs gl gb all S Ls Bs)(i:Nat)(hi:i≤all.length):w.cell? ⟨gl,i,none⟩=some (.int .i64 (Ls.getD i 0:Nat))∧w.frozen? ⟨gl,i,none⟩=false:=by
 have hl:=h.l.1;rw[kgg7] at hl;refine⟨?_,h.l.frozenAt i⟩;rw[h.l.cellAt i (by omega),ncells_get _ _ (by omega)]
theorem PRows.bat(h:PRows w0 w1 w gs gl gb all S Ls Bs)(i:Nat)(hi:i<all.length):∃ t,Bs[i]?=some t∧w.cell? ⟨gb,i*3,none⟩=some (.int .i64 t.d)∧w.cell? ⟨gb,i*3+1,none⟩=some (.int .i64 t.n)∧w.cell? ⟨gb,i*3+2,none⟩=some (.int .u8 (t.lit:Nat)) ∧
  w.frozen? ⟨gb,i*3,none⟩=false∧w.frozen? ⟨gb,i*3+1,none⟩=false∧w.frozen? ⟨gb,i*3+2,none⟩=false:=by
 have hl:=h.b.1;rw[kcc7] at hl;have e:Bs[i]?=some (Bs[i]'(by omega)):=List.getElem?_eq_getElem (by omega);obtain⟨q1,q2,q3⟩:=khz7 Bs i _ e;exact⟨_,e,by rw[h.b.cellAt _ (by omega),q1],by rw[h.b.cellAt _ (by omega),q2],by rw[h.b.cellAt _ (by omega),q3],h.b.frozenAt _,h.b.frozenAt _,h.b.frozenAt _⟩
end
theorem lzparse_ok{A:Option Addr}{n c:Nat}{data:List Nat}{A2:Option Addr}{n2 c2:Nat}{dict:List Nat}{w:World}(h:Rd w A n c (bcells data))(h2:Rd w A2 n2 c2 (bcells dict))(hn:n≤1024)(hn2:n2≤512) :
  Calls Tryz.prog 145 #[.slice A n c,.slice A2 n2 c2] w (ParseOut (dict++data) n2 w):=by
 obtain⟨i0,hi,hz0,hz1,hz2⟩:=info_parts int_info;obtain⟨i1,ti,tz0,tz1,tz2⟩:=info_parts tok_info;have X0:=Two.new w 24 (.int .i64 0) (.int .i64 0);have y0:Below w.heap.size w (w.alloc (.cells #[.int .i64 0,.int .i64 0] 24)):=(Below.refl _ _).alloc (Nat.le_refl _) _;have hcon:=kfd7 22 (h2.alloc (.cells #[.int .i64 0,.int .i64 0] 24)) (h.alloc (.cells #[.int .i64 0,.int .i64 0] 24)) (by omega) (w.heap.size+1) (by simp);obtain⟨all,hall⟩:∃ all,all=dict++data:=⟨_,rfl⟩
 have e1:=h.len;have e2:=h2.len;rw[ka7] at e1 e2;have hN:n2+n=all.length:=by rw[hall,List.length_append,e1,e2]
 rw[hN,←hall] at hcon;rw[←hall];have hNle:all.length≤1536:=by omega
 have hfN:n2≤all.length:=by omega
 have HCON:=Lib.hid hcon;clear hcon hN e1 e2 hall h h2;have k1:decide ((1024:Int)<(n:Int))=false:=by simp;omega
 have k2:decide ((512:Int)<(n2:Int))=false:=by simp;omega
 go_enter Tryz.func145,Tryz.ntmps145
 go_wp2_with fail
 refine HCON.out.mono ?_;rintro e w1 ⟨Aa,ca,rfl,oa,ya⟩;clear HCON;have RA1:=Rd.own oa;have X1:=X0.on ya;have Y1:=y0.trans (ya.mono y0.size);have s1:=ya.size;have s1':w.heap.size+1≤w1.heap.size:=by simpa using s1
 clear oa ya X0 y0 s1;have hcm:=Reads.capMax RA1;have hcap:=Reads.cap RA1;unfold maxLen at hcm
 go_wp2_with (with_reducible refine khw7 _ rfl _ _ 41 rfl 3 i0 _ 8 Tryz.underlying41 hi hz0 hz1 hz2 rfl _ _ _ _ (all.length+1) rfl rfl ?b0 ?b1 ?b2 ?b3 ?_)
 case b0=>omega
 case b1=>omega
 case b2=>omega
 case b3=>unfold maxLen;omega
 intro w2 o2 y2 s2;have X2:=X1.on y2;have Y2:=Y1.trans (y2.mono Y1.size);have Z2:=y2;clear X1 Y1
 go_wp2_with (with_reducible refine khw7 _ rfl _ _ 41 rfl 3 i0 _ 8 Tryz.underlying41 hi hz0 hz1 hz2 rfl _ _ _ _ (all.length+1) rfl rfl ?d0 ?d1 ?d2 ?d3 ?_)
 case d0=>omega
 case d1=>omega
 case d2=>omega
 case d3=>unfold maxLen;omega
 intro w3 o3 y3 s3;have X3:=X2.on y3;have Y3:=Y2.trans (y3.mono Y2.size);have Z3:=Z2.trans (y3.mono Z2.size);have o23:=kdc7 o2 y3;clear X2 Y2 o2 Z2 y2
 go_wp2_with (with_reducible refine wpList_make_full _ rfl _ _ 44 rfl w3.heap.size 79 i1 _ 3 Tryz.underlying44 ti tz0 tz1 _ _ _ _ all.length rfl rfl rfl rfl ?f2 ?f3 (Nat.le_refl _) ?_)
 case f2=>rw[tz2];omega
 case f3=>unfold maxLen;omega
 intro w4 o4 g4;have y4:Below w3.heap.size w3 w4:=(Below.refl _ _).grown g4 (Nat.le_refl _) (by simp);have s4:=(o4.lt _ rfl).2
 (try simp only[Value.cells] at o4)
 rw[madeTok] at o4;have X4:=X3.on y4;have Y4:=Y3.trans (y4.mono Y3.size);have Z4:=Z3.trans (y4.mono Z3.size);have o24:=kdc7 o23 y4;have o34:=kdc7 o3 y4;have zr:List.replicate (all.length+1) (Value.int .i64 0)=ncells (List.replicate (all.length+1) 0):=by simp[ncells]
 rw[zr] at o24 o34;have hP:PRows w w1 w4 w1.heap.size w2.heap.size w3.heap.size all (List.replicate (all.length+1) 0) (List.replicate (all.length+1) 0) (List.replicate all.length ⟨0,0,0⟩) :=
  ⟨kao7 o24 s1',kao7 o34 (by omega),kao7 o4 (by omega),X4,Y4,Z4,s2,s3⟩
 have HP:=Lib.hid hP;have HRA:=Lib.hid (show Reads w1 w1.heap.size Aa all.length ca (bcells all) from RA1);clear hP o4 g4 y4 s4 RA1 X3 Y3 o23 X4 Y4 o24 o34 zr y3 o3 Z3 Z4;obtain⟨gs,hgs⟩:∃ g,g=w1.heap.size:=⟨_,rfl⟩
 obtain⟨gl,hgl⟩:∃ g,g=w2.heap.size:=⟨_,rfl⟩
 obtain⟨gb,hgb⟩:∃ g,g=w3.heap.size:=⟨_,rfl⟩
 rw[←hgs] at s1' s2 HP HRA ⊢;rw[←hgl] at s2 s3 HP ⊢;rw[←hgb] at s3 HP ⊢;clear hgs hgl hgb hi ti hz0 hz1 hz2 tz0 tz1 tz2
 go_wp2_with fail
 go_loopw [11] (fun i wr=>∃ p:Nat,n2≤p∧p≤all.length∧i=.int .i64 ((p:Int)-1)∧∃ S Ls Bs nn dd,PRows w w1 wr gs gl gb all S Ls Bs∧SameL all p S (p+1)∧TabL gsz all p Ls Bs nn dd) (fun i _=>(intOf i+1).toNat)
 case atStart=>exact⟨all.length,hfN,Nat.le_refl _,rfl,_,_,_,_,_,HP.out,SameL.start,TabL.start⟩
 case round =>
  obtain⟨p,hp1,hp2,rfl,S,Ls,Bs,nn,dd,hP,hS,hT⟩:=hrel;clear HP;have HS:=Lib.hid hS;have HT:=Lib.hid hT;clear hS hT;by_cases hlt:n2<p
  ·obtain⟨i,rfl⟩:∃ i,p=i+1:=⟨p-1,by omega⟩
   have hil:i<all.length:=by omega
   have hin:n2≤i:=by omega
   rw[show(((i+1:Nat):Int)-1)=(i:Int) by omega];obtain⟨b,off,rfl,hb,hc⟩:=(HRA.out.below hP.z).2.2.2 (by omega);have hci:=hc i _ (kck7 all i hil);obtain⟨x,hx⟩:∃ x,x=all.getD i 0:=⟨_,rfl⟩
   rw[←hx] at hci;have HX:=Lib.hid hx;have i1:(0:Int)≤(i:Int):=by omega
   have i2:(i:Int)<(all.length:Int):=by omega
   obtain⟨t0,_,q0,q1,q2,z0,z1,z2⟩:=hP.bat i hil;clear hc hx
   go_upto_region 14 with(fail)
   have hP2:=hP.setb i hil 0 0 ((x:Nat):Int) (tk all i 0 0) ⟨rfl,rfl,by rw[HX.out];rfl⟩;generalize (((wr.setCell ⟨gb,i*3,none⟩ (.int .i64 0)).setCell ⟨gb,i*3+1,none⟩ (.int .i64 0)).setCell ⟨gb,i*3+2,none⟩ (.int .u8 ((x:Nat):Int)))=wa at hP2 ⊢;clear hP q0 q1 q2 z0 z1 z2 hci;have hv1:=HT.out.tab.le (all.length-(i+1)) (i+1) (Nat.le_refl _) (by omega);obtain⟨v,hv⟩:∃ v,v=Ls.getD (i+1) 0:=⟨_,rfl⟩
   have hv2:v≤13824:=by rw[hv];(try simp only at hv1);omega
   obtain⟨l0,_⟩:=hP2.lat (i+1) (by omega);obtain⟨l1,l2⟩:=hP2.lat i (by omega);rw[←hv] at l0;have HV:=Lib.hid hv;clear hv hv1
   go_upto_region 15 with(fail)
   have hP3:=hP2.setl i (9+v) (9+(v:Int)) (by omega);generalize (wa.setCell ⟨gl,i,none⟩ (.int .i64 (9+(v:Int))))=wb at hP3 ⊢;clear hP2 l0 l1 l2;have HP3:=Lib.hid hP3;clear hP3
   go_wp2_with fail
   go_loopw [12,13] (fun len d wr=>∃ D ln cc nn0 dd0:Nat,∃ S':List Nat,1≤D∧D≤i+1∧2≤ln∧ln≤1538∧len=.int .i64 ln∧d=.int .i64 D∧PRows w w1 wr gs gl gb all S' (Ls.set i cc) (Bs.set i (tk all i nn0 dd0)) ∧
     SameL all i S' D∧(∀ d',1≤d'→d'<D→rep all i d'≤ln)∧Good gsz all (fun j=>Ls.getD j 0) i (fun n' _=>n'≤ln) cc nn0 dd0) (fun _ d _=>(i+1-(intOf d).toNat))
   case atStart =>
    refine⟨1,2,_,0,0,_,Nat.le_refl _,by omega,Nat.le_refl _,by omega,rfl,rfl,HP3.out,HS.out.next (by omega),fun d' h1 h2=>absurd h2 (by omega),?_⟩;rw[HV.out];exact Good.start fun n' d' h1 h2=>by have:=h1.1;omega
   case round =>
    obtain⟨D,ln,cc,nn0,dd0,S',hD1,hD2,hl2,hl3,rfl,rfl,hP,hS',hrep,hG⟩:=hrel;have HS':=Lib.hid hS';have HREP:=Lib.hid hrep;have HG:=Lib.hid hG;clear HP3 hS' hrep hG;by_cases hDi:D≤i
    ·obtain⟨_,_,he,hb',hc⟩:=(HRA.out.below hP.z).2.2.2 (by omega);obtain⟨rfl,rfl⟩:b=_∧off=_:=by injection he with he;injection he with h1 h2;exact⟨h1,h2⟩
     have hc1:=hc i _ (kck7 all i hil);have hc2:=hc (i-D) _ (kck7 all (i-D) (by omega));rw[←HX.out] at hc1;obtain⟨y,hy⟩:∃ y,y=all.getD (i-D) 0:=⟨_,rfl⟩
     rw[←hy] at hc2;have HY:=Lib.hid hy;have j1:(0:Int)≤(i:Int)-(D:Int):=by omega
     have j2:(i:Int)-(D:Int)<(all.length:Int):=by omega
     have j3:((i:Int)-(D:Int)).toNat=i-D:=by omega
     have j4:IntKind.i64.wrap ((i:Int)-(D:Int))=(i:Int)-(D:Int):=IntWalk.i64_in _ (by omega);obtain⟨l1,l2⟩:=hP.sat D (by omega);obtain⟨q,hq⟩:∃ q,q=S'.getD D 0:=⟨_,rfl⟩
     rw[←hq] at l1;have HQ:=Lib.hid hq;clear hy hq hc he;by_cases hxy:x=y
     ·subst hxy;have hne:(((x:Nat):Int) != ((x:Nat):Int))=false:=by simp
      have hR:=Lib.hid (show rep all i D=q+1 by rw[rep_yes hil (by rw[←HX.out,←HY.out]),HQ.out,HS'.out.2.2 D (Nat.le_refl _) (by omega)]);have hRle:q+1≤all.length-i:=by rw[←hR.out];exact rep_le
      go_wp2_with fail
      go_quiet (fail)
      go_wp2_with fail
      have hP4:=(hP.drewN nq).sets D (q+1) ((q:Int)+1) (by omega);generalize ((wr.drewN nq).setCell ⟨gs,D,none⟩ (.int .i64 ((q:Int)+1)))=wc at hP4 ⊢;have HS4:=Lib.hid (show SameL all i (S'.set D (q+1)) (D+1) by rw[HQ.out];exact HS'.out.yes hD1 hDi hil (by rw[←HX.out,←HY.out]));have HP4:=Lib.hid hP4;clear hP hP4 l1 l2 hc1 hc2 hne
      go_loopw [12] (fun len wr=>∃ lm cc nn0 dd0:Nat,2≤lm∧lm≤1538∧ln≤lm∧(lm=ln∨lm≤q+1)∧len=.int .i64 lm∧PRows w w1 wr gs gl gb all (S'.set D (q+1)) (Ls.set i cc) (Bs.set i (tk all i nn0 dd0)) ∧
        Good gsz all (fun j=>Ls.getD j 0) i (fun n' _=>n'≤lm) cc nn0 dd0) (fun len _=>(q+1-(intOf len).toNat))
      case atStart=>exact⟨ln,cc,nn0,dd0,hl2,hl3,Nat.le_refl _,.inl rfl,rfl,HP4.out,HG.out⟩
      case round =>
       clear HP4 HG hl2 hl3;obtain⟨lm,cc,nn0,dd0,hl2,hl3,hl4,hl5,rfl,hP,hG⟩:=hrel;have HG:=Lib.hid hG;have HL5:=Lib.hid hl5;have hcc:=hG.lit;clear hG hl5;rw[←HV.out] at hcc;obtain⟨l1,l2⟩:=hP.sat D (by omega);rw[kbj7 (by have:=HS'.out.1;omega)] at l1;by_cases hlq:lm<q+1
       ·have hcand:=Lib.hid (show Cand all i (lm+1) D from⟨by omega,hD1,hDi,by rw[hR.out];omega⟩);have hin1:i+lm+1≤all.length:=by omega
        obtain⟨m0,_⟩:=hP.lat (i+lm+1) (by omega);rw[kad7 (by omega)] at m0;obtain⟨v2,hv2'⟩:∃ v2,v2=Ls.getD (i+lm+1) 0:=⟨_,rfl⟩
        have hv3:=HT.out.tab.le (all.length-(i+lm+1)) (i+lm+1) (by omega) (by omega);have hv4:v2≤13824:=by rw[hv2'];(try simp only at hv3);omega
        rw[←hv2'] at m0;have HV2:=Lib.hid hv2';obtain⟨c2',hc2'⟩:∃ c2',c2'=mcost gsz D (lm+1):=⟨_,rfl⟩
        have hcb:c2'≤500:=by
         rw[hc2'];unfold mcost gsz;have a:=kcl7 D (by omega);have b:=kcl7 (lm+1-2) (by omega);omega
        have HC:=Lib.hid hc2';clear hv2' hv3 hc2';obtain⟨n0,n1⟩:=hP.lat i (by omega);rw[kbj7 (by have:=HT.out.ll;omega)] at n0;obtain⟨t1,_,q0,q1,q2,z0,z1,z2⟩:=hP.bat i hil;clear n0 n1 q0 q1 q2 z0 z1 z2
        go_upto_region 25 with(fail)
        have hPB:=hP.alloc (.cells #[.int .i64 (D:Nat),.int .i64 ((lm:Int)+1),.int .u8 0] 79);have TB:=Three.new wr 79 (.int .i64 (D:Nat)) (.int .i64 ((lm:Int)+1)) (.int .u8 0);have g1:=hP.lts.2;have g2:=hP.ltl.2;have g3:=hP.ltb.2;generalize (wr.alloc (.cells #[.int .i64 (D:Nat),.int .i64 ((lm:Int)+1),.int .u8 0] 79))=wd at hPB TB ⊢;clear hP l1 l2 m0;obtain⟨gt,hgt⟩:∃ gt,gt=wr.heap.size:=⟨_,rfl⟩
        rw[←hgt] at g1 g2 g3 TB ⊢;clear hgt;have b0:=TB.c0;have b1:=TB.c1;have b2:=TB.c2;have m0:=(hPB.lat (i+lm+1) (by omega)).1;rw[kad7 (by omega),←HV2.out] at m0;have u1:IntKind.i64.wrap ((i:Int)+(lm:Int))=(i:Int)+(lm:Int):=IntWalk.i64_in _ (by omega);have u2:IntKind.i64.wrap ((i:Int)+(lm:Int)+1)=(i:Int)+(lm:Int)+1:=IntWalk.i64_in _ (by omega);have u3:((i:Int)+(lm:Int)+1).toNat=i+lm+1:=by omega
        have u4:(0:Int)≤(i:Int)+(lm:Int)+1:=by omega
        have u5:(i:Int)+(lm:Int)+1<(all.length:Int)+1:=by omega
        have u6:IntKind.i64.wrap ((c2':Int)+(v2:Int))=(c2':Int)+(v2:Int):=IntWalk.i64_in _ (by omega)
        go_region_held3 (fun w'=>w'.cell? ⟨gl,i+lm+1,none⟩=some (.int .i64 (v2:Nat))∧w'.cell? ⟨gt,0,none⟩=some (.int .i64 (D:Nat))∧w'.cell? ⟨gt,1,none⟩=some (.int .i64 ((lm:Int)+1))∧w'.cell? ⟨gt,2,none⟩=some (.int .u8 0)) (go_keep) ((go_at_call 151;refine(lzcost_match D (lm+1) 0 _ _ (c2':Nat) rfl (by omega) hD1 (by omega) (by omega) (by omega) (by rw[HC.out]) _).mono ?_;rintro e w5 ⟨rfl,y5⟩;have PB5:=PRows.on (w:=wd.drew) hPB.drew y5;have TB5:=Three.on (w:=wd.drew) TB y5;have m5:=(PB5.lat (i+lm+1) (by omega)).1;rw[kad7 (by omega),←HV2.out] at m5;have b3:=TB5.c0;have b4:=TB5.c1;have b5:=TB5.c2))
        clear u1 u2 u3 u4 u5 u6 b0 b1 b2 m0 m5 y5 hPB TB;obtain⟨n0,n1⟩:=PB5.lat i (by omega);rw[kbj7 (by have:=HT.out.ll;omega)] at n0;have hD13:∀ d',1≤d'→d'<D→rep all i d'≤lm:=fun d' h1 h2=>by have:=HREP.out d' h1 h2;omega
        have HD13:=Lib.hid hD13;clear hD13;by_cases hle:c2'+v2≤cc
        ·obtain⟨t1,_,q0,q1,q2,z0,z1,z2⟩:=PB5.bat i hil
         go_wp2_with fail
         go_region
         have PB6:=(PB5.setl i (c2'+v2) ((c2':Int)+(v2:Int)) (by omega)).setb i hil (D:Nat) ((lm:Int)+1) 0 (tk all i (lm+1) D) (by unfold tk;rw[if_neg (by omega)];exact⟨rfl,by show(((lm+1:Nat)):Int)=(lm:Int)+1;omega,rfl⟩);rw[List.set_set,List.set_set] at PB6;have ecost:c2'+v2=mcost gsz D (lm+1)+Ls.getD (i+(lm+1)) 0:=by rw[←HC.out,HV2.out,Nat.add_assoc]
         have HEC:=Lib.hid ecost;clear ecost q0 q1 q2 z0 z1 z2 n0 n1 PB5
         go_wp2_with fail
         go_roundw
         case rel =>
          refine⟨lm+1,c2'+v2,lm+1,D,by omega,by omega,by omega,.inr (by omega),by go_num,PB6.drew,?_⟩;have:=HG.out.take (D:=D) (fun a b h1 h2 h3=>gsz_mono h1 h2 (by omega)) hcand.out HD13.out (by show mcost gsz D (lm+1)+Ls.getD (i+(lm+1)) 0≤cc;rw[←HEC.out];exact hle);rw[HEC.out];exact this
         case measure=>simp[intOf];omega
        ·go_wp2_with fail
         go_roundw
         case rel =>
          refine⟨lm+1,cc,nn0,dd0,by omega,by omega,by omega,.inr (by omega),by go_num,PB5,?_⟩;have ecost:c2'+v2=mcost gsz D (lm+1)+Ls.getD (i+(lm+1)) 0:=by rw[←HC.out,HV2.out,Nat.add_assoc]
          exact HG.out.pass (D:=D) (fun a b h1 h2 h3=>gsz_mono h1 h2 (by omega)) hcand.out HD13.out (by show cc<mcost gsz D (lm+1)+Ls.getD (i+(lm+1)) 0;rw[←ecost];omega)
         case measure=>simp[intOf];omega
       ·go_wp2_with fail
        go_roundw
        case rel =>
         refine⟨D+1,lm,cc,nn0,dd0,_,by omega,by omega,hl2,hl3,rfl,by go_num,hP,HS4.out,fun d' h1 h2=>?_,HG.out⟩;rcases Nat.lt_or_ge d' D with h3|h3
         ·have:=HREP.out d' h1 h3;omega
         ·obtain rfl:d'=D:=by omega
          rw[hR.out];omega
        case measure=>simp[intOf];omega
     ·have hne:(((x:Nat):Int) != ((y:Nat):Int))=true:=by rw[bne_iff_ne];omega
      go_wp2_with fail
      go_quiet (fail)
      go_wp2_with fail
      go_roundw
      case rel=>exact⟨D+1,ln,cc,nn0,dd0,_,by omega,by omega,hl2,hl3,rfl,by go_num,(hP.drewN nq).sets D 0 0 rfl,HS'.out.no hD1 hDi hil (by rw[←HX.out,←HY.out];exact hxy),fun d' h1 h2=>by
       rcases Nat.lt_or_ge d' D with h3|h3
       ·exact HREP.out d' h1 h3
       ·obtain rfl:d'=D:=by omega
        rw[rep_no (by rw[←HX.out,←HY.out];exact hxy)];omega,HG.out⟩
      case measure=>simp[intOf];omega
    ·obtain rfl:D=i+1:=by omega
     go_wp2_with fail
     go_roundw
     case rel=>exact⟨i,hin,by omega,by go_num,_,_,_,_,_,hP,HS'.out,HT.out.cons hil (HG.out.all_ fun d' h1 h2=>HREP.out d' h1 (by omega))⟩
     case measure=>simp[intOf]<;>omega
  ·obtain rfl:p=n2:=by omega
   obtain⟨wx,hwx⟩:∃ wx:World,wx=wr:=⟨_,rfl⟩
   rw[←hwx] at hP ⊢;clear hwx;have HPX:=Lib.hid hP;clear hP;obtain⟨i1,ti,tz0,tz1,tz2⟩:=info_parts tok_info
   go_wp2_with fail
   go_loopw [16,17] (fun o i wr=>∃ k m:Nat,∃ A' c' done,p≤k∧k≤all.length∧m≤k∧i=.int .i64 k∧o=.slice A' m c'∧PRows w w1 wr gs gl gb all S Ls Bs∧Below wx.heap.size wx wr∧wr.ownsRow wx.heap.size 79 3 (.slice A' m c') m (tcells done) ∧
     done++tokens all nn dd k=tokens all nn dd p) (fun _ i _=>all.length-(intOf i).toNat)
   case atStart=>exact⟨p,0,none,0,[],Nat.le_refl _,hfN,Nat.zero_le _,rfl,rfl,HPX.out,Below.refl _ _,World.ownsRow_nil _ _ _ _,rfl⟩
   case round =>
    obtain⟨k,m,A',c',done,hk1,hk2,hmk,rfl,rfl,hP,yx,ho,hd⟩:=hrel;have HD:=Lib.hid hd;have HO:=Lib.hid ho;have yxs:=yx.size;clear hd ho;by_cases hkl:k<all.length
    ·have htok:=HT.out.tok k hk1 hkl;have hst:=kdt7 (nn:=nn) (dd:=dd) hkl;have hnn:=HT.out.tab.nn0 hk1 hkl;obtain⟨t,ht,q0,q1,q2,z0,z1,z2⟩:=hP.bat k hkl;obtain rfl:tokOf all nn dd k=t:=by rw[htok] at ht;injection ht
     have hgb:=hP.ltb;have hxb:gb<wx.heap.size:=HPX.out.ltb.2;obtain⟨n1,hn1⟩:∃ n1,n1=nn k:=⟨_,rfl⟩
     obtain⟨d1,hd1⟩:∃ d1,d1=dd k:=⟨_,rfl⟩
     rw[←hn1] at hst hnn;rw[←hd1] at hnn;have hcs:n1=0∨(3≤n1∧k+n1≤all.length):=by
      rcases hnn with⟨h0,_⟩|⟨h0,_⟩
      ·exact .inl h0
      ·have a:=h0.2.2.2;have b:=rep_le (all:=all) (i:=k) (d:=d1);exact .inr ⟨h0.1,by omega⟩
     have HST:=Lib.hid hst;clear htok ht hnn hst z0 z1 z2 s1' s2 s3;obtain⟨td,htd⟩:∃ td,td=(tokOf all nn dd k).d:=⟨_,rfl⟩
     obtain⟨tn,htn⟩:∃ tn,tn=(tokOf all nn dd k).n:=⟨_,rfl⟩
     obtain⟨tl,htl⟩:∃ tl,tl=(tokOf all nn dd k).lit:=⟨_,rfl⟩
     rw[←htd] at q0;rw[←htn] at q1;rw[←htl] at q2;have HTC:=Lib.hid (show tcell (tokOf all nn dd k)=[.int .i64 td,.int .i64 tn,.int .u8 (tl:Nat)] by rw[htd,htn,htl];rfl);have htn2:tn=(n1:Nat):=by
      rw[htn,hn1];unfold tokOf
      split
      ·rename_i h0;rw[h0];rfl
      ·rfl
     subst htn2;clear htd htn htl hn1 hd1
     go_upto_region 31 with(at_builtin;refine wpList_tok1 _ rfl _ _ 44 rfl wx.heap.size 79 i1 _ 24 Tryz.underlying44 ti tz0 tz1 tz2 rfl _ _ _ rfl HO.out _ _ _ (tcells_one [⟨td,(n1:Nat),tl⟩]) rfl ?g1 ?g2 yxs ?_)
     case g1=>unfold maxLen;omega
     case g2=>omega
     intro A5 c5 w5 ho5 hg5;have hrow:∀ g,(Value.slice A' m c').ownBlock=some g→gb<g:=fun g hg=>by have:=(HO.out.lt g hg).1;omega
     have hP5:=hP.grown hg5 hrow;have y5:=yx.grown hg5 yxs (fun g hg=>(HO.out.lt g hg).1);rw[←HTC.out] at ho5;have HO5:=Lib.hid (show w5.ownsRow wx.heap.size 79 3 (.slice A5 (m+1) c5) (m+1) (tcells (done++[tokOf all nn dd k])) by rw[kgh7];simpa [tcells] using ho5);have hq5:w5.cell? ⟨gb,k*3+1,none⟩=some (.int .i64 (n1:Nat)):=(World.cell?_of_block (hg5.block gb (by omega) (fun e=>by have:=hrow gb e.symm;omega))).trans q1;clear ho5 hg5 hrow q0 q1 q2 hP ti tz0 tz1 tz2 yx;rcases hcs with rfl|⟨hn3,hn4⟩
     ·go_wp2_with fail
      go_roundw
      case rel=>exact⟨k+1,m+1,A5,c5,_,by omega,by omega,by omega,by go_num,rfl,hP5,y5,HO5.out,by rw[←HD.out,HST.out,List.append_assoc];rfl⟩
      case measure=>simp[intOf]<;>omega
     ·have hmx:max ((n1:Nat):Int) 1=(n1:Nat):=by omega
      go_wp2_with fail
      go_roundw
      case rel=>exact⟨k+n1,m+1,A5,c5,_,by omega,by omega,by omega,by go_num,rfl,hP5,y5,HO5.out,by rw[←HD.out,HST.out,List.append_assoc,show max n1 1=n1 by omega];rfl⟩
      case measure=>simp[intOf]<;>omega
    ·obtain rfl:k=all.length:=by omega
     obtain⟨f0,f1,f2,f3,f4⟩:=hP.x.facts;have e:done=tokens all nn dd p:=by
      have:=HD.out;rw[kbs7 (Nat.le_refl _),List.append_nil] at this;exact this
     have HE:=Lib.hid e;clear e;have r0:=((hP.x.set0 (.int .i64 0)).set1 (.int .i64 0)).c0;have r1:=((hP.x.set0 (.int .i64 0)).set1 (.int .i64 0)).c1;have HR0:=Lib.hid r0;have HR1:=Lib.hid r1;clear r0 r1
     go_wp2
     have r0:=HR0.out;have r1:=HR1.out;refine bodyPost_ret (v:=.tuple #[.slice A' m c',.agg #[.int .i64 0,.int .i64 0]]) (by simp[results,Tryz.results145,go_sem,r0,r1]) rfl ⟨_,nn,dd,A',m,c',rfl,HT.out.tab,?_,(hP.y.setCell (Nat.le_refl _) _).setCell (Nat.le_refl _) _⟩;rw[←HE.out];have hne:(Value.slice A' m c').ownBlock≠some w.heap.size:=fun e=>by
      have:=(HO.out.lt _ e).1;have:=hP.y.size;have:=HPX.out.x.lt;omega
     exact kao7 (kk7 (kk7 HO.out (p:=⟨w.heap.size,0,none⟩) hne _) (p:=⟨w.heap.size,1,none⟩) hne _) HPX.out.y.size
end PB
end
section
open Go.RowKit
namespace PB
def copyN(d:Nat):Nat→List Nat→List Nat
 | 0,w=>w
 | k+1,w=>copyN d k (w++[w.getD (w.length-d) 0])
theorem kia7(d:Nat):∀ k w,copyN d (k+1) w=copyN d k w++[(copyN d k w).getD ((copyN d k w).length-d) 0]:=by
 intro k
 induction k with
 | zero=>intro w;rfl
 | succ k ih =>
  intro w;show copyN d (k+1) (w++[w.getD (w.length-d) 0])=_;rw[ih];rfl
theorem kcs7(d:Nat):∀ k w,(copyN d k w).length=w.length+k:=by
 intro k
 induction k with
 | zero=>intro w;rfl
 | succ k ih=>intro w;show(copyN d k _).length=_;rw[ih,List.length_append];simp;omega
def ext(w:List Nat)(t:Tok):List Nat:=if t.d=0 then w++[t.lit] else copyN t.d.toNat t.n.toNat w
def tlen(t:Tok):Nat:=if t.d=0 then 1 else t.n.toNat
theorem ext_length(w:List Nat)(t:Tok):(ext w t).length=w.length+tlen t:=by
 unfold ext tlen
 split
 ·simp
 ·exact kcs7 _ _ _
theorem tlen_max(t:Tok)(h:t.ok):((tlen t:Nat):Int)=max t.n 1:=by
 unfold tlen;rcases h with⟨h1,h2⟩|⟨_,h1,_,h3,_⟩
 ·rw[if_pos h1,h2];rfl
 ·rw[if_neg (by omega)];omega
theorem tlen_pos(t:Tok)(h:t.ok):1≤tlen t∧tlen t≤1024:=by
 unfold tlen;rcases h with⟨h1,h2⟩|⟨_,h1,_,h3,h4⟩
 ·rw[if_pos h1];omega
 ·rw[if_neg (by omega)];omega
def expf(dl:Nat):List Tok→Nat→List Nat→Int×Int×List Nat
 | [],_,w=>(0,0,w)
 | t::ts,k,w=>if (w.length:Int)<t.d then(4,(k:Nat),w) else if 1024<w.length-dl+tlen t then(14,(k:Nat),w) else expf dl ts (k+1) (ext w t)
theorem expf_code(dl:Nat):∀ xs k w,(expf dl xs k w).1=0∨(expf dl xs k w).1=4∨(expf dl xs k w).1=14:=by
 intro xs
 induction xs with
 | nil=>intro k w;exact .inl rfl
 | cons t ts ih =>
  intro k w;rw[expf]
  split
  ·exact .inr (.inl rfl)
  ·split
   ·exact .inr (.inr rfl)
   ·exact ih _ _
theorem expf_idx(dl:Nat):∀ xs k w,(expf dl xs k w).1=0→(expf dl xs k w).2.1=0:=by
 intro xs
 induction xs with
 | nil=>intro k w h;rfl
 | cons t ts ih =>
  intro k w h;rw[expf] at h ⊢
  split at h
  ·simp at h
  ·split at h
   ·simp at h
   ·rename_i h1 h2
    rw[if_neg h1,if_neg h2];exact ih _ _ h
def costs(xs:List Tok):Nat:=(xs.map tcost).sum
theorem costs_take_succ(xs:List Tok)(k:Nat)(h:k<xs.length):costs (xs.take (k+1))=costs (xs.take k)+tcost xs[k]:=by
 unfold costs;rw[List.take_succ_eq_append_getElem h,List.map_append,List.sum_append];simp
end PB
end
section
open Go.RowKit
attribute [local go_sem ↓] Go.wp_at_zero Go.wp_at_succ
namespace PB
theorem run_neq_flt(c i c2 i2:Int)(h:¬(c=c2∧i=i2))(W:World):(binOp .neq 24 (.agg #[.int .i64 c,.int .i64 i]) (.agg #[.int .i64 c2,.int .i64 i2])).run Tryz.prog W=.ok (.bool true) W:=by
 by_cases h1:c=c2
 ·subst h1;have h3:¬i=i2:=fun e=>h ⟨rfl,e⟩
  go_simp
 ·go_simp
end PB
end
section
open Go.RowKit
set_option maxRecDepth 100000
namespace PB
theorem kgt7(k:Nat):∀ v,digs v (k+1)=(v / 2 ^ k % 2)::digs v k:=by
 induction k with
 | zero=>intro v;simp[digs]
 | succ k ih =>
  intro v;show digs (v / 2) (k+1)++[v % 2]=_;rw[ih (v / 2),Nat.div_div_eq_div_mul,←Nat.pow_succ'];rfl
theorem digs_pad(a:Nat):∀ x b,x<2 ^ b→digs x (a+b)=List.replicate a 0++digs x b:=by
 induction a with
 | zero=>intro x b h;simp
 | succ a ih =>
  intro x b h;rw[show a+1+b=(a+b)+1 by omega,kgt7,ih x b h];have:x<2 ^ (a+b):=Nat.lt_of_lt_of_le h (Nat.pow_le_pow_right (by decide) (by omega));rw[Nat.div_eq_of_lt this];rfl
def gam(x:Nat):List Nat:=digs x (gsz x)
theorem kbt7(x:Nat):(gam x).length=gsz x:=kaj7 _ _
theorem gam_parts(x:Nat)(h1:1≤x)(h2:x<9223372036854775808):gam x=List.replicate (Lib.bitLen x-1) 0++digs x (Lib.bitLen x):=by
 obtain⟨a,b,c⟩:=kbc7 x h1 (by omega);unfold gam gsz;rw[show 2*Lib.bitLen x-1=(Lib.bitLen x-1)+Lib.bitLen x by omega];exact digs_pad _ _ _ c
def GAt(l:List Nat)(f:Nat)(v e c:Nat):Prop :=
 (31≤zr l f∧v=0∧e=0∧c=16)∨(zr l f≤30∧l.length<f+2*zr l f+1∧v=0∧e=0∧c=15) ∨
 (zr l f≤30∧f+2*zr l f+1≤l.length∧v=num ((l.drop (f+zr l f)).take (zr l f+1))∧e=f+2*zr l f+1∧c=0)
theorem gat_ex(l:List Nat)(f:Nat):∃ v e c,GAt l f v e c:=by
 by_cases h1:31≤zr l f
 ·exact⟨_,_,_,.inl ⟨h1,rfl,rfl,rfl⟩⟩
 ·by_cases h2:l.length<f+2*zr l f+1
  ·exact⟨_,_,_,.inr (.inl ⟨by omega,h2,rfl,rfl,rfl⟩)⟩
  ·exact⟨_,_,_,.inr (.inr ⟨by omega,by omega,rfl,rfl,rfl⟩)⟩
end PB
end
section
open Go.RowKit
namespace PB
theorem rg_bad{A:Option Addr}{n c:Nat}{l:List Nat}{f cd:Nat}{w:World}(h:Rd w A n c (bcells (pack l)))(h01:Is01 l)(hl:l.length≤131072)(hf:f≤l.length)(hG:GAt l f 0 0 cd)(hc:cd≠0) :
  Calls Tryz.prog 162 #[.agg #[.slice A n c,.int .i64 l.length],.int .i64 (f:Nat)] w fun e w'=>e=.returned (.tuple #[.int .i64 0,.int .i64 0,.agg #[.int .i64 (cd:Nat),.int .i64 (-2)]])∧Below w.heap.size w w':=by
 rcases hG with⟨h1,_,_,rfl⟩|⟨h1,h2,_,_,rfl⟩|⟨_,_,_,_,h3⟩
 ·exact rgamma_corrupt A n c l f _ w h (Nat.le_refl _) h01 hl hf h1
 ·exact rgamma_trunc A n c l f _ w h (Nat.le_refl _) h01 hl hf h1 h2
 ·exact absurd h3 hc
theorem rg_ok{A:Option Addr}{n c:Nat}{l:List Nat}{f v e1:Nat}{w:World}(h:Rd w A n c (bcells (pack l)))(h01:Is01 l)(hl:l.length≤131072)(hf:f≤l.length)(hG:GAt l f v e1 0) :
  Calls Tryz.prog 162 #[.agg #[.slice A n c,.int .i64 l.length],.int .i64 (f:Nat)] w fun e w'=>e=.returned (.tuple #[.int .i64 (v:Nat),.int .i64 (e1:Nat),.agg #[.int .i64 0,.int .i64 0]])∧Below w.heap.size w w':=by
 rcases hG with⟨_,_,_,h3⟩|⟨_,_,_,_,h3⟩|⟨h1,h2,rfl,rfl,_⟩
 ·cases h3
 ·cases h3
 ·exact rgamma_ok A n c l f _ w h (Nat.le_refl _) h01 hl hf h1 h2
structure BItem where
 A:Option Addr
 n:Nat
 c:Nat
 d:List Nat
 cnt:Int
def BItem.ok(x:BItem):Prop:=Ok x.d x.cnt
def BItem.bits(x:BItem):List Nat:=bitsOf x.d x.cnt.toNat
def BItem.wf(x:BItem):Prop:=(∀ k,x.d.getD k 0<256)∧-9223372036854775808≤x.cnt∧x.cnt≤9223372036854775807
def joined(xs:List BItem):List Nat:=xs.flatMap BItem.bits
theorem takeWhile_rep(k:Nat)(x:Nat)(t:List Nat)(hx:x≠0):(List.replicate k 0++x::t).takeWhile (· == 0)=List.replicate k 0:=by
 induction k with
 | zero=>simp[hx]
 | succ k ih=>simp[List.replicate_succ,ih]
theorem gat_gam(l r:List Nat)(x:Nat)(h1:1≤x)(h2:x≤2147483647):GAt (l++gam x++r) l.length x (l.length+gsz x) 0:=by
 obtain⟨a,b,c⟩:=kbc7 x h1 (by omega);have hL:Lib.bitLen x≤31:=Lib.bitLen_le x 31 (by decide) (by omega);obtain⟨K,hK⟩:∃ K,Lib.bitLen x=K+1:=⟨Lib.bitLen x-1,by omega⟩
 have hg:=gam_parts x h1 (by omega);rw[hK] at hg b c;rw[Nat.add_sub_cancel] at b;have htop:x / 2 ^ K % 2=1:=by
  have hp:0<2 ^ K:=Nat.two_pow_pos K;have q1:1≤x / 2 ^ K:=(Nat.le_div_iff_mul_le hp).2 (by omega);have q2:x / 2 ^ K<2:=Nat.div_lt_of_lt_mul (by rw[Nat.pow_succ] at c;omega);omega
 rw[kgt7,htop,Nat.add_sub_cancel] at hg;have hgs:gsz x=2*K+1:=by unfold gsz;omega
 have hz:zr (l++gam x++r) l.length=K:=by
  unfold zr;rw[List.append_assoc,List.drop_left,hg,List.append_assoc,List.cons_append,takeWhile_rep _ _ _ (by decide),List.length_replicate]
 refine .inr (.inr ⟨by omega,?_,?_,by omega,rfl⟩)
 ·rw[hz,List.length_append,List.length_append,kbt7];omega
 ·rw[hz,List.append_assoc,←List.drop_drop,List.drop_left,hg,List.append_assoc,List.drop_left' (by simp)];have e:(1::digs x K++r).take (K+1)=1::digs x K:=by
   rw[List.take_left' (by simp[kaj7])]
  rw[e,←htop,←kgt7,num_digs _ _ c]
end PB
end
section
open Go.RowKit
attribute [local go_sem ↓] Go.wp_at_zero Go.wp_at_succ
namespace PB
def tokbits(t:Tok):List Nat:=if t.d=0 then digs t.lit 9 else 1::(gam t.d.toNat++gam (t.n.toNat-2))
theorem tokbits_01(t:Tok):Is01 (tokbits t):=by
 unfold tokbits
 split
 ·exact digs_01 _ _
 ·exact Is01.append (a:=[1]) (Is01.of_mem (by simp)) ((digs_01 _ _).append (digs_01 _ _))
theorem kfe7(t:Tok)(h:t.ok):(tokbits t).length=tcost t:=by
 unfold tokbits tcost
 split
 ·exact kaj7 _ _
 ·simp only[List.length_cons,List.length_append,kbt7];unfold mcost;omega
theorem tcost_le2(t:Tok)(h:t.ok):tcost t≤50:=by
 unfold tcost
 split
 ·omega
 ·rename_i hd
  rcases h with h|⟨_,h1,h2,h3,h4⟩
  ·exact absurd h.1 hd
  ·have a:=Lib.bitLen_le t.d.toNat 11 (by decide) (by omega);have b:=Lib.bitLen_le (t.n.toNat-2) 11 (by decide) (by omega);unfold mcost gsz;omega
def codeOf(xs:List Tok):List Nat:=xs.flatMap tokbits
theorem codeOf_01(xs:List Tok):Is01 (codeOf xs):=by
 refine Is01.of_mem fun x hx=>?_;obtain⟨y,_,hy⟩:=List.mem_flatMap.1 hx;exact(tokbits_01 y).mem hy
theorem kbu7(xs:List Tok)(k:Nat)(h:k<xs.length):codeOf (xs.take (k+1))=codeOf (xs.take k)++tokbits xs[k]:=by
 rw[List.take_succ_eq_append_getElem h];unfold codeOf;rw[List.flatMap_append,List.flatMap_singleton]
theorem codeOf_take_le(xs:List Tok)(h:AllTok xs xs.length):∀ k,(codeOf (xs.take k)).length≤k*50:=by
 intro k
 induction k with
 | zero=>exact Nat.zero_le _
 | succ k ih =>
  rcases Nat.lt_or_ge k xs.length with hl|hl
  ·rw[kbu7 xs k hl,List.length_append,kfe7 _ (h k hl hl)];have:=tcost_le2 xs[k] (h k hl hl);omega
  ·have e:xs.take (k+1)=xs.take k:=by rw[List.take_of_length_le (by omega),List.take_of_length_le hl]
   have e2:(codeOf (xs.take (k+1))).length=(codeOf (xs.take k)).length:=congrArg (fun y=>(codeOf y).length) e;omega
theorem codeOf_length(xs:List Tok)(h:AllTok xs xs.length):(codeOf xs).length=costs xs:=by
 have:∀ k,k≤xs.length→(codeOf (xs.take k)).length=costs (xs.take k):=by
  intro k
  induction k with
  | zero=>intro _;rfl
  | succ k ih =>
   intro hk;rw[kbu7 xs k (by omega),costs_take_succ xs k (by omega),List.length_append,ih (by omega),kfe7 _ (h k (by omega) (by omega))]
 have:=this xs.length (Nat.le_refl _)
 rwa [List.take_of_length_le (Nat.le_refl _)] at this
theorem apo_append{A:Option Addr}{n c:Nat}{l L:List Nat}{v m:Nat}{vi mi ci:Int}{w:World}(h:Rd w A n c (bcells (pack l)))(h01:Is01 l)(hl:l.length≤131072)(hm:m≤32)(hv:v<2 ^ m)(hs:l.length+m≤131072)(hL:L=l++digs v m)(hvi:vi=(v:Nat))(hmi:mi=(m:Nat))(hci:ci=(l.length:Nat))(r:Nat)(hr:r=L.length) :
  Calls Tryz.prog 154 #[.agg #[.slice A n c,.int .i64 ci],.int .i64 vi,.int .i64 mi] w fun e w'=>∃ A' n' c',e=.returned (.tuple #[.agg #[.slice A' n' c',.int .i64 (r:Nat)],.agg #[.int .i64 0,.int .i64 0]])∧w'.ownsRow w.heap.size 5 1 (.slice A' n' c') n' (bcells (pack L))∧Below w.heap.size w w':=by
 subst hL hvi hmi hci hr;exact append_ok A n c l v m _ w h (Nat.le_refl _) h01 hl hm hv hs
theorem apo_agamma{A:Option Addr}{n c:Nat}{l L:List Nat}{x:Nat}{xi ci:Int}{w:World}(h:Rd w A n c (bcells (pack l)))(h01:Is01 l)(hl:l.length≤131072)(hx1:1≤x)(hx:x≤2147483647)(hs:l.length+gsz x≤131072)(hL:L=l++gam x)(hxi:xi=(x:Nat))(hci:ci=(l.length:Nat))(r:Nat)(hr:r=L.length) :
  Calls Tryz.prog 155 #[.agg #[.slice A n c,.int .i64 ci],.int .i64 xi] w fun e w'=>∃ A' n' c',e=.returned (.tuple #[.agg #[.slice A' n' c',.int .i64 (r:Nat)],.agg #[.int .i64 0,.int .i64 0]])∧w'.ownsRow w.heap.size 5 1 (.slice A' n' c') n' (bcells (pack L))∧Below w.heap.size w w':=by
 subst hL hxi hci hr;exact agamma_ok A n c l x _ w h (Nat.le_refl _) h01 hl hx1 hx hs
structure ERows(w0 w:World)(gb gf:Nat)(A:Option Addr)(n c m:Nat)(L:List Nat):Prop where
 x:Res2 w w0.heap.size
 b:Two w gb 70 (.slice A n c) (.int .i64 (m:Nat))
 f:Two w gf 24 (.int .i64 0) (.int .i64 0)
 o:w.ownsRow (gf+1) 5 1 (.slice A n c) n (bcells (pack L))
 y:Below w0.heap.size w0 w
 lt:w0.heap.size+1<gb∧gb<gf
section
variable {w0 w w':World}{gb gf n c m:Nat}{A:Option Addr}{L:List Nat}
theorem ERows.on(h:ERows w0 w gb gf A n c m L)(hb:Below w.heap.size w w'):ERows w0 w' gb gf A n c m L :=
 ⟨h.x.on hb,h.b.on hb,h.f.on hb,kdc7 h.o hb,h.y.trans (hb.mono h.y.size),h.lt⟩
theorem ERows.alloc(h:ERows w0 w gb gf A n c m L)(o:Obj):ERows w0 (w.alloc o) gb gf A n c m L:=h.on ((Below.refl _ _).alloc (Nat.le_refl _) o)
theorem ERows.step(h:ERows w0 w gb gf A n c m L)(hb:Below w.heap.size w w'){A':Option Addr}{n' c' m':Nat}{L':List Nat}(ho:w'.ownsRow w.heap.size 5 1 (.slice A' n' c') n' (bcells (pack L'))) :
  ERows w0 ((((w'.setCell ⟨gb,0,none⟩ (.slice A' n' c')).setCell ⟨gb,1,none⟩ (.int .i64 (m':Nat))).setCell ⟨gf,0,none⟩ (.int .i64 0)).setCell ⟨gf,1,none⟩ (.int .i64 0)) gb gf A' n' c' m' L':=by
 have h1:=h.on hb;have hlt:=h.lt;have hfl:=h.f.lt;have ho2:w'.ownsRow (gf+1) 5 1 (.slice A' n' c') n' (bcells (pack L')):=kao7 ho (by omega);have nb:(Value.slice A' n' c').ownBlock≠some gb:=fun e=>by have:=(ho2.lt _ e).1;omega
 have nf:(Value.slice A' n' c').ownBlock≠some gf:=fun e=>by have:=(ho2.lt _ e).1;omega
 have e1:gb≠gf:=by omega
 have e2:w0.heap.size≤gb:=by omega
 have e3:w0.heap.size≤gf:=by omega
 refine⟨(((h1.x.far (p:=⟨gb,0,none⟩) hlt.1 _).far (p:=⟨gb,1,none⟩) hlt.1 _).far (p:=⟨gf,0,none⟩) (by show w0.heap.size+1<gf;omega) _).far (p:=⟨gf,1,none⟩) (by show w0.heap.size+1<gf;omega) _,
  (((h1.b.set0 _).set1 _).far (p:=⟨gf,0,none⟩) e1 _).far (p:=⟨gf,1,none⟩) e1 _,(((h1.f.far (p:=⟨gb,0,none⟩) e1.symm _).far (p:=⟨gb,1,none⟩) e1.symm _).set0 _).set1 _,
  kk7 (kk7 (kk7 (kk7 ho2 (p:=⟨gb,0,none⟩) nb _) (p:=⟨gb,1,none⟩) nb _) (p:=⟨gf,0,none⟩) nf _) (p:=⟨gf,1,none⟩) nf _,
  (((h1.y.setCell e2 _).setCell e2 _).setCell e3 _).setCell e3 _,h.lt⟩
end
theorem lzenc_ok{A:Option Addr}{n c:Nat}{xs:List Tok}{w:World}(h:RdT w A n c xs)(hl:xs.length≤1024)(hall:AllTok xs xs.length)(hlit:∀ t∈xs,t.lit<256) :
  Calls Tryz.prog 146 #[.slice A n c] w fun e w'=>∃ A' n' c',e=.returned (.tuple #[.agg #[.slice A' n' c',.int .i64 ((codeOf xs).length:Nat)],.agg #[.int .i64 0,.int .i64 0]])∧w'.ownsRow w.heap.size 5 1 (.slice A' n' c') n' (bcells (pack (codeOf xs)))∧Below w.heap.size w w':=by
 have hn:=h.1;have hcap:=h.2.1;have hcm:=h.2.2.1;unfold maxLen at hcm;obtain rfl:=hn;have X0:=Res2.start w;have y0:Below w.heap.size w ((w.alloc (.cells #[.slice none 0 0,.int .i64 0] 70)).alloc (.cells #[.int .i64 0,.int .i64 0] 24)):=((Below.refl _ _).alloc (Nat.le_refl _) _).alloc (by simp) _;have R0:=(h.alloc (.cells #[.slice none 0 0,.int .i64 0] 70)).alloc (.cells #[.int .i64 0,.int .i64 0] 24);have HA:=Lib.hid hall;have HLI:=Lib.hid hlit;have HCL:=Lib.hid (codeOf_take_le xs hall);clear hall hlit
 go_enter Tryz.func146,Tryz.ntmps146
 go_wp2_with fail
 refine(lzcheck_any R0 (.inr (.inr ⟨hl,HA.out,rfl,rfl⟩))).mono ?_;rintro e w1 ⟨rfl,y1⟩;have X1:=X0.on y1;have Y1:=y0.trans (y1.mono y0.size);have B2:=Two.new w1 24 (.int .i64 0) (.int .i64 0);have hxl:=X1.2.lt;obtain⟨g0,g1,g2,g3,g4⟩:=B2.facts;clear y1 X0 y0 R0
 go_wp2_with fail
 have E0:ERows w (((w1.alloc (.cells #[.int .i64 0,.int .i64 0] 24)).alloc (.cells #[.slice none 0 0,.int .i64 0] 70)).alloc (.cells #[.int .i64 0,.int .i64 0] 24)) (w1.heap.size+1) (w1.heap.size+1+1) none 0 0 0 [] :=
  ⟨((X1.alloc _).alloc _).alloc _,(by simpa using (Two.new1 w1 (.cells #[.int .i64 0,.int .i64 0] 24) 70 (.slice none 0 0) (.int .i64 0)).alloc (.cells #[.int .i64 0,.int .i64 0] 24)),
   (by simpa using Two.new2 w1 (.cells #[.int .i64 0,.int .i64 0] 24) (.cells #[.slice none 0 0,.int .i64 0] 70) 24 (.int .i64 0) (.int .i64 0)),World.ownsRow_nil _ _ _ _,
   ((Y1.alloc Y1.size _).alloc (by have:=Y1.size;simp;omega) _).alloc (by have:=Y1.size;simp;omega) _,by omega⟩
 generalize (((w1.alloc (.cells #[.int .i64 0,.int .i64 0] 24)).alloc (.cells #[.slice none 0 0,.int .i64 0] 70)).alloc (.cells #[.int .i64 0,.int .i64 0] 24))=w3 at E0 ⊢;obtain⟨gb,hgb⟩:∃ g,g=w1.heap.size+1:=⟨_,rfl⟩
 rw[←hgb] at E0 ⊢;obtain⟨gf,hgf⟩:∃ g,g=gb+1:=⟨_,rfl⟩
 rw[←hgf] at E0 ⊢;clear hgb hgf X1 Y1 B2 g0 g1 g2 g3 g4 hxl;have HE0:=Lib.hid E0;clear E0
 go_loopw [18] (fun i wr=>∃ k m:Nat,∃ A1 n1 c1,k≤xs.length∧i=.int .i64 k∧m=(codeOf (xs.take k)).length∧ERows w wr gb gf A1 n1 c1 m (codeOf (xs.take k))) (fun i _=>xs.length-(intOf i).toNat)
 case atStart=>exact⟨0,0,none,0,0,Nat.zero_le _,rfl,rfl,HE0.out⟩
 case round =>
  obtain⟨k,m,A1,n1,c1,hk,rfl,hm,hE⟩:=hrel;clear HE0;have HM:=Lib.hid hm;have hmb:m≤1024*50:=by rw[hm];have:=HCL.out k;omega
  obtain⟨L,hL⟩:∃ L,L=codeOf (xs.take k):=⟨_,rfl⟩
  rw[←hL] at hE;have HL:=Lib.hid hL;have HLm:=Lib.hid (show m=L.length by rw[hm,hL]);have HL01:=Lib.hid (show Is01 L by rw[hL];exact codeOf_01 _);clear hm hL;by_cases hlt:k<xs.length
  ·obtain⟨b,off,rfl,hb,q1,q2,q3⟩:=(h.on hE.y).at k hlt;obtain⟨xd,xn,xl,hx⟩:∃ xd xn xl,xs[k]=(⟨xd,xn,xl⟩:Tok):=⟨_,_,_,rfl⟩
   rw[hx] at q1 q2 q3;dsimp only at q1 q2 q3;have hok:Tok.ok ⟨xd,xn,xl⟩:=by rw[←hx];exact HA.out k hlt hlt
   have hxl:xl<256:=by have:=HLI.out _ (List.getElem_mem hlt);rwa [hx] at this
   have HS:=Lib.hid (show codeOf (xs.take (k+1))=L++tokbits ⟨xd,xn,xl⟩ by rw[kbu7 xs k hlt,hx,←HL.out]);clear hx;have hgfw:=hE.f.lt;have hbf:=hE.lt;have ebf:¬gb=gf:=by omega
   have efb:¬gf=gb:=by omega
   have EV:=hE.alloc (.cells #[.int .i64 xd,.int .i64 xn,.int .u8 (xl:Nat)] 79);have V0:=Three.new wr 79 (.int .i64 xd) (.int .i64 xn) (.int .u8 (xl:Nat));rcases hok with⟨h1,h2⟩|⟨h0,h1,h2,h3,h4⟩
   ·dsimp only at h1 h2;subst h1 h2;have htb:tokbits ⟨0,0,xl⟩=digs xl 9:=rfl;rw[htb] at HS;clear htb
    go_wp2_with fail
    refine(kan7 _ _ _ true (by simp) _).mono ?_;rintro e w4 ⟨rfl,y4⟩;have E4:=EV.on y4;have V4:=V0.on y4;have c2:=V4.c2;have b0:=E4.b.c0;have b1:=E4.b.c1;clear q1 q2 q3 EV V0 hE;obtain⟨M,hM⟩:∃ M,M=m+9:=⟨_,rfl⟩
    have HMM:=Lib.hid hM;clear hM
    go_wp2_with fail
    refine(apo_append (v:=xl) (m:=9) (Rd.own E4.o) HL01.out (by rw[←HLm.out];omega) (by decide) (by omega) (by rw[←HLm.out];omega) rfl rfl rfl (by rw[HLm.out]) M (by rw[List.length_append,kaj7,HMM.out,HLm.out])).mono ?_;rintro e w5 ⟨A5,n5,c5,rfl,o5,y5⟩;have E5:=E4.step (m':=M) y5 o5;have T5:=E4.on y5;obtain⟨b0,b1,b2,b3,b4⟩:=T5.b.facts;obtain⟨f0,f1,f2,f3,f4⟩:=T5.f.facts
    go_upto_region 16 with(fail)
    generalize ((((w5.setCell ⟨gb,0,none⟩ (.slice A5 n5 c5)).setCell ⟨gb,1,none⟩ (.int .i64 (M:Nat))).setCell ⟨gf,0,none⟩ (.int .i64 0)).setCell ⟨gf,1,none⟩ (.int .i64 0))=v5 at E5 ⊢;clear c2 b0 b1 b2 b3 b4 f0 f1 f2 f3 f4 T5 E4;have f0:=E5.f.c0;have f1:=E5.f.c1
    go_wp2_with fail
    go_roundw
    case rel=>exact⟨k+1,M,A5,n5,c5,by omega,by go_num,by rw[HS.out,List.length_append,kaj7,HMM.out,HLm.out],by rw[HS.out];exact E5⟩
    case measure=>simp[intOf]<;>omega
   ·dsimp only at h0 h1 h2 h3 h4;obtain⟨d,rfl⟩:=Int.eq_ofNat_of_zero_le (show 0≤xd by omega);obtain⟨n,rfl⟩:=Int.eq_ofNat_of_zero_le (show 0≤xn by omega);have htb:tokbits ⟨(d:Nat),(n:Nat),xl⟩=1::(gam d++gam (n-2)):=by unfold tokbits;dsimp only;rw[if_neg (by omega)];rfl
    rw[htb] at HS;clear htb h0;obtain⟨G1,hG1⟩:∃ G,G=gsz d:=⟨_,rfl⟩
    obtain⟨G2,hG2⟩:∃ G,G=gsz (n-2):=⟨_,rfl⟩
    have hg1:G1≤22:=by rw[hG1];unfold gsz;have:=Lib.bitLen_le d 11 (by decide) (by omega);omega
    have hg2:G2≤22:=by rw[hG2];unfold gsz;have:=Lib.bitLen_le (n-2) 11 (by decide) (by omega);omega
    have HG1:=Lib.hid hG1;have HG2:=Lib.hid hG2;obtain⟨M1,hM1⟩:∃ M,M=m+1:=⟨_,rfl⟩
    obtain⟨M2,hM2⟩:∃ M,M=m+1+G1:=⟨_,rfl⟩
    obtain⟨M3,hM3⟩:∃ M,M=m+1+G1+G2:=⟨_,rfl⟩
    have HM1:=Lib.hid (show M1=(L++[1]).length by rw[List.length_append,←HLm.out,hM1];rfl);have HM2:=Lib.hid (show M2=(L++[1]++gam d).length by rw[List.length_append,kbt7,←HM1.out,hM2,hM1,HG1.out]);have HM3:=Lib.hid (show M3=(L++[1]++gam d++gam (n-2)).length by rw[List.length_append,kbt7,←HM2.out,hM3,hM2,HG2.out]);have l1:M1≤60000:=by omega
    have l2:M2≤60000:=by omega
    have l3:M3≤60000:=by omega
    have l4:M1+G1≤60000:=by omega
    have l5:M2+G2≤60000:=by omega
    clear hG1 hG2 hM1 hM2 hM3;have J1:=Lib.hid (HL01.out.append (b:=[1]) (Is01.of_mem (by simp)));have J2:=Lib.hid (J1.out.append (b:=gam d) (digs_01 _ _))
    go_wp2_with fail
    refine(kan7 _ _ _ false (by simp;omega) _).mono ?_;rintro e w4 ⟨rfl,y4⟩;have E4:=EV.on y4;have V4:=V0.on y4;have b0:=E4.b.c0;have b1:=E4.b.c1;clear q1 q2 q3 EV V0 hE;obtain⟨gt,hgt⟩:∃ gt,gt=wr.heap.size:=⟨_,rfl⟩
    have tf:gt≠gf:=by omega
    have tb:gt≠gb:=by omega
    rw[←hgt] at V4 ⊢;clear hgt
    go_wp2_with fail
    refine(apo_append (v:=1) (m:=1) (L:=L++[1]) (Rd.own E4.o) HL01.out (by rw[←HLm.out];omega) (by decide) (by decide) (by rw[←HLm.out];omega) rfl rfl rfl (by rw[HLm.out]) M1 HM1.out).mono ?_;rintro e w5 ⟨A5,n5,c5,rfl,o5,y5⟩;have E5:=E4.step (m':=M1) y5 o5;have T5:=E4.on y5;have V5:=((((V4.on y5).far (p:=⟨gb,0,none⟩) tb (.slice A5 n5 c5)).far (p:=⟨gb,1,none⟩) tb (.int .i64 (M1:Nat))).far (p:=⟨gf,0,none⟩) tf (.int .i64 0)).far (p:=⟨gf,1,none⟩) tf (.int .i64 0);obtain⟨b0,b1,b2,b3,b4⟩:=T5.b.facts;obtain⟨f0,f1,f2,f3,f4⟩:=T5.f.facts
    go_upto_region 12 with(fail)
    generalize ((((w5.setCell ⟨gb,0,none⟩ (.slice A5 n5 c5)).setCell ⟨gb,1,none⟩ (.int .i64 (M1:Nat))).setCell ⟨gf,0,none⟩ (.int .i64 0)).setCell ⟨gf,1,none⟩ (.int .i64 0))=v5 at E5 V5 ⊢;clear b0 b1 b2 b3 b4 f0 f1 f2 f3 f4 T5 E4;clear V4 y4 y5 o5;have f0:=E5.f.c0;have f1:=E5.f.c1;have b0:=E5.b.c0;have b1:=E5.b.c1;have t0:=V5.c0;have t1:=V5.c1
    go_wp2_with fail
    refine(apo_agamma (x:=d) (L:=L++[1]++gam d) (Rd.own E5.o) J1.out (by rw[←HM1.out];omega) (by omega) (by omega) (by rw[←HM1.out,←HG1.out];omega) rfl rfl (by rw[HM1.out]) M2 HM2.out).mono ?_;clear f0 f1 b0 b1 t0 t1;rintro e w6 ⟨A6,n6,c6,rfl,o6,y6⟩;have E6:=E5.step (m':=M2) y6 o6;have T6:=E5.on y6;have V6:=((((V5.on y6).far (p:=⟨gb,0,none⟩) tb (.slice A6 n6 c6)).far (p:=⟨gb,1,none⟩) tb (.int .i64 (M2:Nat))).far (p:=⟨gf,0,none⟩) tf (.int .i64 0)).far (p:=⟨gf,1,none⟩) tf (.int .i64 0);obtain⟨b0,b1,b2,b3,b4⟩:=T6.b.facts;obtain⟨f0,f1,f2,f3,f4⟩:=T6.f.facts
    go_upto_region 14 with(fail)
    generalize ((((w6.setCell ⟨gb,0,none⟩ (.slice A6 n6 c6)).setCell ⟨gb,1,none⟩ (.int .i64 (M2:Nat))).setCell ⟨gf,0,none⟩ (.int .i64 0)).setCell ⟨gf,1,none⟩ (.int .i64 0))=v6 at E6 V6 ⊢;clear b0 b1 b2 b3 b4 f0 f1 f2 f3 f4 T6 E5;clear V5 y6 o6;have f0:=E6.f.c0;have f1:=E6.f.c1;have b0:=E6.b.c0;have b1:=E6.b.c1;have t0:=V6.c0;have t1:=V6.c1
    go_wp2_with fail
    refine(apo_agamma (x:=n-2) (L:=L++[1]++gam d++gam (n-2)) (Rd.own E6.o) J2.out (by rw[←HM2.out];omega) (by omega) (by omega) (by rw[←HM2.out,←HG2.out];omega) rfl (by omega) (by rw[HM2.out]) M3 HM3.out).mono ?_;clear f0 f1 b0 b1 t0 t1;rintro e w7 ⟨A7,n7,c7,rfl,o7,y7⟩;have E7:=E6.step (m':=M3) y7 o7;have T7:=E6.on y7;obtain⟨b0,b1,b2,b3,b4⟩:=T7.b.facts;obtain⟨f0,f1,f2,f3,f4⟩:=T7.f.facts
    go_upto_region 16 with(fail)
    generalize ((((w7.setCell ⟨gb,0,none⟩ (.slice A7 n7 c7)).setCell ⟨gb,1,none⟩ (.int .i64 (M3:Nat))).setCell ⟨gf,0,none⟩ (.int .i64 0)).setCell ⟨gf,1,none⟩ (.int .i64 0))=v7 at E7 ⊢;clear b0 b1 b2 b3 b4 f0 f1 f2 f3 f4 T7 E6;have f0:=E7.f.c0;have f1:=E7.f.c1
    go_wp2_with fail
    go_roundw
    case rel=>exact⟨k+1,M3,A7,n7,c7,by omega,by go_num,by rw[HS.out,HM3.out];simp[List.append_assoc],by rw[HS.out];simpa [List.append_assoc] using E7⟩
    case measure=>simp[intOf]<;>omega
  ·obtain rfl:k=xs.length:=by omega
   have e:codeOf (xs.take xs.length)=codeOf xs:=by rw[List.take_of_length_le (Nat.le_refl _)]
   have HLX:=Lib.hid (show codeOf xs=L by rw[←e,HL.out]);clear e;have b0:=hE.b.c0;have b1:=hE.b.c1;obtain⟨g0,g1,g2,g3,g4,g5,g6,g7,g8⟩:=hE.x.facts;have hlt3:=hE.lt;have u1:¬gb=w.heap.size:=by omega
   have u2:¬w.heap.size=gb:=by omega
   have u3:¬gb=w.heap.size+1:=by omega
   have u4:¬w.heap.size+1=gb:=by omega
   go_wp2
   obtain⟨r0,r1,r2,r3⟩:=hE.x.ends (.slice A1 n1 c1) (.int .i64 (m:Nat)) (.int .i64 0) (.int .i64 0);refine bodyPost_ret (v:=.tuple #[.agg #[.slice A1 n1 c1,.int .i64 (m:Nat)],.agg #[.int .i64 0,.int .i64 0]]) (by simp[results,Tryz.results146,go_sem,r0,r1,r2,r3]) rfl ⟨A1,n1,c1,by rw[HLX.out,HLm.out],?_,khv7 hE.y _ _ _ _⟩;rw[HLX.out];exact own_res2 hE.x (kao7 hE.o (by omega)) _ _ _ _
end PB
end
end Go.Proofs.YtnpcandaehejbaaGreat
