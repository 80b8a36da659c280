/-
  Plain facts on bit strings: a list of bits (0 or 1) packed into bytes, the most significan
-/
import Derived.WalkKit
import Derived.WalkSpells
import Derived.WalkLawsBesides
import Derived.Laws.BitsAllLaws
import Derived.Test.YtnpcandaehejbaaGreatRows
import Derived.Lib.Hide
import Derived.Deep.AppendLies
import Derived.RegionTactic
import Derived.BigRegion
import Derived.Maps.AppendAt
import Derived.OwnWalk
import Derived.Deep.RegionHeld3
import Derived.Deep.DrawnRows
import Derived.StillTailTactics
import Derived.BigQuiet
import Derived.Laws.BytesString
import Derived.Laws.Cells
import Derived.Shelf.Strings.Builder1
import Derived.Shelf.Strings.Builder2
import Derived.Shelf.Small.Bits
import Derived.Shelf.Strings.BuilderF
import Derived.Shelf.Strings.BuilderK
import Derived.Shelf.Strings.Builder2Cap
import Derived.Shelf.Strconv.Itoa0
import Derived.Shelf.Strings.Prefix
import Derived.Shelf.Bits.Mul64
import Derived.Shelf.Strings.Repeat
import Derived.Shelf.Strings.BuilderCap
import Derived.Test.YtnpcandaehejbaaGreatProg
import Derived.Lib.ItoaNum
import Derived.Deep.QuietTactic
set_option linter.unusedVariables false
set_option linter.unusedSimpArgs false
set_option linter.unusedSectionVars false
set_option maxHeartbeats 6400000
set_option maxRecDepth 100000
namespace Go.Proofs.YtnpcandaehejbaaGreat
namespace PB
def Is01(l:List Nat):Prop:=∀ i,l.getD i 0<2
def bitAt(d:List Nat)(i:Nat):Nat:=d.getD (i / 8) 0 / 2 ^ (7-i % 8) % 2
def bitsOf(d:List Nat)(n:Nat):List Nat:=(List.range n).map (bitAt d)
def pbyte(l:List Nat)(k:Nat):Nat :=
 l.getD (8*k) 0*128+l.getD (8*k+1) 0*64+l.getD (8*k+2) 0*32+l.getD (8*k+3) 0*16+l.getD (8*k+4) 0*8+l.getD (8*k+5) 0*4+l.getD (8*k+6) 0*2+l.getD (8*k+7) 0
def pack(l:List Nat):List Nat:=(List.range ((l.length+7) / 8)).map (pbyte l)
theorem Is01.mem{l:List Nat}(h:Is01 l){x:Nat}(hx:x∈l):x<2:=by
 obtain⟨i,hi,rfl⟩:=List.mem_iff_getElem.1 hx;have:=h i
 rwa [List.getD_eq_getElem?_getD,List.getElem?_eq_getElem hi] at this
theorem Is01.of_mem{l:List Nat}(h:∀ x∈l,x<2):Is01 l:=by
 intro i;rw[List.getD_eq_getElem?_getD];rcases Nat.lt_or_ge i l.length with hi|hi
 ·rw[List.getElem?_eq_getElem hi];exact h _ (List.getElem_mem hi)
 ·rw[List.getElem?_eq_none hi];decide
theorem Is01.nil:Is01 []:=Is01.of_mem (by simp)
theorem Is01.append{a b:List Nat}(ha:Is01 a)(hb:Is01 b):Is01 (a++b):=by
 refine Is01.of_mem fun x hx=>?_;rcases List.mem_append.1 hx with h|h
 ·exact ha.mem h
 ·exact hb.mem h
theorem Is01.snoc{a:List Nat}(ha:Is01 a){b:Nat}(hb:b<2):Is01 (a++[b]) :=
 ha.append (Is01.of_mem (by simpa using hb))
theorem Is01.drop{a:List Nat}(h:Is01 a)(n:Nat):Is01 (a.drop n):=Is01.of_mem fun _ hx=>h.mem (List.mem_of_mem_drop hx)
theorem Is01.take{a:List Nat}(h:Is01 a)(n:Nat):Is01 (a.take n):=Is01.of_mem fun _ hx=>h.mem (List.mem_of_mem_take hx)
theorem kbf7{l:List Nat}{i:Nat}(h:i<l.length):l.getD i 0=l[i]:=by
 rw[List.getD_eq_getElem?_getD,List.getElem?_eq_getElem h];rfl
theorem kak7{l:List Nat}{i:Nat}(h:l.length≤i):l.getD i 0=0:=by
 rw[List.getD_eq_getElem?_getD,List.getElem?_eq_none h];rfl
theorem kh7{a b:List Nat}{i:Nat}(h:i<a.length):(a++b).getD i 0=a.getD i 0:=by
 simp[List.getD_eq_getElem?_getD,List.getElem?_append,h]
theorem kai7{a b:List Nat}{i:Nat}(h:a.length≤i):(a++b).getD i 0=b.getD (i-a.length) 0:=by
 have:¬i<a.length:=by omega
 simp[List.getD_eq_getElem?_getD,List.getElem?_append,this]
theorem ext_getD{a b:List Nat}(h:a.length=b.length)(hi:∀ i,i<a.length→a.getD i 0=b.getD i 0):a=b:=by
 refine List.ext_getElem h fun i h1 h2=>?_;have:=hi i h1
 rwa [kbf7 h1,kbf7 h2] at this
theorem km7(l:List Nat):(pack l).length=(l.length+7) / 8:=by simp[pack]
theorem pack_nil:pack []=[]:=rfl
theorem kfb7(f:Nat→Nat)(n k:Nat)(h:k<n):((List.range n).map f).getD k 0=f k:=by
 simp[List.getD_eq_getElem?_getD,h]
theorem pack_getD(l:List Nat)(k:Nat)(h:k<(l.length+7) / 8):(pack l).getD k 0=pbyte l k:=kfb7 _ _ _ h
theorem pbyte_ge(l:List Nat)(k:Nat)(h:(l.length+7) / 8≤k):pbyte l k=0:=by
 unfold pbyte;rw[kak7 (by omega),kak7 (by omega),kak7 (by omega),kak7 (by omega),kak7 (by omega),kak7 (by omega),kak7 (by omega),kak7 (by omega)]
theorem ky7(l:List Nat)(k:Nat):(pack l).getD k 0=pbyte l k:=by
 rcases Nat.lt_or_ge k ((l.length+7) / 8) with h|h
 ·exact pack_getD l k h
 ·rw[pbyte_ge l k h,kak7 (by rw[km7];exact h)]
theorem pbyte_lt{l:List Nat}(h:Is01 l)(k:Nat):pbyte l k<256:=by
 unfold pbyte;have h0:=h (8*k);have h1:=h (8*k+1);have h2:=h (8*k+2);have h3:=h (8*k+3);have h4:=h (8*k+4);have h5:=h (8*k+5);have h6:=h (8*k+6);have h7:=h (8*k+7);omega
theorem pack_lt{l:List Nat}(h:Is01 l)(k:Nat):(pack l).getD k 0<256:=by
 rw[ky7];exact pbyte_lt h k
theorem pbyte_bit{l:List Nat}(h:Is01 l)(k r:Nat)(hr:r<8):pbyte l k / 2 ^ (7-r) % 2=l.getD (8*k+r) 0:=by
 have h0:=h (8*k);have h1:=h (8*k+1);have h2:=h (8*k+2);have h3:=h (8*k+3);have h4:=h (8*k+4);have h5:=h (8*k+5);have h6:=h (8*k+6);have h7:=h (8*k+7);unfold pbyte;rcases(by omega:r=0∨r=1∨r=2∨r=3∨r=4∨r=5∨r=6∨r=7) with rfl|rfl|rfl|rfl|rfl|rfl|rfl|rfl<;>(try simp only[Nat.add_zero])<;>omega
theorem bitAt_pack{l:List Nat}(h:Is01 l)(i:Nat):bitAt (pack l) i=l.getD i 0:=by
 unfold bitAt;rw[ky7,pbyte_bit h _ _ (Nat.mod_lt _ (by decide))]
 congr 1;omega
theorem kdi7(d:List Nat)(n:Nat):(bitsOf d n).length=n:=by simp[bitsOf]
theorem bitsOf_getD(d:List Nat)(n i:Nat)(h:i<n):(bitsOf d n).getD i 0=bitAt d i:=kfb7 _ _ _ h
theorem byte_of_bits(x:Nat)(h:x<256):x=x / 128 % 2*128+x / 64 % 2*64+x / 32 % 2*32+x / 16 % 2*16+x / 8 % 2*8+x / 4 % 2*4+x / 2 % 2*2+x % 2:=by omega
def RestZero(d:List Nat)(n:Nat):Prop:=∀ i,n≤i→i<8*d.length→bitAt d i=0
theorem pbyte_bitsOf(d:List Nat)(n k:Nat)(hd:∀ k,d.getD k 0<256)(hk:k<d.length)(hz:RestZero d n):pbyte (bitsOf d n) k=d.getD k 0:=by
 have hb:∀ r,r<8→(bitsOf d n).getD (8*k+r) 0=d.getD k 0 / 2 ^ (7-r) % 2:=by
  intro r hr;have e:bitAt d (8*k+r)=d.getD k 0 / 2 ^ (7-r) % 2:=by
   unfold bitAt;rw[show(8*k+r) / 8=k by omega,show(8*k+r) % 8=r by omega]
  rcases Nat.lt_or_ge (8*k+r) n with h|h
  ·rw[bitsOf_getD _ _ _ h,e]
  ·rw[kak7 (by rw[kdi7];exact h),←e];exact(hz _ h (by omega)).symm
 unfold pbyte;have h0:=hb 0 (by decide);simp only[Nat.add_zero] at h0;rw[h0,hb 1 (by decide),hb 2 (by decide),hb 3 (by decide),hb 4 (by decide),hb 5 (by decide),hb 6 (by decide),hb 7 (by decide)];have:=byte_of_bits (d.getD k 0) (hd k);simp only[Nat.reduceSub,Nat.reducePow,Nat.div_one];omega
theorem pack_bitsOf(d:List Nat)(n:Nat)(hd:∀ k,d.getD k 0<256)(hn:d.length=(n+7) / 8)(hz:RestZero d n):pack (bitsOf d n)=d:=by
 refine ext_getD (by rw[km7,kdi7,hn]) fun k hk=>?_;rw[km7,kdi7] at hk;rw[ky7,pbyte_bitsOf d n k hd (by omega) hz]
theorem pack_rest{l:List Nat}(h:Is01 l):RestZero (pack l) l.length:=by
 intro i hi _;rw[bitAt_pack h,kak7 hi]
theorem rest_iff(d:List Nat)(n:Nat)(hd:∀ k,d.getD k 0<256)(hn:d.length=(n+7) / 8) :
  RestZero d n↔(n % 8=0∨d.getD (d.length-1) 0*2 ^ (n % 8) % 256=0):=by
 have hlt:=hd (d.length-1);have key:∀ x r:Nat,x<256→r<8→0<r→((∀ s,r≤s→s<8→x / 2 ^ (7-s) % 2=0)↔x*2 ^ r % 256=0):=by
  intro x r hx hr hr0;have a7:r≤7:=by omega
  constructor
  ·intro h;have g:=fun s (h1:r≤s) (h2:s<8)=>h s h1 h2;rcases(by omega:r=1∨r=2∨r=3∨r=4∨r=5∨r=6∨r=7) with rfl|rfl|rfl|rfl|rfl|rfl|rfl
   ·have g1:=g 1 (by omega) (by omega);have g2:=g 2 (by omega) (by omega);have g3:=g 3 (by omega) (by omega);have g4:=g 4 (by omega) (by omega);have g5:=g 5 (by omega) (by omega);have g6:=g 6 (by omega) (by omega);have g7:=g 7 (by omega) (by omega);clear g h;simp only[Nat.reduceSub,Nat.reducePow] at *;omega
   ·have g2:=g 2 (by omega) (by omega);have g3:=g 3 (by omega) (by omega);have g4:=g 4 (by omega) (by omega);have g5:=g 5 (by omega) (by omega);have g6:=g 6 (by omega) (by omega);have g7:=g 7 (by omega) (by omega);clear g h;simp only[Nat.reduceSub,Nat.reducePow] at *;omega
   ·have g3:=g 3 (by omega) (by omega);have g4:=g 4 (by omega) (by omega);have g5:=g 5 (by omega) (by omega);have g6:=g 6 (by omega) (by omega);have g7:=g 7 (by omega) (by omega);clear g h;simp only[Nat.reduceSub,Nat.reducePow] at *;omega
   ·have g4:=g 4 (by omega) (by omega);have g5:=g 5 (by omega) (by omega);have g6:=g 6 (by omega) (by omega);have g7:=g 7 (by omega) (by omega);clear g h;simp only[Nat.reduceSub,Nat.reducePow] at *;omega
   ·have g5:=g 5 (by omega) (by omega);have g6:=g 6 (by omega) (by omega);have g7:=g 7 (by omega) (by omega);clear g h;simp only[Nat.reduceSub,Nat.reducePow] at *;omega
   ·have g6:=g 6 (by omega) (by omega);have g7:=g 7 (by omega) (by omega);clear g h;simp only[Nat.reduceSub,Nat.reducePow] at *;omega
   ·have g7:=g 7 (by omega) (by omega);clear g h;simp only[Nat.reduceSub,Nat.reducePow] at *;omega
  ·intro h s h1 h2;rcases(by omega:r=1∨r=2∨r=3∨r=4∨r=5∨r=6∨r=7) with rfl|rfl|rfl|rfl|rfl|rfl|rfl <;>
   rcases(by omega:s=0∨s=1∨s=2∨s=3∨s=4∨s=5∨s=6∨s=7) with rfl|rfl|rfl|rfl|rfl|rfl|rfl|rfl <;>
   simp only[Nat.reduceSub,Nat.reducePow] at*<;> omega
 by_cases h8:n % 8=0
 ·simp only[h8,true_or,iff_true];intro i h1 h2;omega
 ·have hk:=key (d.getD (d.length-1) 0) (n % 8) hlt (by omega) (by omega);simp only[h8,false_or];rw[←hk];constructor
  ·intro h s h1 h2;have:=h (8*(d.length-1)+s) (by omega) (by omega);unfold bitAt at this
   rwa [show(8*(d.length-1)+s) / 8=d.length-1 by omega,show(8*(d.length-1)+s) % 8=s by omega] at this
  ·intro h i h1 h2;have:=h (i % 8) (by omega) (by omega);unfold bitAt
   rwa [show i / 8=d.length-1 by omega]
theorem pack_snoc_new(l:List Nat)(b:Nat)(h:l.length % 8=0):pack (l++[b])=pack l++[b*128]:=by
 refine ext_getD (by simp[km7];omega) fun k hk=>?_;rw[km7] at hk;simp only[List.length_append,List.length_singleton] at hk;rw[ky7];rcases Nat.lt_or_ge k (l.length / 8) with hk'|hk'
 ·rw[kh7 (by rw[km7];omega),ky7];unfold pbyte;rw[kh7 (by omega),kh7 (by omega),kh7 (by omega),kh7 (by omega),kh7 (by omega),kh7 (by omega),kh7 (by omega),kh7 (by omega)]
 ·obtain rfl:k=l.length / 8:=by omega
  rw[kai7 (by rw[km7];omega),km7];have e:l.length / 8-(l.length+7) / 8=0:=by omega
  rw[e];unfold pbyte;rw[show 8*(l.length / 8)=l.length by omega,kai7 (Nat.le_refl _),kak7 (i:=l.length+1) (by simp),kak7 (i:=l.length+2) (by simp),kak7 (i:=l.length+3) (by simp),kak7 (i:=l.length+4) (by simp),kak7 (i:=l.length+5) (by simp),kak7 (i:=l.length+6) (by simp),kak7 (i:=l.length+7) (by simp)];simp
theorem getD_set(l:List Nat)(i j v:Nat)(hi:i<l.length):(l.set i v).getD j 0=if j=i then v else l.getD j 0:=by
 simp only[List.getD_eq_getElem?_getD,List.getElem?_set];by_cases h:i=j
 ·subst h;simp[hi]
 ·rw[if_neg h,if_neg (fun e=>h e.symm)]
theorem pack_snoc_old{l:List Nat}(b:Nat)(h:l.length % 8≠0) :
  pack (l++[b])=(pack l).set (l.length / 8) ((pack l).getD (l.length / 8) 0+b*2 ^ (7-l.length % 8)):=by
 refine ext_getD (by simp[km7];omega) fun k hk=>?_;rw[km7] at hk;simp only[List.length_append,List.length_singleton] at hk;rw[ky7,getD_set _ _ _ _ (by rw[km7];omega)];by_cases hkk:k=l.length / 8
 ·rw[if_pos hkk];subst hkk;rw[ky7];have hd:∀ r,r<8→(l++[b]).getD (8*(l.length / 8)+r) 0=if r=l.length % 8 then b else l.getD (8*(l.length / 8)+r) 0:=by
   intro r hr;by_cases h1:r<l.length % 8
   ·rw[kh7 (by omega),if_neg (by omega)]
   ·by_cases h2:r=l.length % 8
    ·rw[if_pos h2,kai7 (by omega),show 8*(l.length / 8)+r-l.length=0 by omega];rfl
    ·rw[if_neg h2,kak7 (by simp;omega),kak7 (by omega)]
  have hz:∀ r,l.length % 8≤r→l.getD (8*(l.length / 8)+r) 0=0:=fun r hr=>kak7 (by omega);have d0:=hd 0 (by decide);simp only[Nat.add_zero] at d0;have d1:=hd 1 (by decide);have d2:=hd 2 (by decide);have d3:=hd 3 (by decide);have d4:=hd 4 (by decide);have d5:=hd 5 (by decide);have d6:=hd 6 (by decide);have d7:=hd 7 (by decide);have z0:=hz (l.length % 8) (Nat.le_refl _);unfold pbyte;rw[d0,d1,d2,d3,d4,d5,d6,d7];clear d0 d1 d2 d3 d4 d5 d6 d7 hd hz hk;have hm:l.length % 8<8:=Nat.mod_lt _ (by decide);generalize l.length % 8=m at *;generalize l.length / 8=q at *;rcases(by omega:m=1∨m=2∨m=3∨m=4∨m=5∨m=6∨m=7) with rfl|rfl|rfl|rfl|rfl|rfl|rfl<;>simp at*<;> omega
 ·rw[if_neg hkk,ky7];unfold pbyte;rcases Nat.lt_or_ge k (l.length / 8) with h1|h1
  ·rw[kh7 (by omega),kh7 (by omega),kh7 (by omega),kh7 (by omega),kh7 (by omega),kh7 (by omega),kh7 (by omega),kh7 (by omega)]
  ·omega
theorem pack_low{l:List Nat}(h:l.length % 8≠0):(pack l).getD (l.length / 8) 0 % 2 ^ (8-l.length % 8)=0:=by
 rw[ky7];have hz:∀ r,l.length % 8≤r→l.getD (8*(l.length / 8)+r) 0=0:=fun r hr=>kak7 (by omega);unfold pbyte;have hm:l.length % 8<8:=Nat.mod_lt _ (by decide);generalize l.length % 8=m at *;generalize l.length / 8=q at *;have z1:=hz 1;have z2:=hz 2;have z3:=hz 3;have z4:=hz 4;have z5:=hz 5;have z6:=hz 6;have z7:=hz 7;clear hz;rcases(by omega:m=1∨m=2∨m=3∨m=4∨m=5∨m=6∨m=7) with rfl|rfl|rfl|rfl|rfl|rfl|rfl<;>simp at*<;> omega
def num(l:List Nat):Nat:=l.foldl (fun n b=>2*n+b) 0
theorem num_snoc(l:List Nat)(b:Nat):num (l++[b])=2*num l+b:=by simp[num]
theorem num_foldl(l:List Nat):∀ n,l.foldl (fun n b=>2*n+b) n=n*2 ^ l.length+num l:=by
 induction l with
 | nil=>intro n;simp[num]
 | cons a l ih =>
  intro n;unfold num;rw[List.foldl_cons,List.foldl_cons,ih,ih (2*0+a),List.length_cons,Nat.pow_succ];rw[Nat.mul_comm (2 ^ l.length) 2,←Nat.mul_assoc,Nat.mul_comm n 2,Nat.mul_zero,Nat.zero_add,Nat.add_mul];omega
theorem khq7(a:Nat)(l:List Nat):num (a::l)=a*2 ^ l.length+num l:=by
 show l.foldl _ (2*0+a)=_;rw[num_foldl];simp
theorem num_lt{l:List Nat}(h:Is01 l):num l<2 ^ l.length:=by
 induction l with
 | nil=>simp[num]
 | cons a l ih =>
  have ha:a<2:=h.mem (by simp);have:=ih (Is01.of_mem fun _ hx=>h.mem (List.mem_cons_of_mem _ hx));rw[khq7,List.length_cons,Nat.pow_succ];rcases(by omega:a=0∨a=1) with rfl|rfl<;>omega
end PB
section
open Go.RowKit
namespace PB
def bcells(l:List Nat):List Value:=l.map fun x:Nat=>Value.int .u8 (x:Int)
def ncells(l:List Nat):List Value:=l.map fun x:Nat=>Value.int .i64 (x:Int)
def Reads(w:World)(B:Nat)(A:Option Addr)(n c:Nat)(xs:List Value):Prop :=
 xs.length=n∧n≤c∧c≤maxLen∧(0<n→∃ b off,A=some ⟨b,off,none⟩∧b<B∧∀ j u,xs[j]?=some u→w.cell? ⟨b,off+j,none⟩=some u)
section
variable {w w':World}{B B' n c:Nat}{A:Option Addr}{xs:List Value}
theorem Reads.len(h:Reads w B A n c xs):xs.length=n:=h.1
theorem Reads.cap(h:Reads w B A n c xs):n≤c:=h.2.1
theorem Reads.capMax(h:Reads w B A n c xs):c≤maxLen:=h.2.2.1
theorem Reads.nil(w:World)(B:Nat)(A:Option Addr)(c:Nat)(hc:c≤maxLen):Reads w B A 0 c []:=⟨rfl,Nat.zero_le _,hc,fun h=>absurd h (by omega)⟩
theorem Reads.keep(h:Reads w B A n c xs)(hk:∀ p:Addr,p.block<B→w'.cell? p=w.cell? p):Reads w' B A n c xs :=
 ⟨h.1,h.2.1,h.2.2.1,fun hn=>by
  obtain⟨b,off,e,hb,hc⟩:=h.2.2.2 hn;exact⟨b,off,e,hb,fun j u hu=>(hk _ hb).trans (hc j u hu)⟩⟩
theorem Reads.more(h:Reads w B A n c xs)(hB:B≤B'):Reads w B' A n c xs :=
 ⟨h.1,h.2.1,h.2.2.1,fun hn=>by
  obtain⟨b,off,e,hb,hc⟩:=h.2.2.2 hn;exact⟨b,off,e,by omega,hc⟩⟩
theorem Reads.below(h:Reads w B A n c xs)(hb:Below B w w'):Reads w' B A n c xs:=h.keep fun _ hp=>hb.cell hp
theorem Reads.on(h:Reads w B A n c xs)(hB:B≤w.heap.size)(hb:Below w.heap.size w w'):Reads w' B A n c xs:=h.below (hb.mono hB)
theorem Reads.alloc(h:Reads w B A n c xs)(hB:B≤w.heap.size)(o:Obj):Reads (w.alloc o) B A n c xs:=h.keep fun p hp=>World.cell?_alloc_lt w o p (by omega)
theorem Reads.drew(h:Reads w B A n c xs):Reads w.drew B A n c xs:=h
theorem Reads.of_own{base:Nat}{e:TypeId}{v:Value}(h:w.ownsRow base e 1 v n xs):∃ A c,v=.slice A n c∧Reads w w.heap.size A n c xs:=by
 obtain⟨h1,h2⟩:=h;rcases h2 with⟨rfl,rfl⟩|⟨g,cap,cur,rfl,hg,hh,hn,hm,hs,ht⟩
 ·exact⟨none,0,rfl,by simpa using h1,Nat.le_refl _,Nat.zero_le _,fun h=>absurd h (by omega)⟩
 ·have hlt:g<w.heap.size:=by
   rcases Nat.lt_or_ge g w.heap.size with h|h
   ·exact h
   ·rw[Array.getElem?_eq_none h] at hh;cases hh
  refine⟨_,_,rfl,by simpa using h1,hn,hm,fun h0=>⟨g,0,rfl,hlt,fun j u hu=>?_⟩⟩;have:=World.ownsRow.cellAt (w:=w) (base:=base) (e:=e) (size:=1) (g:=g) (n:=n) (cap:=cap) (xs:=xs) ⟨h1,.inr ⟨g,cap,cur,rfl,hg,hh,hn,hm,hs,ht⟩⟩ j (by
   have:j<xs.length:=by
    rcases Nat.lt_or_ge j xs.length with h|h
    ·exact h
    ·rw[List.getElem?_eq_none h] at hu;cases hu
   omega)
  rw[Nat.zero_add,this,hu]
end
def Blk(w:World)(g:Nat)(t:TypeId)(cs:Array Value):Prop:=w.heap[g]?=some (.cells cs t (0,0))
section
variable {w w':World}{g:Nat}{t:TypeId}{cs:Array Value}
theorem Blk.lt(h:Blk w g t cs):g<w.heap.size:=by
 rcases Nat.lt_or_ge g w.heap.size with hlt|hge
 ·exact hlt
 ·unfold Blk at h;rw[Array.getElem?_eq_none hge] at h;cases h
theorem Blk.cell(h:Blk w g t cs)(i:Nat):w.cell? ⟨g,i,none⟩=cs[i]?:=cell_of_row w g i cs t (0,0) h
theorem Blk.frozen(h:Blk w g t cs)(i:Nat):w.frozen? ⟨g,i,none⟩=false:=by
 unfold Blk at h;simp[World.frozen?,h]
theorem Blk.new(w:World)(t:TypeId)(cs:Array Value):Blk (w.alloc (.cells cs t)) w.heap.size t cs:=heap_alloc_new w _
theorem Blk.drew(h:Blk w g t cs):Blk w.drew g t cs:=h
theorem Blk.alloc(h:Blk w g t cs)(o:Obj):Blk (w.alloc o) g t cs:=(Below.heap_alloc w o g h.lt).trans h
theorem Blk.set_(h:Blk w g t cs)(i:Nat)(u:Value):Blk (w.setCell ⟨g,i,none⟩ u) g t (cs.setIfInBounds i u):=by
 unfold Blk at h ⊢;simp[World.setCell,Array.getElem?_modify,h]
theorem Blk.far(h:Blk w g t cs){p:Addr}(hp:g≠p.block)(u:Value):Blk (w.setCell p u) g t cs:=(Below.heap_setCell w p u g hp).trans h
theorem Blk.below{B:Nat}(h:Blk w g t cs)(hb:Below B w w')(hg:g<B):Blk w' g t cs:=(hb.block g hg).trans h
theorem Blk.on(h:Blk w g t cs)(hb:Below w.heap.size w w'):Blk w' g t cs:=h.below hb h.lt
theorem Blk.grown{row:Option Nat}(h:Blk w g t cs)(hb:w.grownBy w' row)(hg:some g≠row):Blk w' g t cs:=(hb.block g h.lt hg).trans h
end
theorem kby7{w:World}{base:Nat}{e:TypeId}{size:Nat}{g n cap:Nat}{xs:List Value}(h:w.ownsRow base e size (.slice (some ⟨g,0,none⟩) n cap) n xs){p:Addr}(hp:p.block≠g)(u:Value) :
  (w.setCell p u).ownsRow base e size (.slice (some ⟨g,0,none⟩) n cap) n xs:=by
 obtain⟨h1,h2⟩:=h;refine⟨h1,?_⟩;rcases h2 with h2|⟨g',cap',cur,hv,hg,hh,r⟩
 ·exact Or.inl h2
 ·refine Or.inr ⟨g',cap',cur,hv,hg,?_,r⟩;have e:g=g':=by
   simp only[Value.slice.injEq,Option.some.injEq,Addr.mk.injEq,and_true,true_and] at hv;exact hv.1
  rw[Below.heap_setCell _ _ _ _ (by rw[←e];exact Ne.symm hp)];exact hh
theorem kdc7{w w':World}{base:Nat}{e:TypeId}{size:Nat}{v:Value}{n:Nat}{xs:List Value}(h:w.ownsRow base e size v n xs)(hb:Below w.heap.size w w'):w'.ownsRow base e size v n xs:=by
 obtain⟨h1,h2⟩:=h;refine⟨h1,?_⟩;rcases h2 with h2|⟨g',cap',cur,hv,hg,hh,r⟩
 ·exact Or.inl h2
 ·exact Or.inr ⟨g',cap',cur,hv,hg,Blk.on (t:=e) hh hb,r⟩
theorem kao7{w:World}{base base':Nat}{e:TypeId}{size:Nat}{v:Value}{n:Nat}{xs:List Value}(h:w.ownsRow base e size v n xs)(hb:base'≤base):w.ownsRow base' e size v n xs:=by
 obtain⟨h1,h2⟩:=h;refine⟨h1,?_⟩;rcases h2 with h2|⟨g',cap',cur,rfl,hg,hh,r⟩
 ·exact Or.inl h2
 ·exact Or.inr ⟨g',cap',cur,rfl,Nat.le_trans hb hg,hh,r⟩
theorem kk7{w:World}{base:Nat}{e:TypeId}{size:Nat}{v:Value}{n:Nat}{xs:List Value}(h:w.ownsRow base e size v n xs){p:Addr}(hp:v.ownBlock≠some p.block)(u:Value) :
  (w.setCell p u).ownsRow base e size v n xs:=by
 obtain⟨h1,h2⟩:=h;refine⟨h1,?_⟩;rcases h2 with h2|⟨g',cap',cur,rfl,hg,hh,r⟩
 ·exact Or.inl h2
 ·refine Or.inr ⟨g',cap',cur,rfl,hg,?_,r⟩;rw[Below.heap_setCell _ _ _ _ (by simpa [Value.ownBlock] using hp)];exact hh
theorem only_refl(w:World)(row:Option Nat):w.grownBy w row:=World.grownBy.refl w row
theorem kcr7{a w:World}{row:Option Nat}(h:a.grownBy w row):a.grownBy w.drew row:=⟨h.os,h.tape,h.output,h.size,h.block⟩
theorem kbq7{a w:World}{row:Option Nat}(h:a.grownBy w row)(o:Obj):a.grownBy (w.alloc o) row :=
 ⟨h.os,h.tape,h.output,Nat.le_trans h.size (by simp),fun i hi hne=>(Below.heap_alloc w o i (Nat.lt_of_lt_of_le hi h.size)).trans (h.block i hi hne)⟩
theorem kv7{a w:World}{row:Option Nat}(h:a.grownBy w row){p:Addr}(hp:row=some p.block∨a.heap.size≤p.block)(u:Value):a.grownBy (w.setCell p u) row :=
 ⟨h.os,h.tape,h.output,by simpa [World.setCell] using h.size,fun i hi hne=>(Below.heap_setCell w p u i (by
  rintro rfl;rcases hp with hp|hp
  ·exact hne hp.symm
  ·omega)).trans (h.block i hi hne)⟩
theorem kgd7{a w:World}(h:Below a.heap.size a w)(row:Option Nat):a.grownBy w row:=⟨h.os,h.tape,h.output,h.size,fun i hi _=>h.block i hi⟩
theorem kdj7{a b c:World}{row row':Option Nat}(h:a.grownBy b row)(k:b.grownBy c row')(hr:row'=row∨∀ g,row'=some g→a.heap.size≤g):a.grownBy c row :=
 ⟨k.os.trans h.os,k.tape.trans h.tape,k.output.trans h.output,Nat.le_trans h.size k.size,fun i hi hne=>(k.block i (Nat.lt_of_lt_of_le hi h.size) (by
  intro e;rcases hr with hr|hr
  ·exact hne (e.trans hr)
  ·have:=hr i e.symm;omega)).trans (h.block i hi hne)⟩
theorem Blk.ne_{w:World}{g g':Nat}{t t':TypeId}{cs cs':Array Value}(h:Blk w g t cs)(h':Blk w g' t' cs')(hne:t≠t'):g≠g':=by
 rintro rfl;unfold Blk at h h';rw[h] at h';injection h' with h';injection h' with _ ht;exact hne ht
theorem kcj7{w:World}{base:Nat}{e t:TypeId}{size n g:Nat}{v:Value}{xs:List Value}{cs:Array Value}(h:w.ownsRow base e size v n xs)(hg:Blk w g t cs)(hne:e≠t):some g≠v.ownBlock:=by
 rcases h.2 with⟨rfl,_⟩|⟨g',cap,cur,rfl,_,hh,_⟩
 ·simp[Value.ownBlock]
 ·intro he;have he':g=g':=by simpa [Value.ownBlock] using he
  subst he';exact Blk.ne_ (t:=e) hh hg hne rfl
theorem one_new(w:World)(H:Nat)(hH:w.heap.size=H)(v:Value)(t:TypeId):∀ j u,[v][j]?=some u→(w.alloc (.cells #[v] t)).cell? ((⟨H,0,none⟩:Addr).add j)=some u:=by
 subst hH;exact cell_one_new _ _ _
theorem bcells_set(l:List Nat)(i v:Nat):bcells (l.set i v)=(bcells l).set i (.int .u8 (v:Int)):=by simp[bcells,List.map_set]
theorem kbz7(a b:List Nat):bcells (a++b)=bcells a++bcells b:=by simp[bcells]
theorem ret_int{k:IntKind}{a b:Int}(h:a=b):Ending.returned (.int k a)=.returned (.int k b):=by rw[h]
theorem ret_bool{a b:Bool}(h:a=b):Ending.returned (.bool a)=.returned (.bool b):=by rw[h]
theorem ka7(l:List Nat):(bcells l).length=l.length:=by simp[bcells]
theorem kck7(l:List Nat)(j:Nat)(h:j<l.length):(bcells l)[j]?=some (.int .u8 ((l.getD j 0:Nat):Int)):=by
 simp[bcells,List.getElem?_map,List.getElem?_eq_getElem h,List.getD_eq_getElem?_getD]
theorem Reads.byte{w:World}{B n c:Nat}{A:Option Addr}{d:List Nat}(h:Reads w B A n c (bcells d))(hn:0<n) :
  ∃ b off,A=some ⟨b,off,none⟩∧b<B∧∀ j,j<n→w.cell? ⟨b,off+j,none⟩=some (.int .u8 ((d.getD j 0:Nat):Int)):=by
 obtain⟨b,off,e,hb,hc⟩:=h.2.2.2 hn;have hl:=h.1;rw[ka7] at hl;exact⟨b,off,e,hb,fun j hj=>hc j _ (kck7 d j (by omega))⟩
theorem u8_shr_and(x:Nat)(k:Nat)(h:x<256):bits .and .u8 (((x / 2 ^ k:Nat):Int)) 1=((x / 2 ^ k % 2:Nat):Int):=by
 have hx:x / 2 ^ k<256:=Nat.lt_of_le_of_lt (Nat.div_le_self _ _) h;have:=u8_and_nat (x / 2 ^ k) 1 hx (by decide);rw[nat_mask1] at this;exact this
end PB
end
section
open Go.RowKit
namespace PB
theorem khr7(x k:Nat)(h:x<256):wrap64 (bits .and .u8 ((x:Int) / 2 ^ k) 1)=((x / 2 ^ k % 2:Nat):Int):=by
 have e:((x:Int) / 2 ^ k)=((x / 2 ^ k:Nat):Int):=by simp
 rw[e,u8_shr_and x k h];exact IntWalk.wrap64_in _ ⟨by omega,by omega⟩
theorem at_any(A:Option Addr)(n c:Nat)(d:List Nat)(cnt:Int)(i:Nat)(B:Nat)(w:World)(h:Reads w B A n c (bcells d))(hd:∀ k,d.getD k 0<256)(hi:i<8*n)(hB:B≤w.heap.size) :
  Calls Tryz.prog 113 #[.agg #[.slice A n c,.int .i64 cnt],.int .i64 i] w fun e w'=>e=.returned (.int .i64 (bitAt d i))∧Below w.heap.size w w':=by
 obtain⟨b,off,rfl,hb,hc⟩:=h.byte (by omega);have hcell:=hc (i / 8) (by omega);have hcm:=h.capMax;have hcap:=h.cap;unfold maxLen at hcm;have hcell':∀ o,(w.alloc o).cell? ⟨b,off+i / 8,none⟩=some (.int .u8 ((d.getD (i / 8) 0:Nat):Int)):=fun o=>(World.cell?_alloc_lt _ _ _ (by simp;omega)).trans hcell;have hx:=hd (i / 8);clear hd hc h
 go_enter Tryz.func113,Tryz.ntmps113
 go_wp2
 go_ret
 refine⟨ret_int ?_,(Below.refl _ _).alloc (Nat.le_refl _) _⟩;rw[List.getD_eq_getElem?_getD] at hx;rw[khr7 _ _ hx];unfold bitAt;rw[List.getD_eq_getElem?_getD]
theorem khs7(A:Option Addr)(n c:Nat)(l:List Nat)(i:Nat)(B:Nat)(w:World)(h:Reads w B A n c (bcells (pack l)))(h01:Is01 l)(hi:i<l.length)(hB:B≤w.heap.size) :
  Calls Tryz.prog 113 #[.agg #[.slice A n c,.int .i64 l.length],.int .i64 i] w fun e w'=>e=.returned (.int .i64 (l.getD i 0:Nat))∧Below w.heap.size w w':=by
 have hn:=h.len;rw[ka7,km7] at hn;rw[←bitAt_pack h01];exact at_any A n c (pack l) _ i B w h (pack_lt h01) (by omega) hB
def Ok(d:List Nat)(cnt:Int):Prop:=0≤cnt∧cnt≤131072∧(d.length:Int)=(cnt+7) / 8∧(cnt % 8=0∨d.getD (d.length-1) 0*2 ^ (cnt % 8).toNat % 256=0)
theorem Ok.of_list{l:List Nat}(h01:Is01 l)(hl:l.length≤131072):Ok (pack l) l.length:=by
 refine⟨by omega,by omega,by rw[km7];omega,?_⟩;have:=(rest_iff (pack l) l.length (pack_lt h01) (km7 l)).1 (pack_rest h01);rcases this with h|h
 ·left;omega
 ·right;rw[show((l.length:Int) % 8).toNat=l.length % 8 by omega];exact h
theorem valid_any(A:Option Addr)(n c:Nat)(d:List Nat)(cnt:Int)(B:Nat)(w:World)(h:Reads w B A n c (bcells d))(hB:B≤w.heap.size)(r:Bool)(hok:r=true↔Ok d cnt) :
  Calls Tryz.prog 108 #[.agg #[.slice A n c,.int .i64 cnt]] w fun e w'=>e=.returned (.bool r)∧Below w.heap.size w w':=by
 have hcm:=h.capMax;have hcap:=h.cap;have hl:=h.len;rw[ka7] at hl;unfold maxLen at hcm;by_cases k0:cnt<0
 ·obtain rfl:r=false:=by
   cases r
   ·rfl
   ·have:=(hok.1 rfl).1;omega
  clear hok;have kk:decide (cnt<0)=true:=by simpa using k0
  go_enter Tryz.func108,Tryz.ntmps108
  go_wp2
  go_ret
  exact⟨rfl,(Below.refl _ _).alloc (Nat.le_refl _) _⟩
 by_cases k1:cnt≤131072
 case neg =>
  obtain rfl:r=false:=by
   cases r
   ·rfl
   ·have:=(hok.1 rfl).2.1;omega
  clear hok;have kk:decide (cnt<0)=false:=by simpa using k0
  have kk2:decide (131072<cnt)=true:=by simp;omega
  go_enter Tryz.func108,Tryz.ntmps108
  go_wp2
  go_ret
  exact⟨rfl,(Below.refl _ _).alloc (Nat.le_refl _) _⟩
 by_cases k2:(d.length:Int)=(cnt+7) / 8
 case neg =>
  obtain rfl:r=false:=by
   cases r
   ·rfl
   ·exact absurd (hok.1 rfl).2.2.1 k2
  clear hok;have kk:decide (cnt<0)=false:=by simpa using k0
  have kk2:decide (131072<cnt)=false:=by simp;omega
  have kk3:((n:Int) != (cnt+7) / 8)=true:=by rw[bne_iff_ne];omega
  have H2:=Lib.hid k2;clear k2
  go_enter Tryz.func108,Tryz.ntmps108
  go_wp2
  go_ret
  exact⟨rfl,(Below.refl _ _).alloc (Nat.le_refl _) _⟩
 have kk:decide (cnt<0)=false:=by simpa using k0
 have kk2:decide (131072<cnt)=false:=by simp;omega
 have kk3:((n:Int) != (cnt+7) / 8)=false:=by rw[bne_eq_false_iff_eq];omega
 by_cases h8:cnt % 8=0
 ·obtain rfl:r=true:=hok.2 ⟨by omega,by omega,k2,.inl h8⟩;have h8':(cnt % 8 == 0)=true:=by simpa using h8
  have H2:=Lib.hid k2;have H8:=Lib.hid h8;clear hok k2 h8
  go_enter Tryz.func108,Tryz.ntmps108
  go_wp2
  go_ret
  exact⟨rfl,(Below.refl _ _).alloc (Nat.le_refl _) _⟩
 ·obtain⟨b,off,rfl,hb,hc⟩:=h.byte (by omega);have hcell:=hc (n-1) (by omega);have hcell':∀ o,(w.alloc o).cell? ⟨b,off+(n-1),none⟩=some (.int .u8 ((d.getD (n-1) 0:Nat):Int)):=fun o=>(World.cell?_alloc_lt _ _ _ (by simp;omega)).trans hcell;have hr:(((d.getD (n-1) 0:Nat):Int)*2 ^ (cnt % 8).toNat % 256 == 0)=r:=by
   have e:(((d.getD (n-1) 0:Nat):Int)*2 ^ (cnt % 8).toNat % 256)=((d.getD (n-1) 0*2 ^ (cnt % 8).toNat % 256:Nat):Int):=by simp
   rw[e,Bool.eq_iff_iff,beq_iff_eq,hok];constructor
   ·intro h0;exact⟨by omega,by omega,k2,.inr (by rw[hl];omega)⟩
   ·rintro⟨_,_,_,h3|h3⟩
    ·exact absurd h3 h8
    ·rw[hl] at h3;omega
  have HR:=Lib.hid hr;have h8':(cnt % 8 == 0)=false:=by simpa using h8
  have hn0:1≤n:=by omega
  clear hc h hcell hok k2 hr
  go_enter Tryz.func108,Tryz.ntmps108
  go_wp2
  go_ret
  refine⟨ret_bool ?_,(Below.refl _ _).alloc (Nat.le_refl _) _⟩;rw[←HR.out,List.getD_eq_getElem?_getD]
theorem kau7(A:Option Addr)(n c:Nat)(l:List Nat)(B:Nat)(w:World)(h:Reads w B A n c (bcells (pack l)))(hB:B≤w.heap.size)(h01:Is01 l)(hl:l.length≤131072) :
  Calls Tryz.prog 108 #[.agg #[.slice A n c,.int .i64 l.length]] w fun e w'=>e=.returned (.bool true)∧Below w.heap.size w w' :=
 valid_any A n c (pack l) l.length B w h hB true ⟨fun _=>Ok.of_list h01 hl,fun _=>rfl⟩
theorem kca7:(Tryz.prog.info? 5).map (fun i=>(i.zero,i.size,i.bytes))=some (some (.int .u8 0),1,1):=by kernel_rfl
theorem put_value{l:List Nat}(h01:Is01 l)(bit:Nat)(hbit:bit<2)(h8:l.length % 8≠0)(x:Nat)(hxe:x=(pack l).getD (l.length / 8) 0) :
  bits .or .u8 (x:Int) (wrap64 ((bit:Int)*2 ^ (7-l.length % 8)) % 256)=((x+bit*2 ^ (7-l.length % 8):Nat):Int):=by
 have hx:=pack_lt h01 (l.length / 8);have hlow:=pack_low h8;rw[←hxe] at hx hlow;have hm:l.length % 8<8:=Nat.mod_lt _ (by decide);generalize l.length % 8=m at *;have hp:bit*2 ^ (7-m)<2 ^ (8-m):=by
  rw[show 8-m=(7-m)+1 by omega,Nat.pow_succ];have:0<2 ^ (7-m):=Nat.two_pow_pos _;rcases(by omega:bit=0∨bit=1) with rfl|rfl<;>omega
 have hp2:(2:Nat) ^ (8-m)≤2 ^ 7:=Nat.pow_le_pow_right (by decide) (by omega);have e:((bit:Int)*2 ^ (7-m))=((bit*2 ^ (7-m):Nat):Int):=by simp
 have e2:wrap64 ((bit*2 ^ (7-m):Nat):Int) % 256=((bit*2 ^ (7-m):Nat):Int):=by
  rw[IntWalk.wrap64_in _ ⟨by omega,by omega⟩];omega
 rw[e,e2,u8_or_nat _ _ hx (by omega),nat_join (8-m) _ _ hlow hp]
theorem put_old(g n c:Nat)(l:List Nat)(bit:Nat)(base:Nat)(w:World)(h01:Is01 l)(hbit:bit<2)(hl:l.length<1000000)(h8:l.length % 8≠0)
  (hown:w.ownsRow base 5 1 (.slice (some ⟨g,0,none⟩) n c) n (bcells (pack l))) (hbase:base≤w.heap.size) :
  Calls Tryz.prog 123 #[.agg #[.slice (some ⟨g,0,none⟩) n c,.int .i64 l.length],.int .i64 bit] w fun e w'=>e=.returned (.agg #[.slice (some ⟨g,0,none⟩) n c,.int .i64 ((l.length:Int)+1)]) ∧
   w'.ownsRow base 5 1 (.slice (some ⟨g,0,none⟩) n c) n (bcells (pack (l++[bit])))∧w.grownBy w' (some g):=by
 obtain⟨hr,hgb⟩:Reads w w.heap.size (some ⟨g,0,none⟩) n c (bcells (pack l))∧base≤g:=by
  obtain⟨A,c',hv,h⟩:=Reads.of_own hown;cases hv;exact⟨h,(hown.lt g rfl).1⟩
 have hn:=hr.len;rw[ka7,km7] at hn;obtain⟨b,off,he,hb,hc⟩:=hr.byte (by omega);cases he;have hcell:=hc (l.length / 8) (by omega);rw[Nat.zero_add] at hcell;have hfz:=hown.frozenAt (l.length / 8);have hcm:=hr.capMax;have hcn:=hr.cap;unfold maxLen at hcm;obtain⟨x,hxe⟩:∃ x,x=(pack l).getD (l.length / 8) 0:=⟨_,rfl⟩
 rw[←hxe] at hcell;have hx:=pack_lt h01 (l.length / 8);rw[←hxe] at hx;have hcell':∀ o,(w.alloc o).cell? ⟨g,l.length / 8,none⟩=some (.int .u8 (x:Int)):=fun o=>(World.cell?_alloc_lt _ _ _ (by simp;omega)).trans hcell;have hne:((l.length:Int) % 8 == 0)=false:=by simp;omega
 have HV:=Lib.hid (put_value h01 bit hbit h8 x hxe);have HS:=Lib.hid (pack_snoc_old (l:=l) bit h8);have HX:=Lib.hid hxe;clear hc hxe
 go_enter Tryz.func123,Tryz.ntmps123
 go_wp2
 go_region
 go_wp2
 refine bodyPost_ret (v:=.agg #[.slice (some ⟨g,0,none⟩) n c,.int .i64 ((l.length:Int)+1)]) (by simp[results,Tryz.results123,go_sem]) rfl ⟨rfl,?_,?_⟩
 ·rw[HV.out,HS.out,bcells_set,←HX.out];exact((hown.stored (l.length / 8) _).1.alloc _).alloc _ |>.drew
 ·exact kcr7 (kbq7 (kbq7 (kv7 (only_refl _ _) (.inl rfl) _) _) _)
theorem put_new(A:Option Addr)(n c:Nat)(l:List Nat)(bit:Nat)(base:Nat)(w:World)(hbit:bit<2)(hl:l.length<1000000)(h8:l.length % 8=0)
  (hown:w.ownsRow base 5 1 (.slice A n c) n (bcells (pack l))) (hbase:base≤w.heap.size) :
  Calls Tryz.prog 123 #[.agg #[.slice A n c,.int .i64 l.length],.int .i64 bit] w fun e w'=>∃ g c',e=.returned (.agg #[.slice (some ⟨g,0,none⟩) (n+1) c',.int .i64 ((l.length:Int)+1)]) ∧
   w'.ownsRow base 5 1 (.slice (some ⟨g,0,none⟩) (n+1) c') (n+1) (bcells (pack (l++[bit])))∧w.grownBy w' (Value.slice A n c).ownBlock:=by
 obtain⟨i0,hi,hz0,hz1,hz2⟩:=info_parts kca7;have hn:n=(l.length+7) / 8:=by
  have:=hown.1;rw[ka7,km7] at this;omega
 have hne:((l.length:Int) % 8 == 0)=true:=by simp;omega
 have HN:=Lib.hid hn;clear hn;have hnl:n+1≤200000:=by have:=HN.out;omega
 go_enter Tryz.func123,Tryz.ntmps123
 go_wp2_with (at_builtin;refine wpList_append_lies _ rfl _ _ _ rfl base 5 i0 _ 1 1 Tryz.underlying22 hi hz0 hz1 hz2 rfl (by omega) (.slice A n c) n (bcells (pack l)) rfl (((hown.alloc _).alloc _).alloc _) ⟨w.heap.size+1+1,0,none⟩ 1 1 [.int .u8 0] rfl rfl ?c1 ?c2 ?c3 ?c4 ?c5 ?c6 (w.heap.size+3) ?c7 ?_)
 case c1=>exact one_new _ _ (by simp) _ _
 case c2=>intro u hu;simp at hu;subst hu;rfl
 case c3=>decide
 case c4=>unfold maxLen;omega
 case c5=>omega
 case c6=>simp;omega
 case c7=>simp
 intro g cap w1 hown1 hgrow hat hlt;have hgb:base≤g:=(hown1.lt g rfl).1;have hne1:g≠w.heap.size∧g≠w.heap.size+1:=by
  rcases hat with h|h
  ·have:=(hown.lt g h).2;omega
  ·omega
 have hsz:w.heap.size+3≤w1.heap.size:=by have:=hgrow.size;simp at this;omega
 have hfar:∀ k,k=w.heap.size∨k=w.heap.size+1→some k≠(Value.slice A n c).ownBlock:=by
  intro k hk h;have:=(hown.lt k h.symm).2;omega
 have b0:=hgrow.block w.heap.size (by simp;omega) (hfar _ (.inl rfl));have b1:=hgrow.block (w.heap.size+1) (by simp) (hfar _ (.inr rfl));have HB0:w1.heap[w.heap.size]?=some (.cells #[.slice A n c,.int .i64 l.length] 70 (0,0)):=by
  rw[b0];show((((w.heap.push _).push _).push _))[w.heap.size]?=_;simp only[Array.getElem?_push,Array.size_push];rw[if_neg (by omega),if_neg (by omega),if_pos trivial]
 have HB1:w1.heap[w.heap.size+1]?=some (.cells #[.slice none 0 0,.int .i64 0] 70 (0,0)):=by
  rw[b1];show((((w.heap.push _).push _).push _))[w.heap.size+1]?=_;simp only[Array.getElem?_push,Array.size_push];rw[if_neg (by omega),if_pos trivial]
 have f0:∀ i,w1.frozen? ⟨w.heap.size,i,none⟩=false:=fun i=>frozen_of_row _ _ _ _ _ HB0;have f1:∀ i,w1.frozen? ⟨w.heap.size+1,i,none⟩=false:=fun i=>frozen_of_row _ _ _ _ _ HB1;have c00:w1.cell? ⟨w.heap.size,0,none⟩=some (.slice A n c):=cell_of_row _ _ _ _ _ _ HB0;have c01:w1.cell? ⟨w.heap.size,1,none⟩=some (.int .i64 l.length):=cell_of_row _ _ _ _ _ _ HB0;have c10:w1.cell? ⟨w.heap.size+1,0,none⟩=some (.slice none 0 0):=cell_of_row _ _ _ _ _ _ HB1;have c11:w1.cell? ⟨w.heap.size+1,1,none⟩=some (.int .i64 0):=cell_of_row _ _ _ _ _ _ HB1;have cg:w1.cell? ⟨g,l.length / 8,none⟩=some (.int .u8 0):=by
  have:=HN.out;rw[hown1.cellAt _ (by omega),List.getElem?_append_right (by rw[ka7,km7];omega),ka7,km7,show l.length / 8-(l.length+7) / 8=0 by omega];rfl
 have fg:=hown1.frozenAt (l.length / 8);have hn1:l.length / 8<n+1:=by have:=HN.out;omega
 have hcm:n+1≤cap:=(Reads.of_own hown1).elim fun A' h=>h.elim fun c' h=>by
  obtain⟨h1,h2⟩:=h;cases h1;exact h2.cap
 obtain⟨hg1,hg2⟩:=hne1;have hg1':=Ne.symm hg1;have hg2':=Ne.symm hg2;have hbd:w.grownBy w1 (Value.slice A n c).ownBlock:=kdj7 (kbq7 (kbq7 (kbq7 (only_refl _ _) _) _) _) hgrow (.inl rfl);have hgr:(Value.slice A n c).ownBlock=some g∨w.heap.size≤g:=by
  rcases hat with h|h
  ·exact .inl h
  ·right;omega
 have HB:Hid (Blk w1 (w.heap.size+1) 70 #[.slice none 0 0,.int .i64 0]):=HB1;clear HB0 HB1 b0 b1 hfar hat hgrow;have H1:=Lib.hid hown1;clear hown1
 go_wp2
 go_region
 go_wp2
 have hB:=(((((Blk.far HB.out (p:=⟨w.heap.size,0,none⟩) (by simp) (.slice (some ⟨g,0,none⟩) (n+1) cap)).far (p:=⟨g,l.length / 8,none⟩) hg2' (.int .u8 (bits BinOp.or IntKind.u8 0 (wrap64 ((bit:Int)*128) % 256)))).far (p:=⟨w.heap.size,1,none⟩) (by simp) (.int .i64 ((l.length:Int)+1))).set_ 0 (.slice (some ⟨g,0,none⟩) (n+1) cap)).set_ 1 (.int .i64 ((l.length:Int)+1))).drew;have r0:=hB.cell 0;have r1:=hB.cell 1;simp at r0 r1;refine bodyPost_ret (v:=.agg #[.slice (some ⟨g,0,none⟩) (n+1) cap,.int .i64 ((l.length:Int)+1)]) (by simp[results,Tryz.results123,go_sem,r0,r1]) rfl ⟨g,cap,rfl,?_,?_⟩
 ·have e:bcells (pack (l++[bit]))=(bcells (pack l)++[Value.int .u8 0]).set (l.length / 8) (.int .u8 (bits BinOp.or IntKind.u8 0 (wrap64 ((bit:Int)*128) % 256))):=by
   have hv:bits BinOp.or IntKind.u8 0 (wrap64 ((bit:Int)*128) % 256)=((bit*128:Nat):Int):=by
    rcases(by omega:bit=0∨bit=1) with rfl|rfl<;>decide +kernel
   rw[hv,pack_snoc_new l bit h8,kbz7];have hq:(bcells (pack l)).length=l.length / 8:=by rw[ka7,km7];omega
   rw[←hq,List.set_append_right _ _ (Nat.le_refl _),Nat.sub_self];rfl
  rw[e];exact((((kby7 (kby7 (((kby7 H1.out hg1' _).stored (l.length / 8) _).1) hg1' _) hg2' _)) |> fun h=>kby7 h hg2' _)).drew
 ·exact kcr7 (kv7 (kv7 (kv7 (kv7 (kv7 hbd (.inr (Nat.le_refl _)) _) (by simpa using hgr) _) (.inr (Nat.le_refl _)) _) (.inr (by simp)) _) (.inr (by simp)) _)
theorem put_any(A:Option Addr)(n c:Nat)(l:List Nat)(bit:Nat)(base:Nat)(w:World)(h01:Is01 l)(hbit:bit<2)(hl:l.length<1000000)
  (hown:w.ownsRow base 5 1 (.slice A n c) n (bcells (pack l))) (hbase:base≤w.heap.size) :
  Calls Tryz.prog 123 #[.agg #[.slice A n c,.int .i64 l.length],.int .i64 bit] w fun e w'=>∃ A' n' c',e=.returned (.agg #[.slice A' n' c',.int .i64 ((l++[bit]).length:Nat)]) ∧
   w'.ownsRow base 5 1 (.slice A' n' c') n' (bcells (pack (l++[bit])))∧w.grownBy w' (Value.slice A n c).ownBlock:=by
 by_cases h8:l.length % 8=0
 ·refine(put_new A n c l bit base w hbit hl h8 hown hbase).mono ?_;rintro e w' ⟨g,c',rfl,h1,h2⟩;exact⟨_,_,_,by simp,h1,h2⟩
 ·have hn:=hown.1;rw[ka7,km7] at hn;obtain⟨g,cap,hv,_,_⟩:=hown.form (by omega);cases hv;refine(put_old g n c l bit base w h01 hbit hl h8 hown hbase).mono ?_;rintro e w' ⟨rfl,h1,h2⟩;exact⟨_,_,_,by simp,h1,h2⟩
section
variable {P:Program}(w:World)
theorem kgl7(base:Nat)(t ty e:TypeId)(i:TypeInfo)(size:Nat)(ht:P.underlying t=some (.slice e))(hi:P.info? e=some i)
  (v:Value) (n:Nat) (xs:List Value) (hown:w.ownsRow base e size v n xs) (c:Nat):(Builtin.append_ #[t,t] ty #[v,.slice none 0 c]).run P w=.ok v w:=by
 rcases hown.2 with⟨rfl,rfl⟩|⟨g,cap,cur,rfl,_,_,hnc,_⟩
 ·simp[Builtin.append_,run_underlying ht,sizeOf,typeInfo,hi,Builtin.lenOf,Builtin.firstCells]
 ·simp[Builtin.append_,run_underlying ht,sizeOf,typeInfo,hi,Builtin.lenOf,Builtin.firstCells,hnc,storeCells]
theorem run_append_any(base:Nat)(t ty e:TypeId)(i:TypeInfo)(z:Value)(bytes:Nat)(ht:P.underlying t=some (.slice e))(hi:P.info? e=some i)(hz:i.zero=some z)
  (hsize:i.size=1) (hby:i.bytes=bytes) (hzs:z.cells.size=1)
  (v:Value) (n:Nat) (xs:List Value) (hown:w.ownsRow base e 1 v n xs)
  (B:Nat) (A:Option Addr) (m c:Nat) (news:List Value) (hr:Reads w B A m c news) (h1:∀ u∈news,u.oneCell'=true)
  (h63:n+m≤maxLen) (hbytes:(n+m)*bytes≤140737488355328) (hbase:base≤w.heap.size) :
  ∃ v' w',(Builtin.append_ #[t,t] ty #[v,.slice A m c]).run P w=.ok v' w'∧w'.ownsRow base e 1 v' (n+m) (xs++news)∧w.grownBy w' v.ownBlock ∧
   (v'.ownBlock=v.ownBlock∨v'.ownBlock=some w.heap.size):=by
 rcases A with _|ad
 ·have hm:m=0:=by
   rcases Nat.eq_zero_or_pos m with h0|h0
   ·exact h0
   ·obtain⟨b,off,h,_⟩:=hr.2.2.2 h0;cases h
  subst hm;have hn:news=[]:=List.eq_nil_of_length_eq_zero hr.1;subst hn;exact⟨v,w,kgl7 w base t ty e i 1 ht hi v n xs hown c,by simpa using hown,World.grownBy.refl w _,.inl rfl⟩
 ·have hcells:∀ j u,news[j]?=some u→w.cell? (ad.add j)=some u:=by
   intro j u hu;rcases Nat.eq_zero_or_pos m with h0|h0
   ·subst h0;have hn:news=[]:=List.eq_nil_of_length_eq_zero hr.1;subst hn;simp at hu
   ·obtain⟨b,off,h,_,hc⟩:=hr.2.2.2 h0;injection h with h;subst h;have:=hc j u hu;have e:(⟨b,off,none⟩:Addr).add j=⟨b,off+j,none⟩:=by
     unfold Addr.add;by_cases hj:j=0<;>simp[hj]
    rw[e];exact this
  obtain⟨v',w',hrun,h2,h3,_,h5⟩:=run_append_own_at (P:=P) w base t ty e i z 1 bytes ht hi hz hsize hby hzs (by decide) v n xs hown ad m c news (by rw[hr.1,Nat.mul_one]) hcells h1 h63 hbytes hbase;exact⟨v',w',hrun,h2,h3,h5⟩
theorem own_shape{w:World}{base:Nat}{e:TypeId}{size:Nat}{v:Value}{n:Nat}{xs:List Value}(h:w.ownsRow base e size v n xs):∃ A c,v=.slice A n c:=by
 rcases h.2 with⟨rfl,rfl⟩|⟨g,cap,cur,rfl,_⟩
 ·exact⟨_,_,rfl⟩
 ·exact⟨_,_,rfl⟩
theorem kge7{o:Oper}{a:Act}{K:Act→World→Prop}{Q:Exit→Act→World→Prop}(s x:Operand)(t:TypeId)
  (ho:o.op=.call { callee:=.builtin .append,args:=#[s,x],argTypes:=#[t,t] })
  (base:Nat) (e:TypeId) (i:TypeInfo) (z:Value) (bytes:Nat) (ht:P.underlying t=some (.slice e)) (hi:P.info? e=some i) (hz:i.zero=some z)
  (hsize:i.size=1) (hby:i.bytes=bytes) (hzs:z.cells.size=1)
  (v:Value) (n:Nat) (xs:List Value) (hs:a.eval s=v) (hown:w.ownsRow base e 1 v n xs)
  (B:Nat) (A:Option Addr) (m c:Nat) (news:List Value) (hx:a.eval x=.slice A m c) (hr:Reads w B A m c news) (h1:∀ u∈news,u.oneCell'=true)
  (h63:n+m≤maxLen) (hbytes:(n+m)*bytes≤140737488355328) (hbase:base≤w.heap.size)
  (h:∀ A' c' w',w'.ownsRow base e 1 (.slice A' (n+m) c') (n+m) (xs++news)→w.grownBy w' v.ownBlock→((Value.slice A' (n+m) c').ownBlock=v.ownBlock∨(Value.slice A' (n+m) c').ownBlock=some w.heap.size)→K (a.put o.dst (.slice A' (n+m) c')) w'):o.wp P a w K Q:=by
 obtain⟨v',w',hrun,h2,h3,h4⟩:=run_append_any (P:=P) w base t o.type e i z bytes ht hi hz hsize hby hzs v n xs hown B A m c news hr h1 h63 hbytes hbase;obtain⟨A',c',rfl⟩:=own_shape h2;unfold Oper.wp execOp;simp only[ho,resolve,invoke,builtin,Sem.run_bind,Sem.run_pure,Result.andThen_ok,List.map_toArray,List.map_cons,List.map_nil,hs,hx,hrun];exact h A' c' w' h2 h3 h4
theorem kbe7{ops:Array Oper}{rest:List Oper}{o:Oper}{a:Act}{Q:Exit→Act→World→Prop}(hgd:o.guard=none)(s x:Operand)(t:TypeId)
  (ho:o.op=.call { callee:=.builtin .append,args:=#[s,x],argTypes:=#[t,t] })
  (base:Nat) (e:TypeId) (i:TypeInfo) (z:Value) (bytes:Nat) (ht:P.underlying t=some (.slice e)) (hi:P.info? e=some i) (hz:i.zero=some z)
  (hsize:i.size=1) (hby:i.bytes=bytes) (hzs:z.cells.size=1)
  (v:Value) (n:Nat) (xs:List Value) (hs:a.eval s=v) (hown:w.ownsRow base e 1 v n xs)
  (B:Nat) (A:Option Addr) (m c:Nat) (news:List Value) (hx:a.eval x=.slice A m c) (hr:Reads w B A m c news) (h1:∀ u∈news,u.oneCell'=true)
  (h63:n+m≤maxLen) (hbytes:(n+m)*bytes≤140737488355328) (hbase:base≤w.heap.size)
  (h:∀ A' c' w',w'.ownsRow base e 1 (.slice A' (n+m) c') (n+m) (xs++news)→w.grownBy w' v.ownBlock→((Value.slice A' (n+m) c').ownBlock=v.ownBlock∨(Value.slice A' (n+m) c').ownBlock=some w.heap.size)→wpList P ops Q rest (a.put o.dst (.slice A' (n+m) c')) w'):wpList P ops Q (o::rest) a w :=
 wpList_plain hgd fun _ hK=>kge7 w s x t ho base e i z bytes ht hi hz hsize hby hzs v n xs hs hown B A m c news hx hr h1 h63 hbytes hbase fun A' c' w' h2 h3 h4=>hK _ _ (h A' c' w' h2 h3 h4)
theorem step_append_any{ops:Array Oper}{o:Oper}{a:Act}{K:Act→World→Prop}{Q:Exit→Act→World→Prop}{E:Prop}(hgd:o.guard=none)(s x:Operand)(t:TypeId)
  (ho:o.op=.call { callee:=.builtin .append,args:=#[s,x],argTypes:=#[t,t] })
  (base:Nat) (e:TypeId) (i:TypeInfo) (z:Value) (bytes:Nat) (ht:P.underlying t=some (.slice e)) (hi:P.info? e=some i) (hz:i.zero=some z)
  (hsize:i.size=1) (hby:i.bytes=bytes) (hzs:z.cells.size=1)
  (v:Value) (n:Nat) (xs:List Value) (hs:a.eval s=v) (hown:w.ownsRow base e 1 v n xs)
  (B:Nat) (A:Option Addr) (m c:Nat) (news:List Value) (hx:a.eval x=.slice A m c) (hr:Reads w B A m c news) (h1:∀ u∈news,u.oneCell'=true)
  (h63:n+m≤maxLen) (hbytes:(n+m)*bytes≤140737488355328) (hbase:base≤w.heap.size)
  (h:∀ A' c' w',w'.ownsRow base e 1 (.slice A' (n+m) c') (n+m) (xs++news)→w.grownBy w' v.ownBlock→((Value.slice A' (n+m) c').ownBlock=v.ownBlock∨(Value.slice A' (n+m) c').ownBlock=some w.heap.size)→K (a.put o.dst (.slice A' (n+m) c')) w') :
  if Region.wanted o (yielded ops a.tmps)=true then Oper.wp P o a w K Q else E:=by
 have hw:Region.wanted o (yielded ops a.tmps)=true:=by simp[Region.wanted,hgd]
 rw[if_pos hw];exact kge7 w s x t ho base e i z bytes ht hi hz hsize hby hzs v n xs hs hown B A m c news hx hr h1 h63 hbytes hbase h
end
theorem kht7(l:List Nat):∀ u∈bcells l,u.oneCell'=true:=by
 intro u hu;obtain⟨x,_,rfl⟩:=List.mem_map.1 hu;rfl
end PB
end
section
open Go.RowKit
attribute [local go_sem ↓] Go.wp_at_zero Go.wp_at_succ
namespace PB
theorem kfc7(code index:Int)(w:World) :
  Calls Tryz.prog 112 #[.int .i64 code,.int .i64 index] w fun e w'=>e=.returned (.agg #[.int .i64 code,.int .i64 index])∧Below w.heap.size w w':=by
 go_enter Tryz.func112,Tryz.ntmps112
 go_wp2
 refine bodyPost_ret (v:=.agg #[.int .i64 code,.int .i64 index]) (by simp[results,Tryz.results112,go_sem]) rfl ⟨rfl,?_⟩;exact(Below.refl _ _).alloc (Nat.le_refl _) _
theorem kgq7(a:Nat)(ha:a<9223372036854775808):(BitVec.ofInt 64 (a:Int)).toNat=a:=by
 rw[BitVec.ofInt_natCast,BitVec.toNat_ofNat];exact Nat.mod_eq_of_lt (by omega)
theorem i64_or_nat(a b:Nat)(ha:a<9223372036854775808)(hb:b<9223372036854775808):bits .or .i64 (a:Int) (b:Int)=((a ||| b:Nat):Int):=by
 have hx:a ||| b<2 ^ 63:=Nat.or_lt_two_pow (by omega) (by omega);show IntKind.i64.wrap ((BitVec.ofInt 64 (a:Int) ||| BitVec.ofInt 64 (b:Int)).toNat:Int)=_;rw[BitVec.toNat_or,kgq7 a ha,kgq7 b hb,IntKind.wrap_i64];omega
theorem i64_and_nat(a b:Nat)(ha:a<9223372036854775808)(hb:b<9223372036854775808):bits .and .i64 (a:Int) (b:Int)=((a &&& b:Nat):Int):=by
 have hx:a &&& b<2 ^ 63:=Nat.and_lt_two_pow _ (by omega);show IntKind.i64.wrap ((BitVec.ofInt 64 (a:Int) &&& BitVec.ofInt 64 (b:Int)).toNat:Int)=_;rw[BitVec.toNat_and,kgq7 a ha,kgq7 b hb,IntKind.wrap_i64];omega
theorem join_bit(n b:Nat)(hn:n<1099511627776)(hb:b<2):bits .or .i64 ((n:Int)*2) (b:Int)=((2*n+b:Nat):Int):=by
 have:=i64_or_nat (n*2) b (by omega) (by omega);rw[nat_join 1 (n*2) b (by omega) (by omega)] at this;rw[show((n:Int)*2)=((n*2:Nat):Int) by omega,this];omega
theorem num_take_succ{l:List Nat}{f k:Nat}(h:f+k<l.length):num ((l.drop f).take (k+1))=2*num ((l.drop f).take k)+l.getD (f+k) 0:=by
 rw[List.take_succ_eq_append_getElem (by rw[List.length_drop];omega),num_snoc,List.getElem_drop,kbf7 h]
theorem number_list(A:Option Addr)(n c:Nat)(l:List Nat)(f m:Nat)(B:Nat)(w:World)(h:Reads w B A n c (bcells (pack l)))(h01:Is01 l)(hl:l.length≤131072)(hfm:f+m≤l.length)(hm:m≤33)(hB:B≤w.heap.size) :
  Calls Tryz.prog 157 #[.agg #[.slice A n c,.int .i64 l.length],.int .i64 f,.int .i64 m] w fun e w'=>e=.returned (.int .i64 (num ((l.drop f).take m):Nat))∧Below w.heap.size w w':=by
 have hlen:∀ k,num ((l.drop f).take k)<2 ^ 33∨33<k:=by
  intro k;rcases Nat.lt_or_ge 33 k with h|h
  ·exact .inr h
  ·left;have h1:=num_lt ((h01.drop f).take k);have h2:((l.drop f).take k).length≤33:=by rw[List.length_take];omega
   have h3:2 ^ ((l.drop f).take k).length≤2 ^ 33:=Nat.pow_le_pow_right (by decide) h2;omega
 go_enter Tryz.func157,Tryz.ntmps157
 go_wp2
 go_loopw [7,10] (fun t i wr=>∃ k:Nat,k≤m∧i=.int .i64 k∧t=.int .i64 (num ((l.drop f).take k):Nat)∧Blk wr w.heap.size 70 #[.slice A n c,.int .i64 l.length]∧Below w.heap.size w wr) (fun _ i _=>m-(intOf i).toNat)
 case atStart=>exact⟨0,Nat.zero_le _,rfl,rfl,Blk.new _ _ _,(Below.refl _ _).alloc (Nat.le_refl _) _⟩
 case round =>
  obtain⟨k,hk,rfl,rfl,hblk,hbel⟩:=hrel;have c0:=hblk.cell 0;have c1:=hblk.cell 1;simp at c0 c1;by_cases hlt:k<m
  ·have hb:=hlen k;have hN:num ((l.drop f).take k)<8589934592:=by omega
   have HS:=Lib.hid (num_take_succ (l:=l) (f:=f) (k:=k) (by omega));have H01:=Lib.hid h01;clear hb hlen h01
   go_wp2_with (go_at_call 113;refine(khs7 A n c l (f+k) B _ (h.on hB hbel) H01.out (by omega) (by have:=hbel.size;omega)).mono ?_;rintro e w1 ⟨rfl,hb1⟩)
   go_roundw
   case rel =>
    refine⟨k+1,by omega,by go_num,?_,hblk.on hb1,hbel.trans (hb1.mono hbel.size)⟩;have hbit:l.getD (f+k) 0<2:=H01.out _;have hj:=join_bit (num ((l.drop f).take k)) (l.getD (f+k) 0) (by omega) hbit;rw[List.getD_eq_getElem?_getD] at hj;rw[HS.out,List.getD_eq_getElem?_getD,hj]
   case measure=>simp[intOf];omega
  ·obtain rfl:k=m:=by omega
   go_wp2
   go_ret
   exact⟨rfl,hbel⟩
theorem clone_list(A:Option Addr)(n c:Nat)(l:List Nat)(B:Nat)(w:World)(h:Reads w B A n c (bcells (pack l)))(hl:l.length≤131072)(hB:B≤w.heap.size) :
  Calls Tryz.prog 161 #[.agg #[.slice A n c,.int .i64 l.length]] w fun e w'=>∃ A' n' c',e=.returned (.agg #[.slice A' n' c',.int .i64 l.length]) ∧
   w'.ownsRow w.heap.size 5 1 (.slice A' n' c') n' (bcells (pack l))∧Below w.heap.size w w':=by
 obtain⟨i0,hi,hz0,hz1,hz2⟩:=info_parts kca7;have hn:=h.len;rw[ka7,km7] at hn;have hn2:n≤20000:=by omega
 clear hn;have hO:∀ o1 o2,(((w.alloc o1).alloc o2).alloc (.cells #[] 5)).drew.ownsRow w.heap.size 5 1 (.slice (some ⟨w.heap.size+1+1,0,none⟩) 0 0) 0 []:=fun o1 o2=>by
  have:=World.ownsRow_lit (base:=w.heap.size) (e:=5) (size:=1) ((w.alloc o1).alloc o2) #[] 0 (by simp;omega) (by simp[maxLen]) rfl
  simpa using this.drew
 have hR:∀ o1 o2 o3,Reads (((w.alloc o1).alloc o2).alloc o3).drew B A n c (bcells (pack l)):=fun o1 o2 o3=>(((h.alloc hB _).alloc (by simp;omega) _).alloc (by simp;omega) _).drew;have hG:∀ o1 o2 w1,(((w.alloc (.cells o1 70)).alloc (.cells o2 70)).alloc (.cells #[] 5)).drew.grownBy w1 (some (w.heap.size+1+1))→Blk w1 w.heap.size 70 o1∧Blk w1 (w.heap.size+1) 70 o2∧Below w.heap.size w w1:=fun o1 o2 w1 hg=>by
  refine⟨Blk.grown (w:=(((w.alloc (.cells o1 70)).alloc (.cells o2 70)).alloc (.cells #[] 5)).drew) ((((Blk.new _ _ _).alloc _).alloc _).drew) hg (by simp;omega),
   Blk.grown (w:=(((w.alloc (.cells o1 70)).alloc (.cells o2 70)).alloc (.cells #[] 5)).drew) (by simpa using (((Blk.new (w.alloc (.cells o1 70)) 70 o2).alloc (.cells #[] 5)).drew)) hg (by simp),?_⟩
  exact(((((Below.refl _ w).alloc (Nat.le_refl _) _).alloc (by simp) _).alloc (by simp;omega) _).drew).grown hg (by simp;omega) (by intro k hk;simp at hk;omega)
 go_enter Tryz.func161,Tryz.ntmps161
 go_wp2
 go_region_held3 (fun w'=>w'.cell? ⟨w.heap.size,0,none⟩=some (.slice A n c)∧w'.cell? ⟨w.heap.size,1,none⟩=some (.int .i64 l.length)) (go_keep)
  ((refine step_append_any _ (by rfl) _ _ _ (by rfl) w.heap.size 5 i0 _ 1 Tryz.underlying22 hi hz0 hz1 hz2 (by rfl) (.slice (some ⟨w.heap.size+1+1,0,none⟩) 0 0) 0 [] (by rfl) (hO _ _) B A n c (bcells (pack l)) (by rfl) (hR _ _ _) (kht7 _) (by unfold maxLen;omega) (by omega) (by simp;omega) ?_;intro A' c' w1 hown1 hgrow1 hat1;obtain⟨q0,q1,q2⟩:=hG _ _ _ hgrow1;have d0:=q0.cell 0;have d1:=q0.cell 1;have d2:=q1.cell 0;have d3:=q1.cell 1;have d4:=q1.frozen 0;have d5:=q1.frozen 1;simp at d0 d1 d2 d3;have Q1:=Lib.hid q1;clear q0 q1))
 go_wp2
 have hBk:=(Q1.out.set_ 0 (.slice A' n c')).set_ 1 (.int .i64 l.length);have r0:=hBk.cell 0;have r1:=hBk.cell 1;simp at r0 r1;refine bodyPost_ret (v:=.agg #[.slice A' n c',.int .i64 l.length]) (by simp[results,Tryz.results161,go_sem,r0,r1]) rfl ⟨A',n,c',rfl,?_,(q2.setCell (by simp) _).setCell (by simp) _⟩;simp only[Nat.zero_add,List.nil_append] at hown1 hat1;have hne:(Value.slice A' n c').ownBlock≠some (w.heap.size+1):=by
  intro h1;rcases hat1 with h2|h2<;>rw[h1] at h2<;>simp[Value.ownBlock] at h2
 exact kk7 (kk7 hown1 hne _) hne _
end PB
end
section
open Go.RowKit
attribute [local go_sem ↓] Go.wp_at_zero Go.wp_at_succ
set_option maxRecDepth 100000
namespace PB
def digs(v:Nat):Nat→List Nat
 | 0=>[]
 | m+1=>digs (v / 2) m++[v % 2]
theorem kaj7(m:Nat):∀ v,(digs v m).length=m:=by
 induction m with
 | zero=>intro v;rfl
 | succ m ih=>intro v;simp[digs,ih]
theorem digs_01(m:Nat):∀ v,Is01 (digs v m):=by
 induction m with
 | zero=>intro v;exact Is01.nil
 | succ m ih=>intro v;exact(ih _).snoc (Nat.mod_lt _ (by decide))
theorem digs_step(v m k:Nat)(h:k<m):digs (v / 2 ^ (m-(k+1))) (k+1)=digs (v / 2 ^ (m-k)) k++[v / 2 ^ (m-k-1) % 2]:=by
 show digs (v / 2 ^ (m-(k+1)) / 2) k++[v / 2 ^ (m-(k+1)) % 2]=_;rw[Nat.div_div_eq_div_mul,←Nat.pow_succ,show(m-(k+1)).succ=m-k by omega,show m-(k+1)=m-k-1 by omega]
theorem shr_and_i64(v k:Nat)(hv:v<9223372036854775808):bits .and .i64 ((v:Int) / 2 ^ k) 1=((v / 2 ^ k % 2:Nat):Int):=by
 have e:((v:Int) / 2 ^ k)=((v / 2 ^ k:Nat):Int):=by simp
 have hx:v / 2 ^ k<9223372036854775808:=Nat.lt_of_le_of_lt (Nat.div_le_self _ _) hv;have:=i64_and_nat (v / 2 ^ k) 1 hx (by decide);rw[nat_mask1] at this;rw[e];exact this
theorem added_list(A:Option Addr)(n c:Nat)(l:List Nat)(v m:Nat)(base:Nat)(w:World)(h01:Is01 l)(hl:l.length+m≤200000)(hm:m≤62)(hv:v<9223372036854775808)
  (hown:w.ownsRow base 5 1 (.slice A n c) n (bcells (pack l))) (hbase:base≤w.heap.size) :
  Calls Tryz.prog 160 #[.agg #[.slice A n c,.int .i64 l.length],.int .i64 v,.int .i64 m] w fun e w'=>∃ A' n' c',e=.returned (.agg #[.slice A' n' c',.int .i64 (l++digs v m).length]) ∧
   w'.ownsRow base 5 1 (.slice A' n' c') n' (bcells (pack (l++digs v m)))∧Below base w w':=by
 go_enter Tryz.func160,Tryz.ntmps160
 go_wp2
 go_loopw [7] (fun i wr=>∃ k:Nat,k≤m∧i=.int .i64 ((m:Int)-k-1)∧∃ A' n' c',Blk wr w.heap.size 70 #[.slice A' n' c',.int .i64 (l++digs (v / 2 ^ (m-k)) k).length] ∧
   wr.ownsRow base 5 1 (.slice A' n' c') n' (bcells (pack (l++digs (v / 2 ^ (m-k)) k)))∧Blk wr (w.heap.size+1) 70 #[.slice none 0 0,.int .i64 0]∧Below base w wr) (fun i _=>(intOf i+1).toNat)
 case atStart =>
  refine⟨0,Nat.zero_le _,by go_num,A,n,c,?_,?_,?_,?_⟩
  ·simpa [digs] using (Blk.new w 70 #[.slice A n c,.int .i64 l.length]).alloc _
  ·simpa [digs] using (hown.alloc _).alloc _
  ·simpa using Blk.new (w.alloc _) 70 #[.slice none 0 0,.int .i64 0]
  ·exact((Below.refl _ _).alloc hbase _).alloc (by simp;omega) _
 case round =>
  obtain⟨k,hk,rfl,A',n',c',hb0,ho,hb1,hbel⟩:=hrel;obtain⟨L,hL⟩:∃ L,L=l++digs (v / 2 ^ (m-k)) k:=⟨_,rfl⟩
  rw[←hL] at hb0 ho;have h01L:Is01 L:=by rw[hL];exact h01.append (digs_01 _ _)
  have hLl:L.length=l.length+k:=by rw[hL,List.length_append,kaj7]
  have c0:=hb0.cell 0;have c1:=hb0.cell 1;simp at c0 c1;by_cases hlt:k<m
  ·have hbit:v / 2 ^ (m-k-1) % 2<2:=Nat.mod_lt _ (by decide);have HL:=Lib.hid hL;have HB:=Lib.hid hbit;have hLb:L.length<1000000:=by omega
   have HLl:=Lib.hid hLl;have HV:=Lib.hid (shr_and_i64 v (m-k-1) hv);have hge:decide ((0:Int)≤(m:Int)-k-1)=true:=by simp;omega
   have hge2:(0:Int)≤(m:Int)-k-1:=by omega
   have hmk:((m:Int)-k-1)≤61:=by omega
   have hsz:=hbel.size;clear hL hLl hbit hl
   go_wp2_with fail
   go_still_tail 5,(by kernel_rfl)
   change wpList _ _ _ _ _ wr.drew
   go_wp2_with (go_at_call 123;rw[HV.out];refine(put_any A' n' c' L _ base _ h01L HB.out hLb ho.drew (by simpa using Nat.le_trans hbase hsz)).mono ?_;rintro e w1 ⟨A2,n2,c2,rfl,ho2,hg2⟩;have q0:=hb0.drew.grown hg2 (kcj7 ho hb0 (by decide));have q1:=hb1.drew.grown hg2 (kcj7 ho hb1 (by decide));have d0:=q0.cell 0;have d1:=q0.cell 1;have d2:=q0.frozen 0;have d3:=q0.frozen 1;simp at d0 d1;have hbel2:=hbel.drew.grown hg2 (by simpa using Nat.le_trans hbase hsz) (fun g hg=>(ho.lt g hg).1);have HQ0:=Lib.hid q0;have HO2:=Lib.hid ho2;clear q0 ho2)
   go_roundw
   case rel =>
    have hq:=kcj7 HO2.out HQ0.out (by decide);have hstep:=digs_step v m k hlt;have e:L++[v / 2 ^ (m-k-1) % 2]=l++digs (v / 2 ^ (m-(k+1))) (k+1):=by rw[hstep,HL.out,List.append_assoc]
    refine⟨k+1,by omega,by go_num,A2,n2,c2,?_,?_,?_,?_⟩
    ·rw[←e]
     simpa using (HQ0.out.set_ 0 (.slice A2 n2 c2)).set_ 1 (.int .i64 ((L.length:Int)+1))
    ·rw[←e];exact kk7 (kk7 HO2.out (Ne.symm hq) _) (Ne.symm hq) _
    ·exact(q1.far (by simp) _).far (by simp) _
    ·exact(hbel2.setCell (by simpa using hbase) _).setCell (by simpa using hbase) _
   case measure=>simp[intOf];omega
  ·obtain rfl:k=m:=by omega
   have d0:=hb1.cell 0;have d1:=hb1.cell 1;have d2:=hb1.frozen 0;have d3:=hb1.frozen 1;simp at d0 d1;have HL:=Lib.hid hL;have hLb:L.length<1000000:=by omega
   clear hL hLl hl
   go_wp2
   have hBk:=(hb1.set_ 0 (.slice A' n' c')).set_ 1 (.int .i64 L.length);have r0:=hBk.cell 0;have r1:=hBk.cell 1;simp at r0 r1;have e:L=l++digs v k:=by rw[HL.out,Nat.sub_self,Nat.pow_zero,Nat.div_one]
   have hq:=kcj7 ho hb1 (by decide);refine bodyPost_ret (v:=.agg #[.slice A' n' c',.int .i64 L.length]) (by simp[results,Tryz.results160,go_sem,r0,r1]) rfl ⟨A',n',c',by rw[e],?_,(hbel.setCell (by simp;omega) _).setCell (by simp;omega) _⟩;rw[←e];exact kk7 (kk7 ho (Ne.symm hq) _) (Ne.symm hq) _
end PB
end
section
open Go.RowKit
namespace PB
def Two(w:World)(s:Nat)(t:TypeId)(v0 v1:Value):Prop:=Blk w s t #[v0,v1]
section
variable {w w':World}{s:Nat}{t:TypeId}{v0 v1:Value}
theorem Two.new(w:World)(t:TypeId)(v0 v1:Value):Two (w.alloc (.cells #[v0,v1] t)) w.heap.size t v0 v1:=Blk.new w t _
theorem Two.alloc(h:Two w s t v0 v1)(o:Obj):Two (w.alloc o) s t v0 v1:=Blk.alloc h o
theorem Two.drew(h:Two w s t v0 v1):Two w.drew s t v0 v1:=h
theorem Two.on(h:Two w s t v0 v1)(hb:Below w.heap.size w w'):Two w' s t v0 v1:=Blk.on h hb
theorem Two.below{B:Nat}(h:Two w s t v0 v1)(hb:Below B w w')(hs:s<B):Two w' s t v0 v1:=Blk.below h hb hs
theorem Two.grown{row:Option Nat}(h:Two w s t v0 v1)(hb:w.grownBy w' row)(hg:some s≠row):Two w' s t v0 v1:=Blk.grown h hb hg
theorem Two.far(h:Two w s t v0 v1){p:Addr}(hp:s≠p.block)(u:Value):Two (w.setCell p u) s t v0 v1:=Blk.far h hp u
theorem Two.set0(h:Two w s t v0 v1)(u:Value):Two (w.setCell ⟨s,0,none⟩ u) s t u v1:=by
 have:=Blk.set_ h 0 u;simp at this;exact this
theorem Two.set1(h:Two w s t v0 v1)(u:Value):Two (w.setCell ⟨s,1,none⟩ u) s t v0 u:=by
 have:=Blk.set_ h 1 u;simp at this;exact this
theorem Two.c0(h:Two w s t v0 v1):w.cell? ⟨s,0,none⟩=some v0:=by simpa using Blk.cell h 0
theorem Two.c1(h:Two w s t v0 v1):w.cell? ⟨s,1,none⟩=some v1:=by simpa using Blk.cell h 1
theorem Two.f0(h:Two w s t v0 v1):w.frozen? ⟨s,0,none⟩=false:=Blk.frozen h 0
theorem Two.f1(h:Two w s t v0 v1):w.frozen? ⟨s,1,none⟩=false:=Blk.frozen h 1
theorem Two.lt(h:Two w s t v0 v1):s<w.heap.size:=Blk.lt h
theorem Two.facts(h:Two w s t v0 v1):w.cell? ⟨s,0,none⟩=some v0∧w.cell? ⟨s,1,none⟩=some v1∧w.frozen? ⟨s,0,none⟩=false∧w.frozen? ⟨s,1,none⟩=false∧s<w.heap.size :=
 ⟨h.c0,h.c1,h.f0,h.f1,h.lt⟩
end
theorem kag7{w:World}{base:Nat}{e t:TypeId}{size n s:Nat}{v v0 v1:Value}{xs:List Value}(h:w.ownsRow base e size v n xs)(hg:Two w s t v0 v1)(hne:e≠t):v.ownBlock≠some s :=
 fun e=>kcj7 h hg hne e.symm
def Box3(w:World)(s:Nat)(v0 v1:Value):Prop:=Two w s 70 v0 v1∧Two w (s+1) 70 (.slice none 0 0) (.int .i64 0)∧Two w (s+2) 24 (.int .i64 0) (.int .i64 0)
theorem Box3.start(w:World)(v0 v1:Value):Box3 (((w.alloc (.cells #[v0,v1] 70)).alloc (.cells #[.slice none 0 0,.int .i64 0] 70)).alloc (.cells #[.int .i64 0,.int .i64 0] 24)) w.heap.size v0 v1:=by
 refine⟨((Two.new _ _ _ _).alloc _).alloc _,?_,?_⟩
 ·simpa using (Two.new (w.alloc (.cells #[v0,v1] 70)) 70 (.slice none 0 0) (.int .i64 0)).alloc (.cells #[.int .i64 0,.int .i64 0] 24)
 ·simpa using Two.new ((w.alloc (.cells #[v0,v1] 70)).alloc (.cells #[.slice none 0 0,.int .i64 0] 70)) 24 (.int .i64 0) (.int .i64 0)
theorem Box3.on{w w':World}{s:Nat}{v0 v1:Value}(h:Box3 w s v0 v1)(hb:Below w.heap.size w w'):Box3 w' s v0 v1:=⟨h.1.on hb,h.2.1.on hb,h.2.2.on hb⟩
theorem Box3.below{w w':World}{s B:Nat}{v0 v1:Value}(h:Box3 w s v0 v1)(hb:Below B w w')(hB:s+2<B):Box3 w' s v0 v1:=⟨h.1.below hb (by omega),h.2.1.below hb (by omega),h.2.2.below hb hB⟩
theorem Box3.facts{w:World}{s:Nat}{v0 v1:Value}(h:Box3 w s v0 v1) :
  w.cell? ⟨s,0,none⟩=some v0∧w.cell? ⟨s,1,none⟩=some v1∧w.cell? ⟨s+1,0,none⟩=some (.slice none 0 0)∧w.cell? ⟨s+1,1,none⟩=some (.int .i64 0) ∧
  w.cell? ⟨s+2,0,none⟩=some (.int .i64 0)∧w.cell? ⟨s+2,1,none⟩=some (.int .i64 0)∧w.frozen? ⟨s+1,0,none⟩=false∧w.frozen? ⟨s+1,1,none⟩=false ∧
  w.frozen? ⟨s+2,0,none⟩=false∧w.frozen? ⟨s+2,1,none⟩=false∧s+2<w.heap.size :=
 ⟨h.1.c0,h.1.c1,h.2.1.c0,h.2.1.c1,h.2.2.c0,h.2.2.c1,h.2.1.f0,h.2.1.f1,h.2.2.f0,h.2.2.f1,h.2.2.lt⟩
theorem below_box3(w:World)(a b c:Obj):Below w.heap.size w (((w.alloc a).alloc b).alloc c) :=
 (((Below.refl _ _).alloc (Nat.le_refl _) _).alloc (by simp) _).alloc (by simp;omega) _
theorem Box3.ends{w:World}{s:Nat}{v0 v1:Value}(h:Box3 w s v0 v1)(r0 r1 f0 f1:Value) :
  let w4:=(((w.setCell ⟨s+1,0,none⟩ r0).setCell ⟨s+1,1,none⟩ r1).setCell ⟨s+2,0,none⟩ f0).setCell ⟨s+2,1,none⟩ f1
  w4.cell? ⟨s+1,0,none⟩=some r0∧w4.cell? ⟨s+1,1,none⟩=some r1∧w4.cell? ⟨s+2,0,none⟩=some f0∧w4.cell? ⟨s+2,1,none⟩=some f1:=by
 intro w4;have a:=(((h.2.1.set0 r0).set1 r1).far (p:=⟨s+2,0,none⟩) (by simp) f0).far (p:=⟨s+2,1,none⟩) (by simp) f1;have b:=(((h.2.2.far (p:=⟨s+1,0,none⟩) (by simp) r0).far (p:=⟨s+1,1,none⟩) (by simp) r1).set0 f0).set1 f1;exact⟨a.c0,a.c1,b.c0,b.c1⟩
theorem below_ends{w w1:World}(hb:Below w.heap.size w w1)(r0 r1 f0 f1:Value) :
  Below w.heap.size w ((((w1.setCell ⟨w.heap.size+1,0,none⟩ r0).setCell ⟨w.heap.size+1,1,none⟩ r1).setCell ⟨w.heap.size+2,0,none⟩ f0).setCell ⟨w.heap.size+2,1,none⟩ f1) :=
 (((hb.setCell (by simp) _).setCell (by simp) _).setCell (by simp) _).setCell (by simp) _
theorem own_ends{w:World}{s:Nat}{v0 v1:Value}(h:Box3 w s v0 v1){base n:Nat}{v:Value}{xs:List Value}(ho:w.ownsRow base 5 1 v n xs)(r0 r1 f0 f1:Value) :
  ((((w.setCell ⟨s+1,0,none⟩ r0).setCell ⟨s+1,1,none⟩ r1).setCell ⟨s+2,0,none⟩ f0).setCell ⟨s+2,1,none⟩ f1).ownsRow base 5 1 v n xs:=by
 have n1:=kag7 ho h.2.1 (by decide);have n2:=kag7 ho h.2.2 (by decide);exact kk7 (kk7 (kk7 (kk7 ho n1 _) n1 _) n2 _) n2 _
def Box2(w:World)(s:Nat)(v0 v1:Value):Prop:=Two w s 70 v0 v1∧Two w (s+1) 24 (.int .i64 0) (.int .i64 0)
theorem Box2.start(w:World)(v0 v1:Value):Box2 ((w.alloc (.cells #[v0,v1] 70)).alloc (.cells #[.int .i64 0,.int .i64 0] 24)) w.heap.size v0 v1:=by
 refine⟨(Two.new _ _ _ _).alloc _,?_⟩
 simpa using Two.new (w.alloc (.cells #[v0,v1] 70)) 24 (.int .i64 0) (.int .i64 0)
theorem Box2.on{w w':World}{s:Nat}{v0 v1:Value}(h:Box2 w s v0 v1)(hb:Below w.heap.size w w'):Box2 w' s v0 v1:=⟨h.1.on hb,h.2.on hb⟩
theorem Box2.facts{w:World}{s:Nat}{v0 v1:Value}(h:Box2 w s v0 v1) :
  w.cell? ⟨s,0,none⟩=some v0∧w.cell? ⟨s,1,none⟩=some v1∧w.cell? ⟨s+1,0,none⟩=some (.int .i64 0)∧w.cell? ⟨s+1,1,none⟩=some (.int .i64 0) ∧
  w.frozen? ⟨s+1,0,none⟩=false∧w.frozen? ⟨s+1,1,none⟩=false∧s+1<w.heap.size :=
 ⟨h.1.c0,h.1.c1,h.2.c0,h.2.c1,h.2.f0,h.2.f1,h.2.lt⟩
theorem kbr7(w:World)(a b:Obj):Below w.heap.size w ((w.alloc a).alloc b):=((Below.refl _ _).alloc (Nat.le_refl _) _).alloc (by simp) _
theorem Box2.ends{w:World}{s:Nat}{v0 v1:Value}(h:Box2 w s v0 v1)(f0 f1:Value) :
  let w4:=(w.setCell ⟨s+1,0,none⟩ f0).setCell ⟨s+1,1,none⟩ f1
  w4.cell? ⟨s+1,0,none⟩=some f0∧w4.cell? ⟨s+1,1,none⟩=some f1:=by
 intro w4;have b:=(h.2.set0 f0).set1 f1;exact⟨b.c0,b.c1⟩
theorem kaw7{w w1:World}(hb:Below w.heap.size w w1)(f0 f1:Value) :
 Below w.heap.size w ((w1.setCell ⟨w.heap.size+1,0,none⟩ f0).setCell ⟨w.heap.size+1,1,none⟩ f1):=(hb.setCell (by simp) _).setCell (by simp) _
def noBits:Value:=.agg #[.slice none 0 0,.int .i64 0]
def flt(code index:Int):Value:=.agg #[.int .i64 code,.int .i64 index]
end PB
end
section
open Go.RowKit
attribute [local go_sem ↓] Go.wp_at_zero Go.wp_at_succ
namespace PB
theorem put_it{A:Option Addr}{n c:Nat}{L:List Nat}{k b:Nat}{base:Nat}{w:World}(hk:L.length=k)(h01:Is01 L)(hbit:b<2)(hl:k<1000000)
  (hown:w.ownsRow base 5 1 (.slice A n c) n (bcells (pack L))) (hbase:base≤w.heap.size) :
  Calls Tryz.prog 123 #[.agg #[.slice A n c,.int .i64 k],.int .i64 b] w fun e w'=>∃ A' n' c',e=.returned (.agg #[.slice A' n' c',.int .i64 ((k:Int)+1)]) ∧
   w'.ownsRow base 5 1 (.slice A' n' c') n' (bcells (pack (L++[b])))∧w.grownBy w' (Value.slice A n c).ownBlock:=by
 subst hk;refine(put_any A n c L _ base w h01 hbit hl hown hbase).mono ?_;rintro e w' ⟨A',n',c',rfl,h1,h2⟩;exact⟨A',n',c',by simp,h1,h2⟩
theorem at_bit(A:Option Addr)(n c:Nat)(l:List Nat)(i b:Nat)(ii:Int)(hii:ii=(i:Nat))(B:Nat)(w:World)(h:Reads w B A n c (bcells (pack l)))(h01:Is01 l)(hi:i<l.length)(hb:b=l.getD i 0)(hB:B≤w.heap.size) :
  Calls Tryz.prog 113 #[.agg #[.slice A n c,.int .i64 l.length],.int .i64 ii] w fun e w'=>e=.returned (.int .i64 b)∧Below w.heap.size w w':=by
 subst hb hii;exact khs7 A n c l i B w h h01 hi hB
def tbits(s:ByteArray)(k:Nat):List Nat:=(s.data.toList.take k).map fun c=>c.toNat-48
def TOk(s:ByteArray)(k:Nat):Prop:=∀ i (h:i<s.size),i<k→s[i].toNat=48∨s[i].toNat=49
def Res2(w:World)(s:Nat):Prop:=Two w s 70 (.slice none 0 0) (.int .i64 0)∧Two w (s+1) 24 (.int .i64 0) (.int .i64 0)
theorem khu7(s:ByteArray)(k:Nat)(h:k≤s.size):(tbits s k).length=k:=by
 have:s.data.toList.length=s.size:=by simp
 simp[tbits];omega
theorem tbits_succ(s:ByteArray)(k:Nat)(h:k<s.size):tbits s (k+1)=tbits s k++[s[k].toNat-48]:=by
 unfold tbits;rw[List.take_succ_eq_append_getElem (by simpa using h),List.map_append];rfl
theorem tbits_01(s:ByteArray)(k:Nat)(h:TOk s k)(hk:k≤s.size):Is01 (tbits s k):=by
 refine Is01.of_mem fun x hx=>?_;obtain⟨c,hc,rfl⟩:=List.mem_map.1 hx;obtain⟨i,hi,rfl⟩:=List.mem_iff_getElem.1 hc;rw[List.getElem_take];have hlen:s.data.toList.length=s.size:=by simp
 have hi':i<k∧i<s.size:=by rw[List.length_take] at hi;omega
 have:=h i hi'.2 hi'.1;have e:(s.data.toList[i]'(by omega)).toNat=(s[i]'hi'.2).toNat:=rfl;rw[e];omega
theorem Res2.start(w:World):Res2 ((w.alloc (.cells #[.slice none 0 0,.int .i64 0] 70)).alloc (.cells #[.int .i64 0,.int .i64 0] 24)) w.heap.size:=by
 refine⟨(Two.new _ _ _ _).alloc _,?_⟩
 simpa using Two.new (w.alloc (.cells #[.slice none 0 0,.int .i64 0] 70)) 24 (.int .i64 0) (.int .i64 0)
theorem Res2.on{w w':World}{s:Nat}(h:Res2 w s)(hb:Below w.heap.size w w'):Res2 w' s:=⟨h.1.on hb,h.2.on hb⟩
theorem Res2.alloc{w:World}{s:Nat}(h:Res2 w s)(o:Obj):Res2 (w.alloc o) s:=⟨h.1.alloc o,h.2.alloc o⟩
theorem Res2.grown{w w':World}{s:Nat}{row:Option Nat}(h:Res2 w s)(hb:w.grownBy w' row)(h0:row≠some s)(h1:row≠some (s+1)):Res2 w' s:=⟨h.1.grown hb h0.symm,h.2.grown hb h1.symm⟩
theorem Res2.far{w:World}{s:Nat}(h:Res2 w s){p:Addr}(hp:s+1<p.block)(u:Value):Res2 (w.setCell p u) s:=⟨h.1.far (by omega) u,h.2.far (by omega) u⟩
theorem Res2.facts{w:World}{s:Nat}(h:Res2 w s) :
  w.cell? ⟨s,0,none⟩=some (.slice none 0 0)∧w.cell? ⟨s,1,none⟩=some (.int .i64 0)∧w.cell? ⟨s+1,0,none⟩=some (.int .i64 0)∧w.cell? ⟨s+1,1,none⟩=some (.int .i64 0) ∧
  w.frozen? ⟨s,0,none⟩=false∧w.frozen? ⟨s,1,none⟩=false∧w.frozen? ⟨s+1,0,none⟩=false∧w.frozen? ⟨s+1,1,none⟩=false∧s+1<w.heap.size :=
 ⟨h.1.c0,h.1.c1,h.2.c0,h.2.c1,h.1.f0,h.1.f1,h.2.f0,h.2.f1,h.2.lt⟩
theorem Res2.ends{w:World}{s:Nat}(h:Res2 w s)(r0 r1 f0 f1:Value) :
  let w4:=(((w.setCell ⟨s,0,none⟩ r0).setCell ⟨s,1,none⟩ r1).setCell ⟨s+1,0,none⟩ f0).setCell ⟨s+1,1,none⟩ f1
  w4.cell? ⟨s,0,none⟩=some r0∧w4.cell? ⟨s,1,none⟩=some r1∧w4.cell? ⟨s+1,0,none⟩=some f0∧w4.cell? ⟨s+1,1,none⟩=some f1:=by
 intro w4;have a:=(((h.1.set0 r0).set1 r1).far (p:=⟨s+1,0,none⟩) (by simp) f0).far (p:=⟨s+1,1,none⟩) (by simp) f1;have b:=(((h.2.far (p:=⟨s,0,none⟩) (by simp) r0).far (p:=⟨s,1,none⟩) (by simp) r1).set0 f0).set1 f1;exact⟨a.c0,a.c1,b.c0,b.c1⟩
theorem khv7{w w1:World}(hb:Below w.heap.size w w1)(r0 r1 f0 f1:Value) :
  Below w.heap.size w ((((w1.setCell ⟨w.heap.size,0,none⟩ r0).setCell ⟨w.heap.size,1,none⟩ r1).setCell ⟨w.heap.size+1,0,none⟩ f0).setCell ⟨w.heap.size+1,1,none⟩ f1) :=
 (((hb.setCell (by simp) _).setCell (by simp) _).setCell (by simp) _).setCell (by simp) _
theorem own_res2{w:World}{s:Nat}(h:Res2 w s){base n:Nat}{v:Value}{xs:List Value}(ho:w.ownsRow base 5 1 v n xs)(r0 r1 f0 f1:Value) :
  ((((w.setCell ⟨s,0,none⟩ r0).setCell ⟨s,1,none⟩ r1).setCell ⟨s+1,0,none⟩ f0).setCell ⟨s+1,1,none⟩ f1).ownsRow base 5 1 v n xs:=by
 have n1:=kag7 ho h.1 (by decide);have n2:=kag7 ho h.2 (by decide);exact kk7 (kk7 (kk7 (kk7 ho n1 _) n1 _) n2 _) n2 _
theorem put_int{A:Option Addr}{n c:Nat}{L:List Nat}{k b:Nat}{bi:Int}(hbi:bi=(b:Nat)){base:Nat}{w:World}(hk:L.length=k)(h01:Is01 L)(hbit:b<2)(hl:k<1000000)
  (hown:w.ownsRow base 5 1 (.slice A n c) n (bcells (pack L))) (hbase:base≤w.heap.size) :
  Calls Tryz.prog 123 #[.agg #[.slice A n c,.int .i64 k],.int .i64 bi] w fun e w'=>∃ A' n' c',e=.returned (.agg #[.slice A' n' c',.int .i64 ((k:Int)+1)]) ∧
   w'.ownsRow base 5 1 (.slice A' n' c') n' (bcells (pack (L++[b])))∧w.grownBy w' (Value.slice A n c).ownBlock:=by
 subst hbi;exact put_it hk h01 hbit hl hown hbase
theorem make_upto(s:ByteArray)(q:Nat)(w:World)(hs:s.size≤131072)(hq:TOk s q)(hqs:q≤s.size)(hbad:∀ h:q<s.size,s[q].toNat≠48∧s[q].toNat≠49) :
  Calls Tryz.prog 106 #[.string s] w fun e w'=>(q<s.size∧e=.returned (.tuple #[noBits,flt 6 q])∧Below w.heap.size w w') ∨
   (q=s.size∧∃ A' n' c',e=.returned (.tuple #[.agg #[.slice A' n' c',.int .i64 (tbits s q).length],flt 0 0])∧w'.ownsRow w.heap.size 5 1 (.slice A' n' c') n' (bcells (pack (tbits s q)))∧Below w.heap.size w w'):=by
 try unfold noBits
 try unfold flt
 have X0:=Res2.start w;have y0:=kbr7 w (.cells #[.slice none 0 0,.int .i64 0] 70) (.cells #[.int .i64 0,.int .i64 0] 24);have HQ:=Lib.hid hq;have HBAD:=Lib.hid hbad;clear hq hbad;obtain⟨Post,hPost⟩:∃ Post:Ending→World→Prop,Post=fun e w'=>(q<s.size∧e=.returned (.tuple #[.agg #[.slice none 0 0,.int .i64 0],.agg #[.int .i64 6,.int .i64 q]])∧Below w.heap.size w w') ∨
   (q=s.size∧∃ A' n' c',e=.returned (.tuple #[.agg #[.slice A' n' c',.int .i64 (tbits s q).length],.agg #[.int .i64 0,.int .i64 0]])∧w'.ownsRow w.heap.size 5 1 (.slice A' n' c') n' (bcells (pack (tbits s q)))∧Below w.heap.size w w'):=⟨_,rfl⟩
 rw[←hPost];have HP:=Lib.hid hPost;clear hPost
 go_enter Tryz.func106,Tryz.ntmps106
 go_wp2_with fail
 go_loopw [13] (fun i wr=>∃ k:Nat,k≤q∧i=.int .i64 k∧Res2 wr w.heap.size∧Below w.heap.size w wr∧∃ A' n' c',Two wr (w.heap.size+2) 70 (.slice A' n' c') (.int .i64 k) ∧
   wr.ownsRow w.heap.size 5 1 (.slice A' n' c') n' (bcells (pack (tbits s k)))) (fun i _=>s.size-(intOf i).toNat)
 case atStart =>
  refine⟨0,by omega,rfl,X0.alloc _,y0.alloc (by simp;omega) _,none,0,0,?_,?_⟩
  ·simpa using Two.new ((w.alloc (.cells #[.slice none 0 0,.int .i64 0] 70)).alloc (.cells #[.int .i64 0,.int .i64 0] 24)) 70 (.slice none 0 0) (.int .i64 0)
  ·simpa [tbits,pack_nil,bcells] using World.ownsRow_nil _ _ _ _
 case round =>
  obtain⟨k,hk,rfl,XR,yr,A',n',c',XO,ho⟩:=hrel;obtain⟨m0,m1,m2,m3,m4,m5,m6,m7,m8⟩:=XR.facts;obtain⟨o0,o1,o2,o3,o4⟩:=XO.facts;clear X0 y0;by_cases hlt:k<q
  ·have hlen:k<s.size:=by omega
   have hL:=khu7 s k (by omega);have HL:=Lib.hid hL;have HS:=Lib.hid (tbits_succ s k hlen);have H01x:=tbits_01 s k (fun i h1 h2=>HQ.out i h1 (by omega)) (by omega);have hkb:k<1000000:=by omega
   have hod:wr.drew.ownsRow w.heap.size 5 1 (.slice A' n' c') n' (bcells (pack (tbits s k))):=ho.drew;have hwd:w.heap.size≤wr.drew.heap.size:=yr.size;clear hL;rcases HQ.out k hlen hlt with hc|hc
   all_goals
    rw[hc] at HS
    go_wp2_with fail
    go_still_tail 6,(by kernel_rfl)
    change wpList _ _ _ _ _ wr.drew
    go_wp2_with (go_at_call 123;refine(put_int (L:=tbits s k) (by rfl) HL.out H01x (by decide) hkb hod hwd).mono ?_;rintro e w4 ⟨A4,n4,c4,rfl,ho4,hg4⟩;have X4:=Res2.grown (w:=wr.drew) XR hg4 (kag7 ho XR.1 (by decide)) (kag7 ho XR.2 (by decide));have O4:=Two.grown (w:=wr.drew) XO hg4 (kag7 ho XO (by decide)).symm;obtain⟨t0,t1,t2,t3,t4⟩:=O4.facts)
    go_roundw
    case rel =>
     have y4:Below w.heap.size w w4:=yr.drew.grown hg4 hwd (fun g hg=>(ho.lt g hg).1);have hqq:=kag7 ho4 O4 (by decide);refine⟨k+1,by omega,by go_num,(X4.far (by simp) _).far (by simp) _,(y4.setCell (by simp;omega) _).setCell (by simp;omega) _,A4,n4,c4,(O4.set0 _).set1 _,?_⟩;rw[HS.out];exact kk7 (kk7 ho4 hqq _) hqq _
    case measure=>simp[intOf];omega
  ·obtain rfl:k=q:=by omega
   by_cases hend:k<s.size
   ·have hb:=HBAD.out hend;have hc1:((s[k].toNat:Int) != 48)=true:=by rw[bne_iff_ne];omega
    have hc2:((s[k].toNat:Int) != 49)=true:=by rw[bne_iff_ne];omega
    clear hb
    go_wp2_with (go_at_call 112;refine(kfc7 _ _ _).mono ?_;rintro e w2 ⟨rfl,hb2⟩;have X2:=Res2.on XR hb2;have y2:=yr.trans (hb2.mono yr.size);obtain⟨e0,e1,e2,e3,e4,e5,e6,e7,e8⟩:=X2.facts)
    obtain⟨r0,r1,r2,r3⟩:=X2.ends (.slice none 0 0) (.int .i64 0) (.int .i64 6) (.int .i64 k);refine bodyPost_ret (v:=.tuple #[.agg #[.slice none 0 0,.int .i64 0],.agg #[.int .i64 6,.int .i64 k]]) (by simp[results,Tryz.results106,go_sem,r0,r1,r2,r3]) rfl ?_;rw[HP.out];exact .inl ⟨hend,rfl,khv7 y2 _ _ _ _⟩
   ·have hL:=khu7 s k (by omega);have HL:=Lib.hid hL;clear hL
    go_wp2_with fail
    obtain⟨r0,r1,r2,r3⟩:=XR.ends (.slice A' n' c') (.int .i64 k) (.int .i64 0) (.int .i64 0);refine bodyPost_ret (v:=.tuple #[.agg #[.slice A' n' c',.int .i64 k],.agg #[.int .i64 0,.int .i64 0]]) (by simp[results,Tryz.results106,go_sem,r0,r1,r2,r3]) rfl ?_;rw[HP.out];refine .inr ⟨by omega,A',n',c',?_,own_res2 XR ho _ _ _ _,khv7 yr _ _ _ _⟩;rw[HL.out]
end PB
end
section
open Go.RowKit
namespace PB
def bstr(d:List Nat):ByteArray:=⟨(d.map UInt8.ofNat).toArray⟩
theorem foldl_push(l:List Nat):∀ s:ByteArray,(l.map fun x:Nat=>(x:Int)).foldl (fun r n=>r.push (UInt8.ofNat n.toNat)) s=⟨(s.data.toList++l.map UInt8.ofNat).toArray⟩:=by
 induction l with
 | nil=>intro s;simp
 | cons a l ih =>
  intro s;rw[List.map_cons,List.foldl_cons,ih];simp[ByteArray.push]
theorem kdk7{P:Program}{w:World}{B n c:Nat}{A:Option Addr}{d:List Nat}(src dst e:TypeId)(hs:P.underlying src=some (.slice e))(he:P.underlying e=some (.int .u8))(hd:P.underlying dst=some .string)
  (h:Reads w B A n c (bcells d)):(convert src dst (.slice A n c)).run P w=.ok (.string (bstr d)) w:=by
 rw[run_convert_bytes_string w src dst e A n c hs he hd];have hl:=h.len;rw[ka7] at hl;rcases A with _|ad
 ·have hn:n=0:=by
   rcases Nat.eq_zero_or_pos n with h0|h0
   ·exact h0
   ·obtain⟨b,off,h,_⟩:=h.2.2.2 h0;cases h
  subst hn;obtain rfl:d=[]:=List.eq_nil_of_length_eq_zero hl;simp[Conv.bytesToString,bstr];rfl
 ·have hcells:∀ j u,(bcells d)[j]?=some u→w.cell? (ad.add j)=some u:=by
   intro j u hu;rcases Nat.eq_zero_or_pos n with h0|h0
   ·subst h0;obtain rfl:d=[]:=List.eq_nil_of_length_eq_zero hl;simp[bcells] at hu
   ·obtain⟨b,off,h,_,hc⟩:=h.2.2.2 h0;injection h with h;subst h;have:=hc j u hu;have e:(⟨b,off,none⟩:Addr).add j=⟨b,off+j,none⟩:=by
     unfold Addr.add;by_cases hj:j=0<;>simp[hj]
    rw[e];exact this
  have hr:=run_loadCells_list (P:=P) (w:=w) ad (bcells d) hcells;rw[ka7,hl] at hr;have hb:bcells d=(d.map fun x:Nat=>(x:Int)).map (Value.int .u8):=by simp[bcells]
  rw[hb] at hr;rw[run_bytesToString w ad n c _ hr,foldl_push];simp[bstr]
theorem bstr_toList(d:List Nat):(bstr d).toList=d.map UInt8.ofNat:=by simp[bstr]
theorem kgf7:∀ (a b:List Nat),(∀ k,a.getD k 0<256)→(∀ k,b.getD k 0<256)→a.map UInt8.ofNat=b.map UInt8.ofNat→a=b
 | [],[],_,_,_=>rfl
 | [],_::_,_,_,h=>by simp at h
 | _::_,[],_,_,h=>by simp at h
 | x::a,y::b,ha,hb,h=>by
  simp only[List.map_cons,List.cons.injEq] at h;have hx:=ha 0;have hy:=hb 0;simp at hx hy;have e:x=y:=by
   have:=congrArg UInt8.toNat h.1
   simpa [Nat.mod_eq_of_lt hx,Nat.mod_eq_of_lt hy] using this
  rw[e,kgf7 a b (fun k=>by simpa using ha (k+1)) (fun k=>by simpa using hb (k+1)) h.2]
end PB
end
section
open Go.RowKit
attribute [local go_sem ↓] Go.wp_at_zero Go.wp_at_succ
namespace PB
def txt(l:List Nat)(k:Nat):List Nat:=(l.take k).map (48+·)++List.replicate (l.length-k) 0
theorem txt_length(l:List Nat)(k:Nat)(h:k≤l.length):(txt l k).length=l.length:=by simp[txt];omega
theorem txt_set(l:List Nat)(k:Nat)(h:k<l.length):txt l (k+1)=(txt l k).set k (48+l.getD k 0):=by
 have e:((l.take k).map (48+·)).length=k:=by simp;omega
 have hrep:List.replicate (l.length-k) 0=0::List.replicate (l.length-(k+1)) 0:=by
  rw[show l.length-k=l.length-(k+1)+1 by omega];rfl
 unfold txt;rw[List.take_succ_eq_append_getElem h,List.map_append,hrep,List.set_append_right _ _ (by omega),e,Nat.sub_self,List.append_assoc,kbf7 h];rfl
theorem txt_cell(l:List Nat)(k:Nat)(h:k<l.length):(bcells (txt l k))[k]?=some (.int .u8 0):=by
 have e:((l.take k).map (48+·)).length=k:=by simp;omega
 rw[kck7 _ _ (by rw[txt_length l k (by omega)];exact h)];unfold txt;rw[kai7 (by omega),e,Nat.sub_self,show l.length-k=l.length-(k+1)+1 by omega];rfl
theorem text_ok(A:Option Addr)(n c:Nat)(l:List Nat)(B:Nat)(w:World)(h:Reads w B A n c (bcells (pack l)))(hB:B≤w.heap.size)(h01:Is01 l)(hl:l.length≤131072) :
  Calls Tryz.prog 100 #[.agg #[.slice A n c,.int .i64 l.length]] w fun e w'=>e=.returned (.tuple #[.string (bstr (l.map (48+·))),flt 0 0])∧Below w.heap.size w w':=by
 try unfold noBits
 try unfold flt
 have X0:=Box2.start w (.slice A n c) (.int .i64 l.length);have hb0:=kbr7 w (.cells #[.slice A n c,.int .i64 l.length] 70) (.cells #[.int .i64 0,.int .i64 0] 24);have hR:=h.below (hb0.mono hB);have H01:=Lib.hid h01;clear h01
 go_enter Tryz.func100,Tryz.ntmps100
 obtain⟨i0,hi,hz0,hz1,hz2⟩:=info_parts kca7
 go_wp2_with (first
  | (go_at_call 108;refine(kau7 A n c l B _ hR (by simp;omega) H01.out hl).mono ?_;rintro e w1 ⟨rfl,hb1⟩;have X1:=X0.on hb1;have y1:=hb0.trans (hb1.mono (by simp;omega));obtain⟨d0,d1,d2,d3,d4,d5,d6⟩:=X1.facts)
  | (with_reducible refine wpList_make_full _ rfl _ _ 22 rfl w1.heap.size 5 i0 _ 1 Tryz.underlying22 hi hz0 hz1 _ _ _ _ l.length rfl rfl rfl rfl ?b2 ?b3 ?b4 ?_))
 case b2=>rw[hz2];omega
 case b3=>unfold maxLen;omega
 case b4=>exact Nat.le_refl _
 intro w2 hown2 hgr2;have hinit:(madeCells #[Value.int .u8 0] l.length).toList=bcells (txt l 0):=by
  rw[toList_madeCells_one];simp[txt,bcells]
 have hown3:w2.ownsRow w1.heap.size 5 1 (.slice (some ⟨w1.heap.size,0,none⟩) l.length l.length) l.length (bcells (txt l 0)):=by
  rw[←hinit]
  first|exact hown2|simpa using hown2
 clear hown2;have hbw:Below w1.heap.size w1 w2:=(Below.refl _ _).grown hgr2 (Nat.le_refl _) (by simp);have X2:=X1.on hbw;have y2:=y1.trans (hbw.mono y1.size);have y1s:=y1.size;clear d0 d1 d2 d3 d4 d5 hinit hgr2
 go_wp2_with fail
 go_loopw [15] (fun i wr=>∃ k:Nat,k≤l.length∧i=.int .i64 k∧Box2 wr w.heap.size (.slice A n c) (.int .i64 l.length)∧Below w.heap.size w wr ∧
   wr.ownsRow w1.heap.size 5 1 (.slice (some ⟨w1.heap.size,0,none⟩) l.length l.length) l.length (bcells (txt l k))) (fun i _=>l.length-(intOf i).toNat)
 case atStart=>exact⟨0,Nat.zero_le _,rfl,X2,y2,hown3⟩
 case round =>
  obtain⟨k,hk,rfl,XR,yr,ho⟩:=hrel;obtain⟨m0,m1,m2,m3,m4,m5,m6⟩:=XR.facts;clear X0 X1 X2 hown3 hbw;by_cases hlt:k<l.length
  ·obtain⟨b,hb⟩:∃ b,b=l.getD k 0:=⟨_,rfl⟩
   have hb2:b<2:=by rw[hb];exact H01.out _
   have HB:=Lib.hid hb;have HS:=Lib.hid (txt_set l k hlt);rw[←hb] at HS;clear hb
   go_wp2_with (go_at_call 113;refine(at_bit A n c l k b _ rfl B _ (h.below (yr.mono hB)) H01.out hlt HB.out (by omega)).mono ?_;rintro e w3 ⟨rfl,hb3⟩;have X3:=XR.on hb3;have y3:=yr.trans (hb3.mono yr.size);have ho3:=kdc7 ho hb3;obtain⟨g0,g1,g2,g3,g4,g5,g6⟩:=X3.facts;have f3:=ho3.frozenAt k;have c3:=(ho3.cellAt k (by omega)).trans (txt_cell l k hlt))
   go_roundw
   case rel =>
    have hne:w1.heap.size≠w.heap.size:=by omega
    refine⟨k+1,by omega,by go_num,⟨X3.1.far (by simp;omega) _,X3.2.far (by simp;omega) _⟩,y3.setCell (by simp;omega) _,?_⟩;rw[HS.out,bcells_set]
    simpa using (ho3.stored k (.int .u8 ((48+b:Nat):Int))).1
   case measure=>simp[intOf];omega
  ·obtain rfl:k=l.length:=by omega
   obtain⟨A',c',hA,hrd⟩:=Reads.of_own ho;cases hA;have hcv:=kdk7 (P:=Tryz.prog) 22 9 5 Tryz.underlying22 Tryz.underlying5 Tryz.underlying9 hrd;have htx:txt l l.length=l.map (48+·):=by simp[txt]
   rw[htx] at hcv
   go_wp2
   obtain⟨r0,r1⟩:=XR.ends (.int .i64 0) (.int .i64 0);exact bodyPost_ret (v:=.tuple #[.string (bstr (l.map (48+·))),.agg #[.int .i64 0,.int .i64 0]]) (by simp[results,Tryz.results100,go_sem,r0,r1]) rfl ⟨rfl,kaw7 yr _ _⟩
end PB
end
end Go.Proofs.YtnpcandaehejbaaGreat
namespace Go.Proofs
open Go.Shelf
def Tryz.lays169_ren:Go.Shelf.Ren:=⟨fun|169=>107|n=>n,fun|70=>143|9=>9|0=>0|72=>145|37=>22|127=>135|3=>3|5=>5|n=>n,fun|n=>n⟩
theorem Tryz.lays169:Go.Proofs.Lays.n169 Tryz.prog Tryz.lays169_ren:={
 mixed:=by kernel_rfl
 f169:=Tryz.func107.trans (congrArg some (by kernel_rfl))
 t0:=Tryz.underlying0
 a0:=Tryz.isAgg0
 z0:=Tryz.sizeOf0
 v0:=Tryz.zeroValue0
 t3:=Tryz.underlying3
 a3:=Tryz.isAgg3
 z3:=Tryz.sizeOf3
 v3:=Tryz.zeroValue3
 t9:=Tryz.underlying9
 a9:=Tryz.isAgg9
 z9:=Tryz.sizeOf9
 v9:=Tryz.zeroValue9
 t37:=Tryz.underlying22
 a37:=Tryz.isAgg22
 z37:=Tryz.sizeOf22
 v37:=Tryz.zeroValue22
 t70:=Tryz.underlying143
 a70:=Tryz.isAgg143
 z70:=Tryz.sizeOf143
 v70:=Tryz.zeroValue143
 t72:=Tryz.underlying145
 a72:=Tryz.isAgg145
 z72:=Tryz.sizeOf145
 v72:=Tryz.zeroValue145
 t127:=Tryz.underlying135
 a127:=Tryz.isAgg135
 z127:=Tryz.sizeOf135
 v127:=Tryz.zeroValue135 }
theorem Tryz.Builder_Extra_169:Builder.Extra Tryz.prog Tryz.lays169_ren:={
 sizeBuilder:=by kernel_rfl
 liesBuilder:=by kernel_rfl
 t5:=Tryz.underlying5
 a5:=Tryz.isAgg5
 z5:=Tryz.sizeOf5
 v5:=Tryz.zeroValue5
 infoByte:=by kernel_rfl
 cellsByte:=by kernel_rfl
 sizeByte:=by kernel_rfl
 neB5:=by decide }
def Tryz.lays125_ren:Go.Shelf.Ren:=⟨fun|125=>163|128=>164|129=>165|n=>n,fun|46=>68|3=>3|51=>59|53=>56|4=>4|5=>5|9=>9|n=>n,fun|n=>n⟩
theorem Tryz.lays125:Go.Proofs.Lays.n125 Tryz.prog Tryz.lays125_ren:={
 mixed:=by kernel_rfl
 f125:=Tryz.func163.trans (congrArg some (by kernel_rfl))
 f128:=Tryz.func164.trans (congrArg some (by kernel_rfl))
 f129:=Tryz.func165.trans (congrArg some (by kernel_rfl))
 t3:=Tryz.underlying3
 a3:=Tryz.isAgg3
 z3:=Tryz.sizeOf3
 v3:=Tryz.zeroValue3
 t4:=Tryz.underlying4
 a4:=Tryz.isAgg4
 z4:=Tryz.sizeOf4
 v4:=Tryz.zeroValue4
 t5:=Tryz.underlying5
 a5:=Tryz.isAgg5
 z5:=Tryz.sizeOf5
 v5:=Tryz.zeroValue5
 t9:=Tryz.underlying9
 a9:=Tryz.isAgg9
 z9:=Tryz.sizeOf9
 v9:=Tryz.zeroValue9
 t46:=Tryz.underlying68
 a46:=Tryz.isAgg68
 z46:=Tryz.sizeOf68
 v46:=Tryz.zeroValue68
 t51:=Tryz.underlying59
 a51:=Tryz.isAgg59
 z51:=Tryz.sizeOf59
 v51:=Tryz.zeroValue59
 t53:=Tryz.underlying56
 a53:=Tryz.isAgg56
 z53:=Tryz.sizeOf56
 v53:=Tryz.zeroValue56 }
theorem Tryz.bits_Len(x:Int)(w:World)(h0:0≤x)(h1:x≤18446744073709551615) :
 Calls Tryz.prog 163 #[.int .u64 x] w fun e w'=>e=.returned (.int .i64 (Lib.bitLen x.toNat))∧w'=w:=Any.bits_Len Tryz.lays125 x w h0 h1
open Go.RowKit in
theorem Tryz.Builder_String_any_f(B b:Nat)(l:List UInt8)(w:World)(h:Lib.IsBuilderF 145 5 B b (Lib.byteCells l) w)(hBw:B≤w.heap.size) :
 Calls Tryz.prog 107 #[.pointer (some ⟨b,0,none⟩)] w fun e w'=>e=.returned (.string ⟨l.toArray⟩)∧(Lib.IsBuilderF 145 5 B b (Lib.byteCells l) w'∧Below B w w'):=Any.Builder_String_any_f Tryz.lays169 Tryz.Builder_Extra_169 B b l w h hBw
def Tryz.lays105_ren:Go.Shelf.Ren:=⟨fun|105=>133|212=>134|99=>135|165=>136|166=>101|170=>137|169=>107|263=>138|264=>139|206=>140|240=>114|241=>141|276=>127|277=>142|n=>n,fun|9=>9|3=>3|4=>4|20=>20|0=>0|46=>68|109=>193|5=>5|72=>145|76=>150|51=>59|146=>196|53=>56|148=>198|70=>143|37=>22|75=>149|127=>135|164=>95|80=>125|n=>n,fun|n=>n⟩
theorem Tryz.lays105:Go.Proofs.Lays.n105 Tryz.prog Tryz.lays105_ren:={
 mixed:=by kernel_rfl
 f99:=Tryz.func135.trans (congrArg some (by kernel_rfl))
 f105:=Tryz.func133.trans (congrArg some (by kernel_rfl))
 f165:=Tryz.func136.trans (congrArg some (by kernel_rfl))
 f166:=Tryz.func101.trans (congrArg some (by kernel_rfl))
 f169:=Tryz.func107.trans (congrArg some (by kernel_rfl))
 f170:=Tryz.func137.trans (congrArg some (by kernel_rfl))
 f206:=Tryz.func140.trans (congrArg some (by kernel_rfl))
 f212:=Tryz.func134.trans (congrArg some (by kernel_rfl))
 f240:=Tryz.func114.trans (congrArg some (by kernel_rfl))
 f241:=Tryz.func141.trans (congrArg some (by kernel_rfl))
 f263:=Tryz.func138.trans (congrArg some (by kernel_rfl))
 f264:=Tryz.func139.trans (congrArg some (by kernel_rfl))
 f276:=Tryz.func127.trans (congrArg some (by kernel_rfl))
 f277:=Tryz.func142.trans (congrArg some (by kernel_rfl))
 t0:=Tryz.underlying0
 a0:=Tryz.isAgg0
 z0:=Tryz.sizeOf0
 v0:=Tryz.zeroValue0
 t3:=Tryz.underlying3
 a3:=Tryz.isAgg3
 z3:=Tryz.sizeOf3
 v3:=Tryz.zeroValue3
 t4:=Tryz.underlying4
 a4:=Tryz.isAgg4
 z4:=Tryz.sizeOf4
 v4:=Tryz.zeroValue4
 t5:=Tryz.underlying5
 a5:=Tryz.isAgg5
 z5:=Tryz.sizeOf5
 v5:=Tryz.zeroValue5
 t9:=Tryz.underlying9
 a9:=Tryz.isAgg9
 z9:=Tryz.sizeOf9
 v9:=Tryz.zeroValue9
 t20:=Tryz.underlying20
 a20:=Tryz.isAgg20
 z20:=Tryz.sizeOf20
 v20:=Tryz.zeroValue20
 t37:=Tryz.underlying22
 a37:=Tryz.isAgg22
 z37:=Tryz.sizeOf22
 v37:=Tryz.zeroValue22
 t46:=Tryz.underlying68
 a46:=Tryz.isAgg68
 z46:=Tryz.sizeOf68
 v46:=Tryz.zeroValue68
 t51:=Tryz.underlying59
 a51:=Tryz.isAgg59
 z51:=Tryz.sizeOf59
 v51:=Tryz.zeroValue59
 t53:=Tryz.underlying56
 a53:=Tryz.isAgg56
 z53:=Tryz.sizeOf56
 v53:=Tryz.zeroValue56
 t70:=Tryz.underlying143
 a70:=Tryz.isAgg143
 z70:=Tryz.sizeOf143
 v70:=Tryz.zeroValue143
 t72:=Tryz.underlying145
 a72:=Tryz.isAgg145
 z72:=Tryz.sizeOf145
 v72:=Tryz.zeroValue145
 t75:=Tryz.underlying149
 a75:=Tryz.isAgg149
 z75:=Tryz.sizeOf149
 v75:=Tryz.zeroValue149
 t76:=Tryz.underlying150
 a76:=Tryz.isAgg150
 z76:=Tryz.sizeOf150
 v76:=Tryz.zeroValue150
 t109:=Tryz.underlying193
 a109:=Tryz.isAgg193
 z109:=Tryz.sizeOf193
 v109:=Tryz.zeroValue193
 t127:=Tryz.underlying135
 a127:=Tryz.isAgg135
 z127:=Tryz.sizeOf135
 v127:=Tryz.zeroValue135
 t146:=Tryz.underlying196
 a146:=Tryz.isAgg196
 z146:=Tryz.sizeOf196
 v146:=Tryz.zeroValue196
 t148:=Tryz.underlying198
 a148:=Tryz.isAgg198
 z148:=Tryz.sizeOf198
 v148:=Tryz.zeroValue198
 t164:=Tryz.underlying95
 a164:=Tryz.isAgg95
 z164:=Tryz.sizeOf95
 v164:=Tryz.zeroValue95 }
theorem Tryz.Builder_Extra_105:Builder.Extra Tryz.prog Tryz.lays105_ren:={
 sizeBuilder:=by kernel_rfl
 liesBuilder:=by kernel_rfl
 t5:=Tryz.underlying5
 a5:=Tryz.isAgg5
 z5:=Tryz.sizeOf5
 v5:=Tryz.zeroValue5
 infoByte:=by kernel_rfl
 cellsByte:=by kernel_rfl
 sizeByte:=by kernel_rfl
 neB5:=by decide }
open Go.RowKit Go.Lib in
theorem Tryz.strings_Repeat(s:ByteArray)(c:Nat)(w:World)(hc:c≤9223372036854775807)(hlen:s.size*c≤140737488355328) :
 Calls Tryz.prog 133 #[.string s,.int .i64 c] w fun e w'=>e=.returned (.string ⟨(Lib.repeatL s.data.toList c).toArray⟩)∧Below w.heap.size w w':=Any.strings_Repeat Tryz.lays105 Tryz.Builder_Extra_105 s c w hc hlen
end Go.Proofs
namespace Go.Proofs.YtnpcandaehejbaaGreat
section
open Go.RowKit
attribute [local go_sem ↓] Go.wp_at_zero Go.wp_at_succ
namespace PB
theorem belowN{B:Nat}{a w:World}(h:Below B a w)(n:Nat):Below B a (w.drewN n):=⟨h.os,h.tape,h.output,h.size,h.block⟩
def gsz(n:Nat):Nat:=2*Lib.bitLen n-1
theorem kbc7(n:Nat)(h1:1≤n)(h2:n<2 ^ 64):1≤Lib.bitLen n∧2 ^ (Lib.bitLen n-1)≤n∧n<2 ^ Lib.bitLen n:=Lib.bitLenAux_bounds 64 n h2 (by omega)
theorem kcl7(n:Nat)(h2:n<2 ^ 63):Lib.bitLen n≤63:=Lib.bitLen_le n 63 (by decide) h2
theorem kgr7(x:Nat)(w:World)(h1:1≤x)(h2:x<9223372036854775808) :
  Calls Tryz.prog 158 #[.int .i64 x] w fun e w'=>e=.returned (.int .i64 (gsz x:Nat))∧w'=w:=by
 have hb:=kcl7 x (by omega);have hb1:=(kbc7 x h1 (by omega)).1;have hg:gsz x=2*Lib.bitLen x-1:=rfl;have HG:=Lib.hid hg;clear hg
 go_enter Tryz.func158,Tryz.ntmps158
 go_wp2_with (go_at_call 163;refine(Tryz.bits_Len _ _ (by omega) (by omega)).mono ?_;rintro e w' ⟨rfl,rfl⟩;rw[Int.toNat_natCast])
 go_ret
 exact⟨ret_int (by rw[HG.out];omega),rfl⟩
theorem agamma_ok(A:Option Addr)(n c:Nat)(l:List Nat)(x:Nat)(B:Nat)(w:World)(h:Reads w B A n c (bcells (pack l)))(hB:B≤w.heap.size)(h01:Is01 l)(hl:l.length≤131072)(hx1:1≤x)(hx:x≤2147483647)(hbig:l.length+gsz x≤131072) :
  Calls Tryz.prog 155 #[.agg #[.slice A n c,.int .i64 l.length],.int .i64 x] w fun e w'=>∃ A' n' c',e=.returned (.tuple #[.agg #[.slice A' n' c',.int .i64 (l++digs x (gsz x)).length],flt 0 0])∧w'.ownsRow w.heap.size 5 1 (.slice A' n' c') n' (bcells (pack (l++digs x (gsz x))))∧Below w.heap.size w w':=by
 try unfold noBits
 try unfold flt
 have X0:=Box3.start w (.slice A n c) (.int .i64 l.length);have hb0:=below_box3 w (.cells #[.slice A n c,.int .i64 l.length] 70) (.cells #[.slice none 0 0,.int .i64 0] 70) (.cells #[.int .i64 0,.int .i64 0] 24);have hR:=h.below (hb0.mono hB);have H01:=Lib.hid h01;clear h01;have hx2:x<9223372036854775808:=by omega
 have hgz:gsz x≤61:=by have:=Lib.bitLen_le x 31 (by decide) (by omega);unfold gsz;omega
 go_enter Tryz.func155,Tryz.ntmps155
 go_wp2_with (first
  | (go_at_call 108;refine(kau7 A n c l B _ hR (by simp;omega) H01.out hl).mono ?_;rintro e w1 ⟨rfl,hb1⟩;have X1:=X0.on hb1;have y1:=hb0.trans (hb1.mono (by simp;omega));obtain⟨d0,d1,d2,d3,d4,d5,d6,d7,d8,d9,d10⟩:=X1.facts))
 go_quiet ((go_at_call 158;exact Calls.quiet_of_same (kgr7 x _ hx1 hx2)))
 go_wp2_with (first
  | (go_at_call 161;refine(clone_list A n c l B _ (hR.below (belowN (hb1.mono (by simp;omega)) nq)) hl (by show B≤w1.heap.size;omega)).mono ?_;rintro e w2 ⟨A2,n2,c2,rfl,ho2,hb2⟩;have X2:=Box3.on (w:=w1.drewN nq) X1 hb2;have y2:=(belowN y1 nq).trans (hb2.mono y1.size);have s2:w1.heap.size≤w2.heap.size:=hb2.size;obtain⟨e0,e1,e2,e3,e4,e5,e6,e7,e8,e9,e10⟩:=X2.facts)
  | (go_at_call 158;refine(kgr7 x _ hx1 hx2).mono ?_;rintro e w9 ⟨rfl,rfl⟩)
  | (go_at_call 160;refine(added_list A2 n2 c2 l x (gsz x) w1.heap.size _ H01.out (by omega) (by omega) hx2 ho2 s2).mono ?_;rintro e w3 ⟨A3,n3,c3,rfl,ho3,hb3⟩;have X3:=X2.below hb3 d10;have y3:=y2.trans (hb3.mono y1.size);obtain⟨g0,g1,g2,g3,g4,g5,g6,g7,g8,g9,g10⟩:=X3.facts))
 all_goals
  obtain⟨r0,r1,r2,r3⟩:=X3.ends (.slice A3 n3 c3) (.int .i64 (l++digs x (gsz x)).length) (.int .i64 0) (.int .i64 0);refine bodyPost_ret (v:=.tuple #[.agg #[.slice A3 n3 c3,.int .i64 (l++digs x (gsz x)).length],.agg #[.int .i64 0,.int .i64 0]]) (by simp at r0 r1 r2 r3;simp[results,Tryz.results155,go_sem,r0,r1,r2,r3]) rfl ⟨A3,n3,c3,rfl,?_,?_⟩
  ·simpa using own_ends X3 (kao7 ho3 y1.size) (.slice A3 n3 c3) (.int .i64 (l++digs x (gsz x)).length) (.int .i64 0) (.int .i64 0)
  ·simpa using below_ends y3 (.slice A3 n3 c3) (.int .i64 (l++digs x (gsz x)).length) (.int .i64 0) (.int .i64 0)
def zr(l:List Nat)(f:Nat):Nat:=((l.drop f).takeWhile (· == 0)).length
theorem zr_le(l:List Nat)(f:Nat)(hf:f≤l.length):f+zr l f≤l.length:=by
 have:=(List.takeWhile_prefix (p:=(· == 0)) (l:=l.drop f)).length_le;rw[List.length_drop] at this;unfold zr;omega
theorem takeWhile_at(m:List Nat):∀ k,k<(m.takeWhile (· == 0)).length→m.getD k 0=0:=by
 induction m with
 | nil=>intro k h;simp at h
 | cons a m ih =>
  intro k h;by_cases ha:a=0
  ·subst ha;cases k with
   | zero=>rfl
   | succ k=>simp at h;simpa using ih k (by omega)
  ·simp[ha] at h
theorem takeWhile_stop(m:List Nat):(m.takeWhile (· == 0)).length<m.length→m.getD (m.takeWhile (· == 0)).length 0≠0:=by
 induction m with
 | nil=>intro h;simp at h
 | cons a m ih =>
  intro h;by_cases ha:a=0
  ·subst ha;simp at h ⊢
   simpa using ih h
  ·simp[ha]
theorem zr_zero(l:List Nat)(f k:Nat)(h:k<zr l f):l.getD (f+k) 0=0:=by
 have:=takeWhile_at (l.drop f) k h
 simpa [List.getD_eq_getElem?_getD] using this
theorem zr_stop(l:List Nat)(f:Nat)(h:f+zr l f<l.length):l.getD (f+zr l f) 0≠0:=by
 have:=takeWhile_stop (l.drop f) (by unfold zr at h;rw[List.length_drop];omega);unfold zr
 simpa [List.getD_eq_getElem?_getD] using this
theorem rgamma_corrupt (A:Option Addr) (n c:Nat) (l:List Nat) (f:Nat) (B:Nat) (w:World) (h:Reads w B A n c (bcells (pack l))) (hB:B≤w.heap.size) (h01:Is01 l) (hl:l.length≤131072) (hf:f≤l.length) (hz:31≤zr l f) :
   Calls Tryz.prog 162 #[.agg #[.slice A n c,.int .i64 l.length],.int .i64 f] w fun e w'=>e=.returned (.tuple #[.int .i64 0,.int .i64 0,flt 16 (-2)])∧Below w.heap.size w w':=by
 try unfold noBits
 try unfold flt
 have X0:=Box2.start w (.slice A n c) (.int .i64 l.length)
 have hb0:=kbr7 w (.cells #[.slice A n c,.int .i64 l.length] 70) (.cells #[.int .i64 0,.int .i64 0] 24)
 have hR:=h.below (hb0.mono hB)
 have H01:=Lib.hid h01
 clear h01
 have hz0:=zr_le l f hf
 have q1:decide ((f:Int)<0)=false:=by simp
 have q2:decide (l.length<f)=false:=by simp;omega
 go_enter Tryz.func162,Tryz.ntmps162
 go_wp2_with (first
   | (go_at_call 108;refine(kau7 A n c l B _ hR (by simp;omega) H01.out hl).mono ?_;rintro e w1 ⟨rfl,hb1⟩;have X1:=X0.on hb1;have y1:=hb0.trans (hb1.mono (by simp;omega));obtain⟨d0,d1,d2,d3,d4,d5,d6⟩:=X1.facts))
 go_loopw [7] (fun z wr=>∃ k:Nat,k≤zr l f∧k≤30∧z=.int .i64 k∧Box2 wr w.heap.size (.slice A n c) (.int .i64 l.length)∧Below w.heap.size w wr) (fun z _=>31-(intOf z).toNat)
 case atStart=>exact⟨0,Nat.zero_le _,by omega,rfl,X1,y1⟩
 case round =>
   obtain⟨k,hk,hk30,rfl,XR,yr⟩:=hrel
   clear d0 d1 d2 d3 d4 d5 X0
   obtain⟨m0,m1,m2,m3,m4,m5,m6⟩:=XR.facts
   by_cases hlt:k<zr l f
   · have hlen:f+k<l.length:=by omega
     have hzk:l[f+k]=0:=by rw[←kbf7 hlen];exact zr_zero l f k hlt
     go_wp2_with (first
       | (go_at_call 113;refine(khs7 A n c l (f+k) B _ (h.below (yr.mono hB)) H01.out hlen (by omega)).mono ?_;rintro e w3 ⟨rfl,hb3⟩;have X3:=XR.on hb3;have y3:=yr.trans (hb3.mono yr.size);obtain⟨g0,g1,g2,g3,g4,g5,g6⟩:=X3.facts)
       | (go_at_call 112;refine(kfc7 _ _ _).mono ?_;rintro e w2 ⟨rfl,hb2⟩;have X2:=X3.on hb2;have y2:=y3.trans (hb2.mono y3.size);obtain⟨e0,e1,e2,e3,e4,e5,e6⟩:=X2.facts))
     all_goals first
       | (obtain⟨r0,r1⟩:=X2.ends (.int .i64 16) (.int .i64 (-2))
          exact bodyPost_ret (v:=.tuple #[.int .i64 0,.int .i64 0,.agg #[.int .i64 16,.int .i64 (-2)]]) (by simp[results,Tryz.results162,go_sem,r0,r1]) rfl ⟨rfl,kaw7 y2 _ _⟩)
       | (go_roundw
          case rel=>exact⟨k+1,by omega,by omega,by go_num,X3,y3⟩
          case measure=>simp[intOf];omega)
   · omega
theorem rgamma_trunc(A:Option Addr)(n c:Nat)(l:List Nat)(f:Nat)(B:Nat)(w:World)(h:Reads w B A n c (bcells (pack l)))(hB:B≤w.heap.size)(h01:Is01 l)(hl:l.length≤131072)(hf:f≤l.length)(hz:zr l f≤30)(hs:l.length<f+2*zr l f+1) :
  Calls Tryz.prog 162 #[.agg #[.slice A n c,.int .i64 l.length],.int .i64 f] w fun e w'=>e=.returned (.tuple #[.int .i64 0,.int .i64 0,flt 15 (-2)])∧Below w.heap.size w w':=by
 try unfold noBits
 try unfold flt
 have X0:=Box2.start w (.slice A n c) (.int .i64 l.length);have hb0:=kbr7 w (.cells #[.slice A n c,.int .i64 l.length] 70) (.cells #[.int .i64 0,.int .i64 0] 24);have hR:=h.below (hb0.mono hB);have H01:=Lib.hid h01;clear h01;have hz0:=zr_le l f hf;have q1:decide ((f:Int)<0)=false:=by simp
 have q2:decide (l.length<f)=false:=by simp;omega
 go_enter Tryz.func162,Tryz.ntmps162
 go_wp2_with (first
  | (go_at_call 108;refine(kau7 A n c l B _ hR (by simp;omega) H01.out hl).mono ?_;rintro e w1 ⟨rfl,hb1⟩;have X1:=X0.on hb1;have y1:=hb0.trans (hb1.mono (by simp;omega));obtain⟨d0,d1,d2,d3,d4,d5,d6⟩:=X1.facts))
 go_loopw [7] (fun z wr=>∃ k:Nat,k≤zr l f∧k≤30∧z=.int .i64 k∧Box2 wr w.heap.size (.slice A n c) (.int .i64 l.length)∧Below w.heap.size w wr) (fun z _=>31-(intOf z).toNat)
 case atStart=>exact⟨0,Nat.zero_le _,by omega,rfl,X1,y1⟩
 case round =>
  obtain⟨k,hk,hk30,rfl,XR,yr⟩:=hrel;clear d0 d1 d2 d3 d4 d5 X0;obtain⟨m0,m1,m2,m3,m4,m5,m6⟩:=XR.facts;by_cases hlt:k<zr l f
  ·have hlen:f+k<l.length:=by omega
   have hzk:l[f+k]=0:=by rw[←kbf7 hlen];exact zr_zero l f k hlt
   go_wp2_with (first
    | (go_at_call 113;refine(khs7 A n c l (f+k) B _ (h.below (yr.mono hB)) H01.out hlen (by omega)).mono ?_;rintro e w3 ⟨rfl,hb3⟩;have X3:=XR.on hb3;have y3:=yr.trans (hb3.mono yr.size);obtain⟨g0,g1,g2,g3,g4,g5,g6⟩:=X3.facts))
   go_roundw
   case rel=>exact⟨k+1,by omega,by omega,by go_num,X3,y3⟩
   case measure=>simp[intOf];omega
  ·have hkz:k=zr l f:=by omega
   have HKZ:=Lib.hid hkz;by_cases hend:f+k<l.length
   ·have hz1:l[f+k]=1:=by
     have h1:=zr_stop l f (by omega);have h2:=H01.out (f+k);rw[←hkz] at h1;rw[kbf7 hend] at h1 h2;omega
    clear hkz
    go_wp2_with (first
     | (go_at_call 113;refine(khs7 A n c l (f+k) B _ (h.below (yr.mono hB)) H01.out hend (by omega)).mono ?_;rintro e w3 ⟨rfl,hb3⟩;have X3:=XR.on hb3;have y3:=yr.trans (hb3.mono yr.size);obtain⟨g0,g1,g2,g3,g4,g5,g6⟩:=X3.facts)
     | (go_at_call 112;refine(kfc7 _ _ _).mono ?_;rintro e w2 ⟨rfl,hb2⟩;have X2:=X3.on hb2;have y2:=y3.trans (hb2.mono y3.size);obtain⟨e0,e1,e2,e3,e4,e5,e6⟩:=X2.facts))
    obtain⟨r0,r1⟩:=X2.ends (.int .i64 15) (.int .i64 (-2));exact bodyPost_ret (v:=.tuple #[.int .i64 0,.int .i64 0,.agg #[.int .i64 15,.int .i64 (-2)]]) (by simp[results,Tryz.results162,go_sem,r0,r1]) rfl ⟨rfl,kaw7 y2 _ _⟩
   ·clear hkz
    go_wp2_with (first
     | (go_at_call 112;refine(kfc7 _ _ _).mono ?_;rintro e w2 ⟨rfl,hb2⟩;have X2:=XR.on hb2;have y2:=yr.trans (hb2.mono yr.size);obtain⟨e0,e1,e2,e3,e4,e5,e6⟩:=X2.facts))
    obtain⟨r0,r1⟩:=X2.ends (.int .i64 15) (.int .i64 (-2));exact bodyPost_ret (v:=.tuple #[.int .i64 0,.int .i64 0,.agg #[.int .i64 15,.int .i64 (-2)]]) (by simp[results,Tryz.results162,go_sem,r0,r1]) rfl ⟨rfl,kaw7 y2 _ _⟩
theorem rgamma_ok(A:Option Addr)(n c:Nat)(l:List Nat)(f:Nat)(B:Nat)(w:World)(h:Reads w B A n c (bcells (pack l)))(hB:B≤w.heap.size)(h01:Is01 l)(hl:l.length≤131072)(hf:f≤l.length)(hz:zr l f≤30)(hs:f+2*zr l f+1≤l.length) :
  Calls Tryz.prog 162 #[.agg #[.slice A n c,.int .i64 l.length],.int .i64 f] w fun e w'=>e=.returned (.tuple #[.int .i64 (num ((l.drop (f+zr l f)).take (zr l f+1)):Nat),.int .i64 (f+2*zr l f+1:Nat),flt 0 0])∧Below w.heap.size w w':=by
 try unfold noBits
 try unfold flt
 have X0:=Box2.start w (.slice A n c) (.int .i64 l.length);have hb0:=kbr7 w (.cells #[.slice A n c,.int .i64 l.length] 70) (.cells #[.int .i64 0,.int .i64 0] 24);have hR:=h.below (hb0.mono hB);have H01:=Lib.hid h01;clear h01;have hz0:=zr_le l f hf;have q1:decide ((f:Int)<0)=false:=by simp
 have q2:decide (l.length<f)=false:=by simp;omega
 go_enter Tryz.func162,Tryz.ntmps162
 go_wp2_with (first
  | (go_at_call 108;refine(kau7 A n c l B _ hR (by simp;omega) H01.out hl).mono ?_;rintro e w1 ⟨rfl,hb1⟩;have X1:=X0.on hb1;have y1:=hb0.trans (hb1.mono (by simp;omega));obtain⟨d0,d1,d2,d3,d4,d5,d6⟩:=X1.facts))
 go_loopw [7] (fun z wr=>∃ k:Nat,k≤zr l f∧k≤30∧z=.int .i64 k∧Box2 wr w.heap.size (.slice A n c) (.int .i64 l.length)∧Below w.heap.size w wr) (fun z _=>31-(intOf z).toNat)
 case atStart=>exact⟨0,Nat.zero_le _,by omega,rfl,X1,y1⟩
 case round =>
  obtain⟨k,hk,hk30,rfl,XR,yr⟩:=hrel;clear d0 d1 d2 d3 d4 d5 X0;obtain⟨m0,m1,m2,m3,m4,m5,m6⟩:=XR.facts;by_cases hlt:k<zr l f
  ·have hlen:f+k<l.length:=by omega
   have hzk:l[f+k]=0:=by rw[←kbf7 hlen];exact zr_zero l f k hlt
   go_wp2_with (first
    | (go_at_call 113;refine(khs7 A n c l (f+k) B _ (h.below (yr.mono hB)) H01.out hlen (by omega)).mono ?_;rintro e w3 ⟨rfl,hb3⟩;have X3:=XR.on hb3;have y3:=yr.trans (hb3.mono yr.size);obtain⟨g0,g1,g2,g3,g4,g5,g6⟩:=X3.facts))
   go_roundw
   case rel=>exact⟨k+1,by omega,by omega,by go_num,X3,y3⟩
   case measure=>simp[intOf];omega
  ·have hkz:k=zr l f:=by omega
   have HKZ:=Lib.hid hkz;have hend:f+k<l.length:=by omega
   have hz1:l[f+k]=1:=by
    have h1:=zr_stop l f (by omega);have h2:=H01.out (f+k);rw[←hkz] at h1;rw[kbf7 hend] at h1 h2;omega
   rw[←hkz] at hs;clear hkz
   go_wp2_with (first
    | (go_at_call 113;refine(khs7 A n c l (f+k) B _ (h.below (yr.mono hB)) H01.out hend (by omega)).mono ?_;rintro e w3 ⟨rfl,hb3⟩;have X3:=XR.on hb3;have y3:=yr.trans (hb3.mono yr.size);obtain⟨g0,g1,g2,g3,g4,g5,g6⟩:=X3.facts)
    | (go_at_call 157;refine(number_list A n c l (f+k) (k+1) B _ (h.below (y3.mono hB)) H01.out hl (by omega) (by omega) (by omega)).mono ?_;rintro e w2 ⟨rfl,hb2⟩;have X2:=X3.on hb2;have y2:=y3.trans (hb2.mono y3.size);obtain⟨e0,e1,e2,e3,e4,e5,e6⟩:=X2.facts))
   obtain⟨r0,r1⟩:=X2.ends (.int .i64 0) (.int .i64 0);refine bodyPost_ret (v:=.tuple #[.int .i64 (num ((l.drop (f+k)).take (k+1)):Nat),.int .i64 (f+2*k+1:Nat),.agg #[.int .i64 0,.int .i64 0]]) (by simp[results,Tryz.results162,go_sem,r0,r1]) rfl ⟨?_,kaw7 y2 _ _⟩;rw[HKZ.out]
end PB
end
section
open Go.RowKit
namespace PB
theorem append_ok(A:Option Addr)(n c:Nat)(l:List Nat)(v m:Nat)(B:Nat)(w:World)(h:Reads w B A n c (bcells (pack l)))(hB:B≤w.heap.size)(h01:Is01 l)(hl:l.length≤131072)(hm:m≤32)(hv:v<2 ^ m)(hbig:l.length+m≤131072) :
  Calls Tryz.prog 154 #[.agg #[.slice A n c,.int .i64 l.length],.int .i64 v,.int .i64 m] w fun e w'=>∃ A' n' c',e=.returned (.tuple #[.agg #[.slice A' n' c',.int .i64 (l++digs v m).length],flt 0 0])∧w'.ownsRow w.heap.size 5 1 (.slice A' n' c') n' (bcells (pack (l++digs v m)))∧Below w.heap.size w w':=by
 try unfold noBits
 try unfold flt
 have X0:=Box3.start w (.slice A n c) (.int .i64 l.length);have hb0:=below_box3 w (.cells #[.slice A n c,.int .i64 l.length] 70) (.cells #[.slice none 0 0,.int .i64 0] 70) (.cells #[.int .i64 0,.int .i64 0] 24);have hR:=h.below (hb0.mono hB);have k2:(((v:Int) / 2 ^ m) != 0)=false:=by
  have h1:v / 2 ^ m=0:=Nat.div_eq_of_lt hv;have e:((v:Int) / 2 ^ m)=((v / 2 ^ m:Nat):Int):=by simp
  rw[e,h1];rfl
 have hvm:v<9223372036854775808:=by
  have:2 ^ m≤2 ^ 32:=Nat.pow_le_pow_right (by decide) hm;omega
 have H01:=Lib.hid h01;have HV:=Lib.hid hv;clear h01 hv
 go_enter Tryz.func154,Tryz.ntmps154
 go_wp2_with (first
  | (go_at_call 108;refine(kau7 A n c l B _ hR (by simp;omega) H01.out hl).mono ?_;rintro e w1 ⟨rfl,hb1⟩;have X1:=X0.on hb1;have y1:=hb0.trans (hb1.mono (by simp;omega));obtain⟨d0,d1,d2,d3,d4,d5,d6,d7,d8,d9,d10⟩:=X1.facts)
  | (go_at_call 161;refine(clone_list A n c l B _ (hR.below (hb1.mono (by simp;omega))) hl (by omega)).mono ?_;rintro e w2 ⟨A2,n2,c2,rfl,ho2,hb2⟩;have X2:=X1.on hb2;have y2:=y1.trans (hb2.mono y1.size);have s2:=hb2.size;obtain⟨e0,e1,e2,e3,e4,e5,e6,e7,e8,e9,e10⟩:=X2.facts)
  | (go_at_call 160;refine(added_list A2 n2 c2 l v m w1.heap.size _ H01.out (by omega) (by omega) hvm ho2 s2).mono ?_;rintro e w3 ⟨A3,n3,c3,rfl,ho3,hb3⟩;have X3:=X2.below hb3 d10;have y3:=y2.trans (hb3.mono y1.size);obtain⟨g0,g1,g2,g3,g4,g5,g6,g7,g8,g9,g10⟩:=X3.facts))
 all_goals
  obtain⟨r0,r1,r2,r3⟩:=X3.ends (.slice A3 n3 c3) (.int .i64 (l++digs v m).length) (.int .i64 0) (.int .i64 0);refine bodyPost_ret (v:=.tuple #[.agg #[.slice A3 n3 c3,.int .i64 (l++digs v m).length],.agg #[.int .i64 0,.int .i64 0]]) (by simp at r0 r1 r2 r3;simp[results,Tryz.results154,go_sem,r0,r1,r2,r3]) rfl ⟨A3,n3,c3,rfl,?_,?_⟩
  ·simpa using own_ends X3 (kao7 ho3 y1.size) (.slice A3 n3 c3) (.int .i64 (l++digs v m).length) (.int .i64 0) (.int .i64 0)
  ·simpa using below_ends y3 (.slice A3 n3 c3) (.int .i64 (l++digs v m).length) (.int .i64 0) (.int .i64 0)
def Rd(w:World)(A:Option Addr)(n c:Nat)(xs:List Value):Prop:=Reads w w.heap.size A n c xs
section
variable {w w':World}{A:Option Addr}{n c:Nat}{xs:List Value}
theorem Rd.on(h:Rd w A n c xs)(hb:Below w.heap.size w w'):Rd w' A n c xs:=(Reads.on h (Nat.le_refl _) hb).more hb.size
theorem Rd.alloc(h:Rd w A n c xs)(o:Obj):Rd (w.alloc o) A n c xs:=(Reads.alloc h (Nat.le_refl _) o).more (by simp)
theorem Rd.drew(h:Rd w A n c xs):Rd w.drew A n c xs:=h
theorem Rd.own{base:Nat}{e:TypeId}(h:w.ownsRow base e 1 (.slice A n c) n xs):Rd w A n c xs:=by
 obtain⟨A',c',hv,hr⟩:=Reads.of_own h;cases hv;exact hr
theorem Two.new1(w:World)(o:Obj)(t:TypeId)(v0 v1:Value):Two ((w.alloc o).alloc (.cells #[v0,v1] t)) (w.heap.size+1) t v0 v1:=by
 simpa using Two.new (w.alloc o) t v0 v1
end
theorem kgs7(code index:Int)(w:World) :
  Calls Tryz.prog 15 #[.int .i64 code,.int .i64 index] w fun e w'=>e=.returned (.agg #[.int .i64 code,.int .i64 index])∧Below w.heap.size w w':=by
 go_enter Tryz.func15,Tryz.ntmps15
 go_wp2
 refine bodyPost_ret (v:=.agg #[.int .i64 code,.int .i64 index]) (by simp[results,Tryz.results15,go_sem]) rfl ⟨rfl,?_⟩;exact(Below.refl _ _).alloc (Nat.le_refl _) _
theorem kcb7(A:Option Addr)(n c:Nat)(d:List Nat)(A2:Option Addr)(n2 c2:Nat)(d2:List Nat)(w:World)(h:Rd w A n c (bcells d))(h2:Rd w A2 n2 c2 (bcells d2))
  (hd:∀ k,d.getD k 0<256) (hd2:∀ k,d2.getD k 0<256) :
  Calls Tryz.prog 11 #[.slice A n c,.slice A2 n2 c2] w fun e w'=>e=.returned (.bool (decide (d=d2)))∧w=w':=by
 have hcv:=kdk7 (P:=Tryz.prog) 22 9 5 Tryz.underlying22 Tryz.underlying5 Tryz.underlying9 h;have hcv2:=kdk7 (P:=Tryz.prog) 22 9 5 Tryz.underlying22 Tryz.underlying5 Tryz.underlying9 h2
 go_enter Tryz.func11,Tryz.ntmps11
 go_wp2
 go_ret
 refine⟨ret_bool ?_,rfl⟩;rw[bstr_toList,bstr_toList,Bool.eq_iff_iff];simp only[beq_iff_eq,decide_eq_true_eq];exact⟨kgf7 d d2 hd hd2,fun h=>by rw[h]⟩
end PB
end
section
open Go.RowKit
attribute [local go_sem ↓] Go.wp_at_zero Go.wp_at_succ
namespace PB
theorem read_short(A:Option Addr)(n c:Nat)(l:List Nat)(f m:Int)(B:Nat)(w:World)(h:Reads w B A n c (bcells (pack l)))(hB:B≤w.heap.size)(h01:Is01 l)(hl:l.length≤131072)(hf0:0≤f)(hf1:f≤l.length)(hm0:0≤m)(hm1:m≤32)(hf:(l.length:Int)<f+m) :
  Calls Tryz.prog 148 #[.agg #[.slice A n c,.int .i64 l.length],.int .i64 f,.int .i64 m] w fun e w'=>e=.returned (.tuple #[.int .i64 0,flt 15 (-2)])∧Below w.heap.size w w':=by
 try unfold noBits
 try unfold flt
 have X0:=Box2.start w (.slice A n c) (.int .i64 l.length);have hb0:=kbr7 w (.cells #[.slice A n c,.int .i64 l.length] 70) (.cells #[.int .i64 0,.int .i64 0] 24);have hR:=h.below (hb0.mono hB);have H01:=Lib.hid h01;clear h01
 go_enter Tryz.func148,Tryz.ntmps148
 go_wp2_with (first
  | (go_at_call 108;refine(kau7 A n c l B _ hR (by simp;omega) H01.out hl).mono ?_;rintro e w1 ⟨rfl,hb1⟩;have X1:=X0.on hb1;have y1:=hb0.trans (hb1.mono (by simp;omega));obtain⟨d0,d1,d2,d3,d4,d5,d6⟩:=X1.facts)
  | (go_at_call 112;refine(kfc7 _ _ _).mono ?_;rintro e w2 ⟨rfl,hb2⟩;have X2:=X1.on hb2;have y2:=y1.trans (hb2.mono y1.size);obtain⟨e0,e1,e2,e3,e4,e5,e6⟩:=X2.facts))
 all_goals
  obtain⟨r0,r1⟩:=X2.ends (.int .i64 15) (.int .i64 (-2));exact bodyPost_ret (v:=.tuple #[.int .i64 0,.agg #[.int .i64 15,.int .i64 (-2)]]) (by simp[results,Tryz.results148,go_sem,r0,r1]) rfl ⟨rfl,kaw7 y2 _ _⟩
theorem read_ok(A:Option Addr)(n c:Nat)(l:List Nat)(f m:Nat)(B:Nat)(w:World)(h:Reads w B A n c (bcells (pack l)))(hB:B≤w.heap.size)(h01:Is01 l)(hl:l.length≤131072)(hm:m≤32)(hf:f+m≤l.length) :
  Calls Tryz.prog 148 #[.agg #[.slice A n c,.int .i64 l.length],.int .i64 f,.int .i64 m] w fun e w'=>e=.returned (.tuple #[.int .i64 (num ((l.drop f).take m):Nat),flt 0 0])∧Below w.heap.size w w':=by
 try unfold noBits
 try unfold flt
 have X0:=Box2.start w (.slice A n c) (.int .i64 l.length);have hb0:=kbr7 w (.cells #[.slice A n c,.int .i64 l.length] 70) (.cells #[.int .i64 0,.int .i64 0] 24);have hR:=h.below (hb0.mono hB);have H01:=Lib.hid h01;clear h01
 go_enter Tryz.func148,Tryz.ntmps148
 go_wp2_with (first
  | (go_at_call 108;refine(kau7 A n c l B _ hR (by simp;omega) H01.out hl).mono ?_;rintro e w1 ⟨rfl,hb1⟩;have X1:=X0.on hb1;have y1:=hb0.trans (hb1.mono (by simp;omega));obtain⟨d0,d1,d2,d3,d4,d5,d6⟩:=X1.facts)
  | (go_at_call 157;refine(number_list A n c l f m B _ (hR.below (hb1.mono (by simp;omega))) H01.out hl hf (by omega) (by omega)).mono ?_;rintro e w2 ⟨rfl,hb2⟩;have X2:=X1.on hb2;have y2:=y1.trans (hb2.mono y1.size);obtain⟨e0,e1,e2,e3,e4,e5,e6⟩:=X2.facts))
 all_goals
  obtain⟨r0,r1⟩:=X2.ends (.int .i64 0) (.int .i64 0);exact bodyPost_ret (v:=.tuple #[.int .i64 (num ((l.drop f).take m):Nat),.agg #[.int .i64 0,.int .i64 0]]) (by simp[results,Tryz.results148,go_sem,r0,r1]) rfl ⟨rfl,kaw7 y2 _ _⟩
end PB
end
section
open Go.RowKit
namespace PB
theorem num_digs(m:Nat):∀ v,v<2 ^ m→num (digs v m)=v:=by
 induction m with
 | zero=>intro v h;simp at h;subst h;rfl
 | succ m ih =>
  intro v h;show num (digs (v / 2) m++[v % 2])=v;rw[num_snoc,ih (v / 2) (by rw[Nat.pow_succ] at h;omega)];omega
theorem Two.new2(w:World)(o o2:Obj)(t:TypeId)(v0 v1:Value):Two (((w.alloc o).alloc o2).alloc (.cells #[v0,v1] t)) (w.heap.size+2) t v0 v1:=by
 simpa using Two.new ((w.alloc o).alloc o2) t v0 v1
theorem int_info:(Tryz.prog.info? 3).map (fun i=>(i.zero,i.size,i.bytes))=some (some (.int .i64 0),1,8):=by kernel_rfl
theorem kgg7(l:List Nat):(ncells l).length=l.length:=by simp[ncells]
theorem ncells_get(l:List Nat)(j:Nat)(h:j<l.length):(ncells l)[j]?=some (.int .i64 ((l.getD j 0:Nat):Int)):=by
 simp[ncells,List.getElem?_map,List.getElem?_eq_getElem h,List.getD_eq_getElem?_getD]
theorem share{T p:Prop}(h:T→p)(t:T):p:=h t
theorem belowD{B:Nat}{a w:World}(h:Below B a w):Below B a w.drew:=⟨h.os,h.tape,h.output,h.size,h.block⟩
theorem kdl7{w:World}{base:Nat}{e:TypeId}{size:Nat}{v:Value}{n:Nat}{xs:List Value}(h:w.ownsRow base e size v n xs):w.drew.ownsRow base e size v n xs:=h
theorem kaq7{base:Nat}{a w w':World}{e:TypeId}{size n B:Nat}{v:Value}{xs:List Value}(h:Below B a w)(ho:w.ownsRow base e size v n xs)(hg:w.grownBy w' v.ownBlock)(hB:B≤base)(hB2:B≤w.heap.size):Below B a w' :=
 h.grown hg hB2 (fun g hg=>Nat.le_trans hB (ho.lt g hg).1)
section
variable {P:Program}
theorem wpList_app1{ops:Array Oper}{rest:List Oper}{o:Oper}{a:Act}{Q:Exit→Act→World→Prop}(W:World)(hgd:o.guard=none)(s x:Operand)(t:TypeId)
  (ho:o.op=.call { callee:=.builtin .append,args:=#[s,x],argTypes:=#[t,t] })
  (base:Nat) (e:TypeId) (i:TypeInfo) (z:Value) (bytes:Nat) (ht:P.underlying t=some (.slice e)) (hi:P.info? e=some i) (hz:i.zero=some z)
  (hsize:i.size=1) (hby:i.bytes=bytes) (hzs:z.cells.size=1)
  (v:Value) (n:Nat) (xs:List Value) (hs:a.eval s=v) (hown:W.ownsRow base e 1 v n xs)
  (u:Value) (h1:u.oneCell'=true) (hx:a.eval x=.slice (some ⟨W.heap.size,0,none⟩) 1 1)
  (h63:n+1≤maxLen) (hbytes:(n+1)*bytes≤140737488355328) (hbase:base≤W.heap.size)
  (h:∀ A' c' w',w'.ownsRow base e 1 (.slice A' (n+1) c') (n+1) (xs++[u])→W.grownBy w' v.ownBlock→wpList P ops Q rest (a.put o.dst (.slice A' (n+1) c')) w') :
  wpList P ops Q (o::rest) a (W.alloc (.cells #[u] e)):=by
 have hr:Reads (W.alloc (.cells #[u] e)) (W.heap.size+1) (some ⟨W.heap.size,0,none⟩) 1 1 [u]:=by
  refine⟨rfl,Nat.le_refl _,by decide,fun _=>⟨W.heap.size,0,rfl,by omega,fun j y hj=>?_⟩⟩;have:=one_new W W.heap.size rfl u e j y hj;have e:(⟨W.heap.size,0,none⟩:Addr).add j=⟨W.heap.size,0+j,none⟩:=by
   unfold Addr.add;by_cases hj:j=0<;>simp[hj]
  rw[e] at this;exact this
 refine kbe7 (P:=P) (W.alloc (.cells #[u] e)) hgd s x t ho base e i z bytes ht hi hz hsize hby hzs v n xs hs (hown.alloc _) (W.heap.size+1) _ 1 1 [u] hx hr (by simpa using h1) h63 hbytes (by simp;omega) ?_;intro A' c' w' h2 h3 _;refine h A' c' w' h2 ?_;exact⟨h3.os,h3.tape,h3.output,Nat.le_trans (by simp) h3.size,fun k hk hne=>(h3.block k (by simp;omega) hne).trans (Below.heap_alloc W _ k hk)⟩
theorem khw7{ops:Array Oper}{rest:List Oper}{o:Oper}{a:Act}{Q:Exit→Act→World→Prop}(w:World)
  (hg:o.guard=none) (l c:Operand) (t:TypeId) (hop:o.op=Op.makeSlice t l c)
  (e:TypeId) (i:TypeInfo) (z:Value) (bytes:Nat) (h1:P.underlying t=some (.slice e)) (h2:P.info? e=some i) (h3:i.zero=some z) (h4:i.size=1) (h5:i.bytes=bytes) (hzz:z.cells=#[z])
  (kl kc:IntKind) (L C:Int) (n:Nat) (hl:a.eval l=.int kl L) (hc:a.eval c=.int kc C) (hL:L=(n:Int)) (hC:C=(n:Int)) (b2:bytes*n≤281474976710656) (b3:n≤maxLen)
  (hK:∀ w',w'.ownsRow w.heap.size e 1 (.slice (some ⟨w.heap.size,0,none⟩) n n) n (List.replicate n z)→Below w.heap.size w w'→w.heap.size<w'.heap.size→wpList P ops Q rest (a.put o.dst (.slice (some ⟨w.heap.size,0,none⟩) n n)) w') :
  wpList P ops Q (o::rest) a w:=by
 refine wpList_make_full (P:=P) w hg l c t hop w.heap.size e i z 1 h1 h2 h3 h4 kl kc L C n hl hc hL hC (by rw[h5];exact b2) b3 (Nat.le_refl _) ?_;intro w' ho hgr;have ho':w'.ownsRow w.heap.size e 1 (.slice (some ⟨w.heap.size,0,none⟩) n n) n (List.replicate n z):=by
  rw[hzz,Nat.mul_one,toList_madeCells_one] at ho;exact ho
 exact hK w' ho' ((Below.refl _ _).grown hgr (Nat.le_refl _) (by simp)) (ho'.lt _ rfl).2
end
end PB
end
section
open Go.RowKit
namespace PB
def Three(w:World)(s:Nat)(t:TypeId)(v0 v1 v2:Value):Prop:=Blk w s t #[v0,v1,v2]
section
variable {w w':World}{s:Nat}{t:TypeId}{v0 v1 v2:Value}
theorem Three.new(w:World)(t:TypeId)(v0 v1 v2:Value):Three (w.alloc (.cells #[v0,v1,v2] t)) w.heap.size t v0 v1 v2:=Blk.new w t _
theorem Three.new1(w:World)(o:Obj)(t:TypeId)(v0 v1 v2:Value):Three ((w.alloc o).alloc (.cells #[v0,v1,v2] t)) (w.heap.size+1) t v0 v1 v2:=by
 simpa using Three.new (w.alloc o) t v0 v1 v2
theorem Three.alloc(h:Three w s t v0 v1 v2)(o:Obj):Three (w.alloc o) s t v0 v1 v2:=Blk.alloc h o
theorem Three.drew(h:Three w s t v0 v1 v2):Three w.drew s t v0 v1 v2:=h
theorem Three.on(h:Three w s t v0 v1 v2)(hb:Below w.heap.size w w'):Three w' s t v0 v1 v2:=Blk.on h hb
theorem Three.grown{row:Option Nat}(h:Three w s t v0 v1 v2)(hb:w.grownBy w' row)(hg:some s≠row):Three w' s t v0 v1 v2:=Blk.grown h hb hg
theorem Three.far(h:Three w s t v0 v1 v2){p:Addr}(hp:s≠p.block)(u:Value):Three (w.setCell p u) s t v0 v1 v2:=Blk.far h hp u
theorem Three.set0(h:Three w s t v0 v1 v2)(u:Value):Three (w.setCell ⟨s,0,none⟩ u) s t u v1 v2:=by
 have:=Blk.set_ h 0 u;simp at this;exact this
theorem Three.set1(h:Three w s t v0 v1 v2)(u:Value):Three (w.setCell ⟨s,1,none⟩ u) s t v0 u v2:=by
 have:=Blk.set_ h 1 u;simp at this;exact this
theorem Three.set2(h:Three w s t v0 v1 v2)(u:Value):Three (w.setCell ⟨s,2,none⟩ u) s t v0 v1 u:=by
 have:=Blk.set_ h 2 u;simp at this;exact this
theorem Three.c0(h:Three w s t v0 v1 v2):w.cell? ⟨s,0,none⟩=some v0:=by simpa using Blk.cell h 0
theorem Three.c1(h:Three w s t v0 v1 v2):w.cell? ⟨s,1,none⟩=some v1:=by simpa using Blk.cell h 1
theorem Three.c2(h:Three w s t v0 v1 v2):w.cell? ⟨s,2,none⟩=some v2:=by simpa using Blk.cell h 2
theorem Three.f0(h:Three w s t v0 v1 v2):w.frozen? ⟨s,0,none⟩=false:=Blk.frozen h 0
theorem Three.f1(h:Three w s t v0 v1 v2):w.frozen? ⟨s,1,none⟩=false:=Blk.frozen h 1
theorem Three.f2(h:Three w s t v0 v1 v2):w.frozen? ⟨s,2,none⟩=false:=Blk.frozen h 2
theorem Three.lt(h:Three w s t v0 v1 v2):s<w.heap.size:=Blk.lt h
end
theorem khx7{w:World}{base:Nat}{e t:TypeId}{size n s:Nat}{v v0 v1 v2:Value}{xs:List Value}(h:w.ownsRow base e size v n xs)(hg:Three w s t v0 v1 v2)(hne:e≠t):v.ownBlock≠some s :=
 fun e=>kcj7 h hg hne e.symm
end PB
end
end Go.Proofs.YtnpcandaehejbaaGreat
