/-
  Which of the model's computations go hand in hand under a renaming: instructions and opera
-/

import Derived.Test.YtnpcandaehejbaaGreatSqV1
set_option linter.unusedVariables false
set_option linter.unusedSimpArgs false
set_option linter.unusedSectionVars false
set_option maxHeartbeats 6400000
set_option maxRecDepth 100000
namespace Go.Proofs.YtnpcandaehejbaaGreat
section
namespace Rn
open Go
section
variable {P:Program}{ρ:Ren P}
theorem khb7(o:BinOp)(k:IntKind)(x y:Int):Sim P ρ (VR ρ) (Op.intArith o k x y) (Op.intArith o k x y):=by
 unfold Op.intArith
 repeat' first
  | with_reducible exact Sim.stuck _
  | with_reducible exact Sim.pure (VR.int _ _)
  | split
theorem sim_intDiv(o:BinOp)(k:IntKind)(x y:Int):Sim P ρ (VR ρ) (Op.intDiv o k x y) (Op.intDiv o k x y):=by
 unfold Op.intDiv
 repeat' first
  | with_reducible exact Sim.stuck _
  | with_reducible exact Sim.rtPanic _
  | with_reducible exact Sim.pure (VR.int _ _)
  | (with_reducible refine Sim.ite ?_ ?_)
  | split
theorem sim_intBits(o:BinOp)(k:IntKind)(x y:Int):Sim P ρ (VR ρ) (Op.intBits o k x y) (Op.intBits o k x y):=by
 unfold Op.intBits
 repeat' first
  | with_reducible exact Sim.stuck _
  | with_reducible exact Sim.pure (VR.int _ _)
  | dsimp only
  | split
theorem sim_shift(o:BinOp)(k:IntKind)(x:Int)(j:IntKind)(y:Int):Sim P ρ (VR ρ) (Op.shift o k x j y) (Op.shift o k x j y):=by
 unfold Op.shift
 repeat' first
  | with_reducible exact Sim.stuck _
  | with_reducible exact Sim.rtPanic _
  | with_reducible exact Sim.pure (VR.int _ _)
  | dsimp only
  | (with_reducible refine Sim.ite ?_ ?_)
  | split
theorem sim_intCmp(o:BinOp)(x y:Int):Sim P ρ (VR ρ) (Op.intCmp o x y) (Op.intCmp o x y):=by
 unfold Op.intCmp
 repeat' first
  | with_reducible exact Sim.stuck _
  | with_reducible exact Sim.pure (VR.bool _)
  | split
theorem ker7(o:BinOp)(k:FloatKind)(x y:Nat):Sim P ρ (VR ρ) (Op.floatArith o k x y) (Op.floatArith o k x y):=by
 unfold Op.floatArith
 repeat' first
  | with_reducible exact Sim.stuckB _
  | (with_reducible refine Sim.bindE (Sim.choose _) ?_);intro _
  | with_reducible exact Sim.pure (VR.float _ _)
  | dsimp only
  | (with_reducible refine Sim.bindE (Sim.pure rfl) ?_);intro _
  | split
theorem khc7(o:BinOp)(k:FloatKind)(x y:Nat):Sim P ρ (VR ρ) (Op.floatCmp o k x y) (Op.floatCmp o k x y):=by
 unfold Op.floatCmp
 repeat' first
  | with_reducible exact Sim.stuck _
  | with_reducible exact Sim.pure (VR.bool _)
  | dsimp only
  | split
theorem keg7(o:BinOp)(x y:ByteArray):Sim P ρ (VR ρ) (Op.stringOp o x y) (Op.stringOp o x y):=by
 unfold Op.stringOp
 repeat' first
  | with_reducible exact Sim.stuck _
  | with_reducible exact Sim.unsup _
  | with_reducible exact Sim.pure (VR.bool _)
  | with_reducible exact Sim.pure (VR.string _)
  | dsimp only
  | (with_reducible refine Sim.ite ?_ ?_)
  | split
theorem kes7(o:BinOp)(k:FloatKind)(x y:Nat):Sim P ρ Eq (Op.Complex.arith o k x y) (Op.Complex.arith o k x y) :=
 Sim.bind (ker7 o k x y) fun a b h=>by cases h<;>first|exact Sim.pure rfl|exact Sim.stuck _
theorem sim_ccmp(o:BinOp)(k:FloatKind)(x y:Nat):Sim P ρ Eq (Op.Complex.cmp o k x y) (Op.Complex.cmp o k x y) :=
 Sim.bind (khc7 o k x y) fun a b h=>ken7 h
theorem kgi7(s:FloatKind)(b:Nat)(d:FloatKind):Sim P ρ (VR ρ) (Conv.floatToFloat s b d) (Conv.floatToFloat s b d):=by
 unfold Conv.floatToFloat
 repeat' first
  | (with_reducible refine Sim.bindE (Sim.choose _) ?_);intro _
  | with_reducible exact Sim.pure (VR.float _ _)
  | dsimp only
  | (with_reducible refine Sim.ite ?_ ?_)
  | split
theorem sim_cconv(s:FloatKind)(b:Nat)(d:FloatKind):Sim P ρ Eq (Op.Complex.conv s b d) (Op.Complex.conv s b d):=by
 unfold Op.Complex.conv
 split
 ·exact Sim.pure rfl
 ·exact Sim.bind (kgi7 s b d) fun a b h=>by cases h<;>first|exact Sim.pure rfl|exact Sim.stuck _
theorem sim_product(a b c d:Nat):Sim P ρ (Eq) (Op.Complex.product a b c d) (Op.Complex.product a b c d):=by
 unfold Op.Complex.product
 repeat' first
  | (with_reducible refine Sim.bindE (kes7 _ _ _ _) ?_);intro _
  | with_reducible exact Sim.pure rfl
theorem sim_corrected(s a b c d:Nat):Sim P ρ (Eq) (Op.Complex.corrected s a b c d) (Op.Complex.corrected s a b c d):=by
 unfold Op.Complex.corrected
 repeat' first
  | (with_reducible refine Sim.bindE (kes7 _ _ _ _) ?_);intro _
  | with_reducible exact Sim.pure rfl
theorem sim_quotient(a b c d:Nat):Sim P ρ (Eq) (Op.Complex.quotient a b c d) (Op.Complex.quotient a b c d):=by
 unfold Op.Complex.quotient
 repeat' first
  | with_reducible exact sim_corrected _ _ _ _ _
  | (with_reducible refine Sim.bindE (kes7 _ _ _ _) ?_);intro _
  | (with_reducible refine Sim.bindE (sim_ccmp _ _ _ _) ?_);intro _
  | with_reducible exact Sim.pure rfl
  | dsimp only
  | (with_reducible refine Sim.bindE (Sim.pure rfl) ?_);intro _
  | (with_reducible refine Sim.ite ?_ ?_)
theorem sim_complexOp(o:BinOp)(k:FloatKind)(a b c d:Nat):Sim P ρ (VR ρ) (Op.complexOp o k a b c d) (Op.complexOp o k a b c d):=by
 unfold Op.complexOp
 repeat' first
  | with_reducible exact Sim.stuck _
  | (with_reducible refine Sim.bindE (kes7 _ _ _ _) ?_);intro _
  | (with_reducible refine Sim.bindE (sim_ccmp _ _ _ _) ?_);intro _
  | (with_reducible refine Sim.bindE (sim_cconv _ _ _) ?_);intro _
  | (with_reducible refine Sim.bindE (sim_product _ _ _ _) ?_);intro _
  | (with_reducible refine Sim.bindE (sim_quotient _ _ _ _) ?_);intro _
  | with_reducible exact Sim.pure (VR.bool _)
  | with_reducible exact Sim.pure (VR.complex _ _ _)
  | dsimp only
  | (with_reducible refine Sim.ite ?_ ?_)
  | split
theorem sim_unary(o:UnOp){x x':Value}(h:VR ρ x x'):Sim P ρ (VR ρ) (Op.unary o x) (Op.unary o x'):=by
 unfold Op.unary;cases o<;>cases h<;>first
  | exact Sim.stuck _
  | exact Sim.unsup _
  | exact khb7 _ _ _ _
  | exact sim_intBits _ _ _ _
  | exact Sim.pure (.bool _)
  | exact Sim.pure (.float _ _)
  | exact Sim.pure (.complex _ _ _)
theorem sim_loadAt(t:TypeId){a a':Value}(h:VR ρ a a'):Sim P ρ (VR ρ) (Instr.loadAt t a) (Instr.loadAt t a'):=Sim.bind (kbm7 h) fun x y hx=>kdp7 t hx
theorem sim_storeAt(t:TypeId){a a' v v':Value}(h:VR ρ a a')(hv:VR ρ v v'):Sim P ρ (fun _ _=>True) (Instr.storeAt t a v) (Instr.storeAt t a' v'):=Sim.bind (kbm7 h) fun x y hx=>sim_storeVar t hx hv
theorem sim_fieldAt(t:TypeId){a a':Value}(h:VR ρ a a')(f:Nat):Sim P ρ (VR ρ) (Instr.fieldAt t a f) (Instr.fieldAt t a' f):=by
 refine Sim.bindE (kd7 t) fun d=>?_
 split
 ·split
  ·exact Sim.bind (kbm7 h) fun x y hx=>Sim.bind (kcq7 hx _) fun u v hu=>Sim.pure (.pointer hu)
  ·exact Sim.stuck _
 ·exact Sim.stuck _
def OA(ρ:Ren P)(x y:Option Addr):Prop:=(x=none∧y=none)∨∃ a a',x=some a∧y=some a'∧AR ρ a a'
def OV(ρ:Ren P)(x y:Option Value):Prop:=(x=none∧y=none)∨∃ a a',x=some a∧y=some a'∧VR ρ a a'
theorem VR.slc{x y:Option Addr}(h:OA ρ x y)(l c:Nat):VR ρ (.slice x l c) (.slice y l c):=by
 rcases h with⟨rfl,rfl⟩|⟨a,a',rfl,rfl,h⟩
 ·exact .snone _ _
 ·exact .slice _ _ h
def DeadV(ρ:Ren P)(x x':Value):Prop:=∃ a a',x=.slice (some a) 0 0∧x'=.slice (some a') 0 0∧ρ.dead a a'
theorem VR.isSlice{x x':Value}(h:VR ρ x x'):(∃ o o' l c,x=.slice o l c∧x'=.slice o' l c∧OA ρ o o')∨((∀ o l c,x≠.slice o l c)∧True)∨DeadV ρ x x':=by
 cases h with
 | snone l c=>exact .inl ⟨_,_,_,_,rfl,rfl,.inl ⟨rfl,rfl⟩⟩
 | slice l c h=>exact .inl ⟨_,_,_,_,rfl,rfl,.inr ⟨_,_,rfl,rfl,h⟩⟩
 | dead h=>exact .inr (.inr ⟨_,_,rfl,rfl,h⟩)
 | _=>exact .inr (.inl ⟨by simp,by simp⟩)
theorem sim_indexAt(t:TypeId){x x' i i':Value}(h:VR ρ x x')(hi:VR ρ i i'):Sim P ρ (VR ρ) (Instr.indexAt t x i) (Instr.indexAt t x' i'):=by
 unfold Instr.indexAt;refine Sim.bindE (kch7 hi) fun ki=>?_;obtain⟨k,n⟩:=ki;dsimp only;refine Sim.bindE (kd7 t) fun d=>?_;have rest:∀ (base base':Option Addr) (len:Nat) (elem:TypeId) (b:Bool),OA ρ base base' →
   Sim P ρ (VR ρ) (match base with
    | some a=>if 0≤n∧n<len then(do pure (.pointer (some (a.add (n.toNat*(←sizeOf elem)))))) else if b then unsupported (.noEntry "op/indexAddr.an index out of range at an array of length 0 or 1 (ledger 616)") else boundsPanic k n len .index
    | none=>boundsPanic k n 0 .index) (match base' with
    | some a=>if 0≤n∧n<len then(do pure (.pointer (some (a.add (n.toNat*(←sizeOf elem)))))) else if b then unsupported (.noEntry "op/indexAddr.an index out of range at an array of length 0 or 1 (ledger 616)") else boundsPanic k n len .index
    | none=>boundsPanic k n 0 .index):=by
  intro base base' len elem b hb;rcases hb with⟨rfl,rfl⟩|⟨a,a',rfl,rfl,ha⟩
  ·exact Sim.bdPanic _ _ _ _
  ·exact Sim.ite (Sim.bindE (ko7 _) fun s=>Sim.pure (.pointer (ha.add _))) (Sim.ite (Sim.unsup _) (Sim.bdPanic _ _ _ _))
 have other:∀ d:TypeDesc,(∀ e,d≠.slice e)→(∀ n e,d≠.array n e)→∀ x:Value,(match d,x with
   | .array len elem,x=>do pure (some (←Instr.sureAddr x),len,elem)
   | .slice elem,.slice base len _=>pure (base,len,elem)
   | _,_=>stuck "indexAddr: an array's address or a slice expected":Sem (Option Addr×Nat×TypeId))=stuck "indexAddr: an array's address or a slice expected":=by
  intro d h1 h2 x;cases d<;>first
   | exact absurd rfl (h1 _)
   | exact absurd rfl (h2 _ _)
   | rfl
 cases d with
 | array len elem =>
  refine Sim.bind (kbm7 h) fun a a' ha=>?_;refine Sim.bind (R:=fun x y=>x=(some a,len,elem)∧y=(some a',len,elem)) (Sim.pure ⟨rfl,rfl⟩) fun p q e=>?_;obtain⟨rfl,rfl⟩:=e;refine Sim.bindE (kd7 t) fun d2=>?_;exact rest (some a) (some a') len elem _ (.inr ⟨a,a',rfl,rfl,ha⟩)
 | slice elem =>
  rcases h.isSlice with⟨o,o',l,c,rfl,rfl,ho⟩|⟨n1,n2⟩|⟨a,a',rfl,rfl,hd⟩
  rotate_left 2
  ·refine Sim.bind (R:=fun x y=>x=(some a,0,elem)∧y=(some a',0,elem)) (Sim.pure ⟨rfl,rfl⟩) fun p q e=>?_;obtain⟨rfl,rfl⟩:=e;refine Sim.bindE (kd7 t) fun d2=>?_;dsimp only;rw[if_neg (show ¬(0≤n∧n<((0:Nat):Int)) by omega),if_neg (show ¬(0≤n∧n<((0:Nat):Int)) by omega)];exact Sim.ite (Sim.unsup _) (Sim.bdPanic _ _ _ _)
  ·refine Sim.bind (R:=fun x y=>x=(o,l,elem)∧y=(o',l,elem)) (Sim.pure ⟨rfl,rfl⟩) fun p q e=>?_;obtain⟨rfl,rfl⟩:=e;refine Sim.bindE (kd7 t) fun d2=>?_;exact rest o o' l elem _ ho
  ·cases x<;>first
    | exact absurd rfl (n1 _ _ _)
    | exact Sim.stuckB _
 | _=>cases x<;>exact Sim.stuckB _
theorem sim_sliceBound{x x':Value}(h:VR ρ x x')(n:Nat)(c:BoundsCode):Sim P ρ Eq (Instr.sliceBound x n c) (Instr.sliceBound x' n c) :=
 Sim.bindE (kch7 h) fun ki=>Sim.ite (Sim.pure rfl) (Sim.bdPanic _ _ _ _)
theorem kce7(b:Bool)(len cap:Nat){x x' y y' z z':Option Value}(hx:OV ρ x x')(hy:OV ρ y y')(hz:OV ρ z z'):Sim P ρ Eq (Instr.sliceBounds b len cap x y z) (Instr.sliceBounds b len cap x' y' z'):=by
 unfold Instr.sliceBounds;rcases hx with⟨rfl,rfl⟩|⟨v,v',rfl,rfl,hv⟩<;>rcases hy with⟨rfl,rfl⟩|⟨u,u',rfl,rfl,hu⟩<;>rcases hz with⟨rfl,rfl⟩|⟨q,q',rfl,rfl,hq⟩ <;>
  dsimp only<;>(repeat' first
   | with_reducible exact Sim.stuckB _
   | ((with_reducible refine Sim.bindE (sim_sliceBound (by assumption) _ _) ?_);intro _)
   | ((with_reducible refine Sim.bindE (Sim.pure rfl) ?_);intro _)
   | with_reducible exact Sim.pure rfl
   | dsimp only)
theorem sim_sliceBound0{x x':Value}(h:VR ρ x x')(c:BoundsCode):Sim P ρ (fun a b=>a=0∧b=0) (Instr.sliceBound x 0 c) (Instr.sliceBound x' 0 c) :=
 Sim.bindE (kch7 h) fun ki=>by
  obtain⟨k,i⟩:=ki;dsimp only
  split
  ·exact Sim.pure (by constructor<;>omega)
  ·exact Sim.bdPanic _ _ _ _
theorem khd7(b:Bool){x x' y y' z z':Option Value}(hx:OV ρ x x')(hy:OV ρ y y')(hz:OV ρ z z'):Sim P ρ (fun r r'=>r=(0,0,0)∧r'=(0,0,0)) (Instr.sliceBounds b 0 0 x y z) (Instr.sliceBounds b 0 0 x' y' z'):=by
 unfold Instr.sliceBounds;rcases hx with⟨rfl,rfl⟩|⟨v,v',rfl,rfl,hv⟩<;>rcases hy with⟨rfl,rfl⟩|⟨u,u',rfl,rfl,hu⟩<;>rcases hz with⟨rfl,rfl⟩|⟨q,q',rfl,rfl,hq⟩ <;>
  dsimp only<;>(repeat' first
   | with_reducible exact Sim.stuckB _
   | ((with_reducible refine Sim.bind (sim_sliceBound0 (by assumption) _) ?_);rintro _ _ ⟨rfl,rfl⟩)
   | ((with_reducible refine Sim.bind (R:=fun a b=>a=0∧b=0) (Sim.pure ⟨rfl,rfl⟩) ?_);rintro _ _ ⟨rfl,rfl⟩)
   | with_reducible exact Sim.pure ⟨rfl,rfl⟩
   | dsimp only)
theorem OA.add{x y:Option Addr}(h:OA ρ x y)(n:Nat):OA ρ (x.map fun a:Addr=>a.add n) (y.map fun a:Addr=>a.add n):=by
 rcases h with⟨rfl,rfl⟩|⟨a,a',rfl,rfl,h⟩
 ·exact .inl ⟨rfl,rfl⟩
 ·exact .inr ⟨_,_,rfl,rfl,h.add n⟩
theorem OA.ite{x y u v:Option Addr}(h:OA ρ x y)(k:OA ρ u v)(c:Prop)[Decidable c]:OA ρ (if c then x else u) (if c then y else v):=by split<;>assumption
theorem OV.isSome{x y:Option Value}(h:OV ρ x y):y.isSome=x.isSome:=by
 rcases h with⟨rfl,rfl⟩|⟨a,a',rfl,rfl,h⟩<;>rfl
theorem sim_slice(t:TypeId){v v':Value}{x x' y y' z z':Option Value}(hv:VR ρ v v')(hx:OV ρ x x')(hy:OV ρ y y')(hz:OV ρ z z'):Sim P ρ (VR ρ) (Instr.slice t v x y z) (Instr.slice t v' x' y' z'):=by
 unfold Instr.slice;refine Sim.bindE (kd7 t) fun d=>?_;have hb:=fun b l c=>kce7 (P:=P) b l c hx hy hz;have hb0:=fun b l c=>kce7 (P:=P) b l c hx hy (.inl ⟨rfl,rfl⟩);cases d with
 | string =>
  cases hv with
  | string s =>
   dsimp only;rw[hz.isSome]
   split
   ·exact Sim.stuckB _
   ·exact Sim.bindE (hb0 _ _ _) fun r=>Sim.pure (.string _)
  | _=>exact Sim.stuck _
 | slice elem =>
  rcases hv.isSlice with⟨o,o',l,c,rfl,rfl,ho⟩|⟨n1,n2⟩|⟨a,a',rfl,rfl,hd⟩
  rotate_left 2
  ·refine Sim.bind (khd7 (P:=P) true hx hy hz) fun r r' e=>?_;obtain⟨rfl,rfl⟩:=e;exact Sim.bindE (ko7 _) fun s=>Sim.pure (.dead hd)
  ·refine Sim.bindE (hb _ _ _) fun r=>?_;obtain⟨r1,r2,r3⟩:=r;refine Sim.bindE (ko7 _) fun s=>Sim.pure (VR.slc ?_ _ _);exact ho.ite (ho.add _) _
  ·cases v<;>first
    | exact absurd rfl (n1 _ _ _)
    | exact Sim.stuck _
 | pointer arr =>
  refine Sim.bind (keo7 hv) fun a a' ha=>Sim.bindE (kd7 arr) fun d=>?_
  split
  ·refine Sim.bindE (hb _ _ _) fun r=>?_;obtain⟨r1,r2,r3⟩:=r;refine Sim.bindE (ko7 _) fun s=>Sim.pure ?_;refine .slice _ _ ?_
   split
   ·exact ha
   ·exact ha.add _
  ·exact Sim.stuck _
 | _=>exact Sim.stuck _
theorem sim_sliceAt(t:TypeId){v v':Value}{x x' y y' z z':Option Value}(hv:VR ρ v v')(hx:OV ρ x x')(hy:OV ρ y y')(hz:OV ρ z z'):Sim P ρ (VR ρ) (Instr.sliceAt t v x y z) (Instr.sliceAt t v' x' y' z'):=by
 unfold Instr.sliceAt;refine Sim.bindE (kd7 t) fun d=>?_;cases d with
 | array n elem =>
  refine Sim.bind (kbm7 hv) fun a a' ha=>Sim.bindE (kce7 _ _ _ hx hy hz) fun r=>?_;obtain⟨r1,r2,r3⟩:=r;refine Sim.bindE (ko7 _) fun s=>Sim.pure ?_;refine .slice _ _ ?_
  split
  ·exact ha
  ·exact ha.add _
 | _=>exact sim_slice t hv hx hy hz
theorem sim_alloc(hz:Zeros P)(t:TypeId):Sim P ρ (VR ρ) (Instr.alloc t true (.tuple #[])) (Instr.alloc t true (.tuple #[])) :=
 Sim.bind (kj7 hz t) fun z z' e=>by
  obtain⟨rfl,h⟩:=e;exact Sim.bind (sim_newVar t h.vr) fun a a' ha=>Sim.pure (.pointer ha)
theorem sim_box(t:TypeId){v v':Value}(h:VR ρ v v'):Sim P ρ (VR ρ) (Instr.box t v) (Instr.box t v'):=Sim.bind (sim_newVar t h) fun a a' ha=>Sim.pure (.pointer ha)
theorem kgj7(t:TypeId){v v':Value}(h:VR ρ v v'):Sim P ρ (VR ρ) (Instr.makeInterface t v) (Instr.makeInterface t v') :=
 Sim.bindE (kd7 t) fun d=>by split<;>first|exact Sim.stuck _|exact Sim.pure (.iface t h)
theorem sim_makeFunc{f:Nat}(hf:ρ.ok f){x x' y y':Array Value}(hx:ARR ρ x x')(hy:ARR ρ y y'):Sim P ρ (VR ρ) (Instr.makeFunc (.func f) x y) (Instr.makeFunc (.func f) x' y'):=Sim.pure (.func hf hx.size hx.get hy.size hy.get)
theorem EAR.nil:EAR ρ #[] #[]:=⟨rfl,fun i e e' h=>by simp at h⟩
theorem sim_makeMap(t:TypeId){x x':Option Value}(h:OV ρ x x'):Sim P ρ (VR ρ) (Instr.makeMap t x) (Instr.makeMap t x'):=by
 unfold Instr.makeMap;have last:Sim P ρ (VR ρ) (newObj (.map #[] 0) >>= fun r=>(pure (.map (some r)):Sem Value)) (newObj (.map #[] 0) >>= fun r=>(pure (.map (some r)):Sem Value)) :=
  Sim.bind (Sim.newObj (.map 0 EAR.nil)) fun r r' hr=>Sim.pure (.map hr.1)
 rcases h with⟨rfl,rfl⟩|⟨v,v',rfl,rfl,hv⟩
 ·exact last
 ·refine Sim.bindE (kd7 t) fun d=>?_
  split
  ·exact Sim.bindE (kbg7 hv) fun n=>last
  ·exact Sim.stuckB _
theorem sim_field(t:TypeId){v v':Value}(h:VR ρ v v')(i:Nat):Sim P ρ (VR ρ) (Instr.field t v i) (Instr.field t v' i) :=
 Sim.bindE (kd7 t) fun d=>by
  split
  ·split
   ·exact Sim.bind (sim_asAgg h) fun x y hx=>kcp7 _ hx _
   ·exact Sim.stuck _
  ·exact Sim.stuck _
theorem sim_index(t:TypeId){v v' i i':Value}(h:VR ρ v v')(hi:VR ρ i i'):Sim P ρ (VR ρ) (Instr.index t v i) (Instr.index t v' i'):=by
 unfold Instr.index;refine Sim.bindE (kch7 hi) fun ki=>Sim.bindE (kd7 t) fun d=>?_;cases d with
 | array len elem =>
  cases h with
  | agg h1 h2=>exact Sim.ite (Sim.bindE (ko7 _) fun s=>kcp7 _ ⟨h1,h2⟩ _) (Sim.bdPanic _ _ _ _)
  | _=>exact Sim.stuck _
 | string =>
  cases h with
  | string s =>
   dsimp only
   split<;>first|exact Sim.pure (.int _ _)|exact Sim.bdPanic _ _ _ _
  | _=>exact Sim.stuck _
 | _=>exact Sim.stuck _
theorem sim_extract{v v':Value}(h:VR ρ v v')(i:Nat):Sim P ρ (VR ρ) (Instr.extract v i) (Instr.extract v' i):=by
 cases h with
 | tuple h1 h2 =>
  unfold Instr.extract;dsimp only;rcases ARR.get? ⟨h1,h2⟩ i with⟨e1,e2⟩|⟨x,x',e1,e2,hx⟩
  ·rw[e1];exact Sim.stuck _
  ·rw[e1,e2];exact Sim.pure hx
 | _=>exact Sim.stuck _
def PR(ρ:Ren P)(l l':List (Nat×Value)):Prop:=l.length=l'.length∧∀ (i:Nat) (x y:Nat×Value),l[i]?=some x→l'[i]?=some y→x.1=y.1∧VR ρ x.2 y.2
theorem PR.tail{x y:Nat×Value}{l l':List (Nat×Value)}(h:PR ρ (x::l) (y::l')):PR ρ l l':=⟨by simpa using h.1,fun i u v h1 h2=>h.2 (i+1) u v (by simpa using h1) (by simpa using h2)⟩
theorem PR.head{x y:Nat×Value}{l l':List (Nat×Value)}(h:PR ρ (x::l) (y::l')):x.1=y.1∧VR ρ x.2 y.2:=h.2 0 x y rfl rfl
theorem foldl_set:∀ (l l':List (Value×Nat)) (c c':Array Value) (off:Nat),ARR ρ c c'→l.length=l'.length→(∀ (i:Nat) (x y:Value×Nat),l[i]?=some x→l'[i]?=some y→VR ρ x.1 y.1∧x.2=y.2) →
  ARR ρ (l.foldl (fun cs (x:Value×Nat)=>cs.setIfInBounds (off+x.2) x.1) c) (l'.foldl (fun cs (x:Value×Nat)=>cs.setIfInBounds (off+x.2) x.1) c')
 | [],[],c,c',off,hc,_,_=>hc
 | x::l,y::l',c,c',off,hc,hl,h=>by
  simp only[List.foldl_cons];obtain⟨h1,h2⟩:=h 0 x y rfl rfl;rw[←h2];exact foldl_set l l' _ _ off (hc.set _ h1) (by simpa using hl) fun i u v e1 e2=>h (i+1) u v (by simpa using e1) (by simpa using e2)
 | [],_::_,_,_,_,_,hl,_=>by simp at hl
 | _::_,[],_,_,_,_,hl,_=>by simp at hl
theorem fill_rel(place:Nat→Option (Nat×Nat)):∀ (l l':List (Nat×Value)) (c c':Array Value),PR ρ l l'→ARR ρ c c' →
  (Instr.fill place c l=none∧Instr.fill place c' l'=none)∨∃ d d',Instr.fill place c l=some d∧Instr.fill place c' l'=some d'∧ARR ρ d d'
 | [],[],c,c',_,hc=>.inr ⟨c,c',rfl,rfl,hc⟩
 | (i,v)::l,(j,v')::l',c,c',h,hc=>by
  obtain⟨e,hv⟩:=h.head;simp only at e hv;subst e;unfold Instr.fill;cases place i with
  | none=>exact .inl ⟨rfl,rfl⟩
  | some os =>
   obtain⟨off,size⟩:=os;simp only[←hv.cells.size,←hc.size]
   split
   ·exact .inl ⟨rfl,rfl⟩
   ·refine fill_rel place l l' _ _ h.tail ?_;rw[←Array.foldl_toList,←Array.foldl_toList];refine foldl_set _ _ c c' off hc (by simp[hv.cells.size]) fun i x y h1 h2=>?_;simp only[Array.toList_zipIdx,List.getElem?_zipIdx,Option.map_eq_some_iff,Array.getElem?_toList] at h1 h2;obtain⟨a,h1,rfl⟩:=h1;obtain⟨b,h2,rfl⟩:=h2;exact⟨hv.cells.get i a b h1 h2,rfl⟩
 | [],_::_,_,_,h,_=>by simp[PR] at h
 | _::_,[],_,_,h,_=>by simp[PR] at h
theorem sim_mapFields(l:Array Field):Sim P ρ Eq (l.mapM fun f=>do pure (f.offset,←sizeOf f.type)) (l.mapM fun f=>do pure (f.offset,←sizeOf f.type)):=by
 rw[Array.mapM_eq_mapM_toList];refine Sim.bindE ?_ fun x=>Sim.pure rfl;generalize l.toList=l
 induction l with
 | nil=>simpa using Sim.pure rfl
 | cons a l ih =>
  rw[List.mapM_cons];exact Sim.bindE (Sim.bindE (ko7 _) fun n=>Sim.pure rfl) fun b=>Sim.bindE ih fun bs=>Sim.pure rfl
theorem sim_build(hz:Zeros P)(t:TypeId){l l':Array (Nat×Value)}(h:PR ρ l.toList l'.toList):Sim P ρ (VR ρ) (Instr.build t l) (Instr.build t l'):=by
 unfold Instr.build;refine Sim.bind (kj7 hz t) fun z z' e=>?_;obtain⟨rfl,hp⟩:=e;dsimp only;refine Sim.bindE (kd7 t) fun d=>?_;cases d with
 | struct fields =>
  refine Sim.bindE (sim_mapFields _) fun places=>?_;rcases fill_rel (places[·]?) _ _ z.cells z.cells h (ARR.of_plain hp.cells) with⟨e1,e2⟩|⟨c,c',e1,e2,hc⟩
  ·rw[e1];exact Sim.stuck _
  ·rw[e1,e2];exact Sim.pure (VR.agg' hc)
 | array n elem =>
  refine Sim.bindE (ko7 _) fun size=>?_;rcases fill_rel (fun i=>some (i*size,size)) _ _ z.cells z.cells h (ARR.of_plain hp.cells) with⟨e1,e2⟩|⟨c,c',e1,e2,hc⟩
  ·rw[e1];exact Sim.stuck _
  ·rw[e1,e2];exact Sim.pure (VR.agg' hc)
 | _=>exact Sim.stuck _
theorem zero_row{z:Array Value}(hz:∀ (i:Nat) (v:Value),z[i]?=some v→Plain v)(n:Nat):∀ (i:Nat) (v:Value),((Array.range n).map (fun i=>z[i % z.size]!))[i]?=some v→Plain v:=by
 intro i v h;rw[Array.getElem?_map] at h;obtain⟨j,_,rfl⟩:=Option.map_eq_some_iff.1 h;by_cases hj:j % z.size<z.size
 ·rw[getElem!_pos z _ hj];exact hz _ _ (Array.getElem?_eq_getElem hj)
 ·rw[getElem!_neg z _ hj];exact .bool _
theorem sim_zeroK(hz:Zeros P){b:Prop}[Decidable b]{t:TypeId}{α β:Type}{R:α→β→Prop}{f:Array Value→Sem α}{f':Array Value→Sem β}(h:∀ z:Array Value,(∀ (i:Nat) (v:Value),z[i]?=some v→Plain v)→Sim P ρ R (f z) (f' z)) :
  Sim P ρ R (if b then(pure #[]:Sem (Array Value)) >>= f else zeroValue t >>= fun v=>(pure v.cells:Sem (Array Value)) >>= f) (if b then(pure #[]:Sem (Array Value)) >>= f' else zeroValue t >>= fun v=>(pure v.cells:Sem (Array Value)) >>= f'):=by
 refine Sim.ite (h #[] fun i v h=>by simp at h) ?_;refine Sim.bind (kj7 hz t) fun z z' e=>?_;obtain⟨rfl,hp⟩:=e;exact h z.cells hp.cells
theorem sim_buildSlice(hz:Zeros P)(t:TypeId)(n:Nat){l l':Array (Nat×Value)}(h:PR ρ l.toList l'.toList):Sim P ρ (VR ρ) (Instr.buildSlice t n l) (Instr.buildSlice t n l'):=by
 unfold Instr.buildSlice;refine Sim.bindE (kd7 t) fun d=>?_;cases d with
 | slice elem =>
  refine Sim.bindE (ko7 _) fun size=>?_;dsimp only
  split
  ·exact Sim.unsupB _
  ·refine sim_zeroK hz fun z hp=>?_;rcases fill_rel (fun i=>some (i*size,size)) _ _ _ _ h (ARR.of_plain (zero_row hp (n*size))) with⟨e1,e2⟩|⟨c,c',e1,e2,hc⟩
   ·rw[e1];exact Sim.stuck _
   ·rw[e1,e2];exact Sim.bind (kw7 _ hc) fun a a' ha=>Sim.pure (.slice _ _ ha)
 | _=>exact Sim.stuck _
theorem sim_makeSlice(hz:Zeros P)(t:TypeId){a a' b b':Value}(ha:VR ρ a a')(hb:VR ρ b b'):Sim P ρ (VR ρ) (Instr.makeSlice t a b) (Instr.makeSlice t a' b'):=by
 unfold Instr.makeSlice;refine Sim.bindE (kd7 t) fun d=>?_;cases d with
 | slice elem =>
  refine Sim.bindE (kbg7 ha) fun len=>Sim.bindE (kbg7 hb) fun cap=>Sim.bindE (kab7 _) fun i=>?_;dsimp only
  split
  ·refine Sim.doom ?_
   split
   ·exact Doom.bind (Doom.runtimePanic _)
   ·split
    ·exact Doom.bind (Doom.runtimePanic _)
    ·exact Doom.after (Calm.choose _) fun n=>Doom.bind (Doom.runtimePanic _)
  ·refine Sim.bind (kz7 _) fun _ _ _=>Sim.bindE (ko7 _) fun size=>?_;refine sim_zeroK hz fun z hp=>?_;exact Sim.bind (kw7 _ (ARR.of_plain (zero_row hp _))) fun a a' ha=>Sim.pure (.slice _ _ ha)
 | _=>exact Sim.stuck _
end
end Rn
end
section
namespace Rn
open Go
section
variable {P:Program}{ρ:Ren P}
theorem Sim.forArr{σ τ α β:Type}{R:α→β→Prop}{f:σ→τ→Sem (ForInStep τ)}{f':σ→τ→Sem (ForInStep τ)}{K:τ→Sem α}{K':τ→Sem β}(l:Array σ)(b:τ)
  (h:∀ a b,Sim P ρ (fun x y=>(∃ u v,x=.done u∧y=.done v∧u=v)∨∃ u v,x=.yield u∧y=.yield v∧u=v) (f a b) (f' a b)) (hK:∀ r,Sim P ρ R (K r) (K' r)) :
  Sim P ρ R (forIn l b f >>= K) (forIn l b f' >>= K'):=by
 rw[←Array.forIn_toList,←Array.forIn_toList];exact Sim.bindE (Sim.forList (fun a b b' e=>by subst e;exact h a b) _ _ _ rfl) hK
theorem Sim.forRange{τ α β:Type}{R:α→β→Prop}{f:Nat→τ→Sem (ForInStep τ)}{f':Nat→τ→Sem (ForInStep τ)}{K:τ→Sem α}{K':τ→Sem β}(n:Nat)(b:τ)
  (h:∀ a b,Sim P ρ (fun x y=>(∃ u v,x=.done u∧y=.done v∧u=v)∨∃ u v,x=.yield u∧y=.yield v∧u=v) (f a b) (f' a b)) (hK:∀ r,Sim P ρ R (K r) (K' r)) :
  Sim P ρ R (forIn [0:n] b f >>= K) (forIn [0:n] b f' >>= K'):=by
 rw[Std.Legacy.Range.forIn_eq_forIn_range',Std.Legacy.Range.forIn_eq_forIn_range'];exact Sim.bindE (Sim.forList (fun a b b' e=>by subst e;exact h a b) _ _ _ rfl) hK
theorem sim_equalIn:∀ (d:Nat) (t:TypeId) {x x' y y':Value},VR ρ x x'→VR ρ y y'→Sim P ρ Eq (Op.equalIn d t x y) (Op.equalIn d t x' y')
 | 0,t,_,_,_,_,_,_=>Sim.unsup _
 | d+1,t,x,x',y,y',hx,hy=>by
  have ih:=sim_equalIn d;unfold Op.equalIn;refine Sim.bindE (kd7 t) fun k=>?_;cases k with
  | bool=>cases hx<;>first|exact Sim.stuck _|(cases hy<;>first|exact Sim.pure rfl|exact Sim.stuck _)
  | string=>cases hx<;>first|exact Sim.stuck _|(cases hy<;>first|exact Sim.pure rfl|exact Sim.stuck _)
  | float _=>cases hx<;>first|exact Sim.stuck _|(cases hy<;>first|exact Sim.ite (Sim.pure rfl) (Sim.stuck _)|exact Sim.stuck _)
  | complex _=>cases hx<;>first|exact Sim.stuck _|(cases hy<;>first|exact Sim.ite (Sim.pure rfl) (Sim.stuck _)|exact Sim.stuck _)
  | chan _ _=>cases hx<;>first|exact Sim.stuck _|(cases hy<;>first|exact Sim.pure rfl|exact Sim.stuck _)
  | slice _=>cases hx<;>first|exact Sim.stuck _|(cases hy<;>first|exact Sim.pure rfl|exact Sim.stuck _)
  | map _ _=>cases hx<;>first|exact Sim.stuck _|(cases hy<;>first|exact Sim.pure rfl|exact Sim.stuck _)
  | func _ _ _=>cases hx<;>first|exact Sim.stuck _|(cases hy<;>first|exact Sim.pure rfl|exact Sim.stuck _)
  | unsafePointer =>
   cases hx<;>first
    | exact Sim.stuck _
    | (cases hy<;>first
      | exact Sim.stuck _
      | exact kaz7 (.inl ⟨rfl,rfl⟩) (.inl ⟨rfl,rfl⟩)
      | exact kaz7 (.inl ⟨rfl,rfl⟩) (.inr ⟨_,_,rfl,rfl,by assumption⟩)
      | exact kaz7 (.inr ⟨_,_,rfl,rfl,by assumption⟩) (.inl ⟨rfl,rfl⟩)
      | (rename_i h1 _ _ h2;exact kaz7 (.inr ⟨_,_,rfl,rfl,h1⟩) (.inr ⟨_,_,rfl,rfl,h2⟩)))
  | pointer elem =>
   cases hx with
   | pnone=>cases hy<;>first|exact Sim.pure rfl|exact Sim.stuck _
   | @pointer a a' ha =>
    cases hy with
    | pnone=>exact Sim.pure rfl
    | @pointer b b' hb =>
     refine Sim.bindE (ko7 _) fun n=>?_;refine Sim.ite (kgz7 ha hb) ?_;rw[ha.beq hb];exact Sim.ite (Sim.pure rfl) (Sim.bindE (Sim.choose _) fun n=>Sim.pure rfl)
    | _=>exact Sim.stuck _
   | _=>cases y<;>cases hy<;>exact Sim.stuck _
  | int ik =>
   cases hx with
   | int k n =>
    cases hy with
    | int k' m=>exact Sim.ite (Sim.pure rfl) (Sim.stuck _)
    | pnone=>rcases n with(_|n)|n<;>exact Sim.unsup _
    | pointer h=>rcases n with(_|n)|n<;>first|exact Sim.pure rfl|exact Sim.unsup _
    | _=>rcases n with(_|n)|n<;>exact Sim.stuck _
   | pnone=>cases hy<;>exact Sim.unsup _
   | @pointer a a' ha =>
    cases hy with
    | int k' n=>rcases n with(_|n)|n<;>first|exact Sim.pure rfl|exact Sim.unsup _
    | @pointer b b' hb =>
     refine Sim.bind (kt7 ha) fun p p' hp=>Sim.bind (kt7 hb) fun q q' hq=>?_;refine Sim.progB ?_;have n1:((p.1.block == q.1.block) && decide (p.1.block<P.globals.size))=false:=by
      have:=(ρ.low hp.1.block).1;simp only[Bool.and_eq_false_iff,decide_eq_false_iff_not];exact .inr (by omega)
     have n2:((p'.1.block == q'.1.block) && decide (p'.1.block<P.globals.size))=false:=by
      have:=(ρ.low hp.1.block).2;simp only[Bool.and_eq_false_iff,decide_eq_false_iff_not];exact .inr (by omega)
     rw[n1,n2];refine Sim.bindE (kab7 _) fun i=>?_
     split
     ·rw[hp.1.beq hq.1];exact Sim.ite (Sim.pure rfl) (Sim.unsup _)
     ·exact Sim.unsup _
    | _=>exact Sim.unsup _
   | _=>cases hy<;>first|exact Sim.stuck _|exact Sim.unsup _
  | interface ms =>
   cases hx with
   | nilIface=>cases hy<;>first|exact Sim.pure rfl|exact Sim.stuck _
   | iface tx hv =>
    cases hy with
    | nilIface=>exact Sim.pure rfl
    | iface ty hw =>
     refine Sim.ite (Sim.pure rfl) (Sim.bindE (kab7 _) fun i=>?_);refine Sim.ite ?_ (ih _ hv hw);refine Sim.doom ?_;refine Doom.after Calm.program fun p=>Doom.after Calm.program fun q=>?_;dsimp only
     split
     ·exact Doom.bind (Doom.unsup _)
     ·refine Doom.after ?_ fun s=>Doom.runtimePanic _;unfold typeStr;refine Calm.bind (Calm.bind Calm.program fun p=>by
       split
       ·exact Calm.pure _
       ·exact(Doom.stuck _).calm) fun i=>?_
      dsimp only
      split
      ·exact(Doom.unsup _).calm
      ·exact Calm.pure _
    | _=>exact Sim.stuck _
   | _=>cases y<;>cases hy<;>exact Sim.stuck _
  | struct fields =>
   cases hx with
   | agg h1 h2 =>
    cases hy with
    | agg k1 k2 =>
     have a1:=ARR.mk (ρ:=ρ) h1 h2;have a2:=ARR.mk (ρ:=ρ) k1 k2;refine Sim.progB ?_;dsimp only
     split
     ·exact Sim.unsupB _
     ·refine Sim.forArr _ _ (fun f r=>?_) fun r=>?_
      ·repeat' first
        | with_reducible exact Sim.pure (.inl ⟨_,_,rfl,rfl,rfl⟩)
        | with_reducible exact Sim.pure (.inr ⟨_,_,rfl,rfl,rfl⟩)
        | ((with_reducible refine Sim.bind (kcp7 _ (by assumption) _) ?_);intro _ _ _)
        | ((with_reducible refine Sim.bindE (ih _ (by assumption) (by assumption)) ?_);intro _)
        | (with_reducible refine Sim.ite ?_ ?_)
      ·obtain⟨r1,r2⟩:=r;cases r1<;>exact Sim.pure rfl
    | _=>exact Sim.stuck _
   | _=>cases y<;>cases hy<;>exact Sim.stuck _
  | array len elem =>
   cases hx with
   | agg h1 h2 =>
    cases hy with
    | agg k1 k2 =>
     have a1:=ARR.mk (ρ:=ρ) h1 h2;have a2:=ARR.mk (ρ:=ρ) k1 k2;refine Sim.bindE (ko7 _) fun n=>Sim.forRange _ _ (fun f r=>?_) fun r=>?_
     ·repeat' first
       | with_reducible exact Sim.pure (.inl ⟨_,_,rfl,rfl,rfl⟩)
       | with_reducible exact Sim.pure (.inr ⟨_,_,rfl,rfl,rfl⟩)
       | ((with_reducible refine Sim.bind (kcp7 _ (by assumption) _) ?_);intro _ _ _)
       | ((with_reducible refine Sim.bindE (ih _ (by assumption) (by assumption)) ?_);intro _)
       | (with_reducible refine Sim.ite ?_ ?_)
     ·obtain⟨r1,r2⟩:=r;cases r1<;>exact Sim.pure rfl
    | _=>exact Sim.stuck _
   | _=>cases y<;>cases hy<;>exact Sim.stuck _
  | _=>cases hx<;>cases hy<;>exact Sim.stuck _
end
end Rn
end
section
namespace Rn
open Go
section
variable {P:Program}{ρ:Ren P}
theorem sim_equal(t:TypeId){x x' y y':Value}(hx:VR ρ x x')(hy:VR ρ y y'):Sim P ρ Eq (Op.equal t x y) (Op.equal t x' y'):=sim_equalIn _ t hx hy
theorem kdf7:∀ (d:Nat) (t:TypeId) {x x' y y':Value},VR ρ x x'→VR ρ y y'→Sim P ρ Eq (Op.eqGuardIn d t x y) (Op.eqGuardIn d t x' y')
 | 0,t,_,_,_,_,_,_=>Sim.unsup _
 | d+1,t,x,x',y,y',hx,hy=>by
  have ih:=kdf7 d;unfold Op.eqGuardIn;refine Sim.bindE (kd7 t) fun k=>?_;cases k with
  | interface ms=>cases hx<;>first|exact Sim.pure rfl|(cases hy<;>first|exact Sim.pure rfl|(rcases Odd.cases (by assumption) with⟨_,rfl⟩|⟨_,_,_,rfl⟩|⟨_,rfl⟩|⟨_,rfl⟩|⟨_,_,_,rfl⟩|⟨_,_,rfl⟩|⟨_,rfl⟩<;>exact Sim.pure rfl))|(rcases Odd.cases (by assumption) with⟨_,rfl⟩|⟨_,_,_,rfl⟩|⟨_,rfl⟩|⟨_,rfl⟩|⟨_,_,_,rfl⟩|⟨_,_,rfl⟩|⟨_,rfl⟩<;>exact Sim.pure rfl)
  | struct fields =>
   cases hx with
   | agg h1 h2 =>
    cases hy with
    | agg k1 k2 =>
     have a1:=ARR.mk (ρ:=ρ) h1 h2;have a2:=ARR.mk (ρ:=ρ) k1 k2;refine Sim.forArr _ _ (fun f r=>?_) fun r=>?_
     ·repeat' first
       | with_reducible exact Sim.pure (.inl ⟨_,_,rfl,rfl,rfl⟩)
       | with_reducible exact Sim.pure (.inr ⟨_,_,rfl,rfl,rfl⟩)
       | ((with_reducible refine Sim.bind (kcp7 _ (by assumption) _) ?_);intro _ _ _)
       | ((with_reducible refine Sim.bindE (ih _ (by assumption) (by assumption)) ?_);intro _)
       | (with_reducible refine Sim.ite ?_ ?_)
     ·obtain⟨r1,r2⟩:=r;cases r1<;>exact Sim.pure rfl
    | wild ho=>rcases Odd.cases (by assumption) with⟨_,rfl⟩|⟨_,_,_,rfl⟩|⟨_,rfl⟩|⟨_,rfl⟩|⟨_,_,_,rfl⟩|⟨_,_,rfl⟩|⟨_,rfl⟩<;>exact Sim.pure rfl
    | _=>exact Sim.pure rfl
   | _=>cases y<;>cases hy<;>first|exact Sim.pure rfl|(rcases Odd.cases (by assumption) with⟨_,rfl⟩|⟨_,_,_,rfl⟩|⟨_,rfl⟩|⟨_,rfl⟩|⟨_,_,_,rfl⟩|⟨_,_,rfl⟩|⟨_,rfl⟩<;>exact Sim.pure rfl)|(rcases Odd.cases (v:=x') (by assumption) with⟨_,rfl⟩|⟨_,_,_,rfl⟩|⟨_,rfl⟩|⟨_,rfl⟩|⟨_,_,_,rfl⟩|⟨_,_,rfl⟩|⟨_,rfl⟩<;>exact Sim.pure rfl)
  | array len elem =>
   cases hx with
   | agg h1 h2 =>
    cases hy with
    | agg k1 k2 =>
     have a1:=ARR.mk (ρ:=ρ) h1 h2;have a2:=ARR.mk (ρ:=ρ) k1 k2;refine Sim.bindE (ko7 _) fun n=>Sim.forRange _ _ (fun f r=>?_) fun r=>?_
     ·repeat' first
       | with_reducible exact Sim.pure (.inl ⟨_,_,rfl,rfl,rfl⟩)
       | with_reducible exact Sim.pure (.inr ⟨_,_,rfl,rfl,rfl⟩)
       | ((with_reducible refine Sim.bind (kcp7 _ (by assumption) _) ?_);intro _ _ _)
       | ((with_reducible refine Sim.bindE (ih _ (by assumption) (by assumption)) ?_);intro _)
       | (with_reducible refine Sim.ite ?_ ?_)
     ·obtain⟨r1,r2⟩:=r;cases r1<;>exact Sim.pure rfl
    | wild ho=>rcases Odd.cases (by assumption) with⟨_,rfl⟩|⟨_,_,_,rfl⟩|⟨_,rfl⟩|⟨_,rfl⟩|⟨_,_,_,rfl⟩|⟨_,_,rfl⟩|⟨_,rfl⟩<;>exact Sim.pure rfl
    | _=>exact Sim.pure rfl
   | _=>cases y<;>cases hy<;>first|exact Sim.pure rfl|(rcases Odd.cases (by assumption) with⟨_,rfl⟩|⟨_,_,_,rfl⟩|⟨_,rfl⟩|⟨_,rfl⟩|⟨_,_,_,rfl⟩|⟨_,_,rfl⟩|⟨_,rfl⟩<;>exact Sim.pure rfl)|(rcases Odd.cases (v:=x') (by assumption) with⟨_,rfl⟩|⟨_,_,_,rfl⟩|⟨_,rfl⟩|⟨_,rfl⟩|⟨_,_,_,rfl⟩|⟨_,_,rfl⟩|⟨_,rfl⟩<;>exact Sim.pure rfl)
  | _=>exact Sim.pure rfl
theorem sim_eqGuard(o:BinOp)(t:TypeId)(p q:Operand){x x' y y':Value}(hx:VR ρ x x')(hy:VR ρ y y'):Sim P ρ (fun _ _=>True) (eqGuard o t p q x y) (eqGuard o t p q x' y'):=by
 unfold eqGuard
 try dsimp only
 refine Sim.ite (Sim.pure trivial) ?_;cases hx with
 | nilIface =>
  cases hy with
  | nilIface =>
   refine Sim.ite (Sim.pure trivial) (Sim.bindE (kdf7 _ _ .nilIface .nilIface) fun b=>Sim.ite (Sim.unsup _) (Sim.pure trivial))
  | wild ho=>rcases Odd.cases ho with⟨_,rfl⟩|⟨_,_,_,rfl⟩|⟨_,rfl⟩|⟨_,rfl⟩|⟨_,_,_,rfl⟩|⟨_,_,rfl⟩|⟨_,rfl⟩<;>exact Sim.pure trivial
  | _=>exact Sim.pure trivial
 | agg h1 h2 =>
  cases hy with
  | agg k1 k2 =>
   refine Sim.progB (Sim.progB ?_)
   try dsimp only
   refine Sim.ite (Sim.pure trivial) (Sim.bindE (kdf7 _ _ (.agg h1 h2) (.agg k1 k2)) fun b=>Sim.ite (Sim.unsup _) (Sim.pure trivial))
  | wild ho=>rcases Odd.cases ho with⟨_,rfl⟩|⟨_,_,_,rfl⟩|⟨_,rfl⟩|⟨_,rfl⟩|⟨_,_,_,rfl⟩|⟨_,_,rfl⟩|⟨_,rfl⟩<;>exact Sim.pure trivial
  | _=>exact Sim.pure trivial
 | wild ho=>rcases Odd.cases ho with⟨_,rfl⟩|⟨_,_,_,rfl⟩|⟨_,rfl⟩|⟨_,rfl⟩|⟨_,_,_,rfl⟩|⟨_,_,rfl⟩|⟨_,rfl⟩<;>exact Sim.pure trivial
 | _=>cases hy<;>first|exact Sim.pure trivial|(rename_i ho;rcases Odd.cases ho with⟨_,rfl⟩|⟨_,_,_,rfl⟩|⟨_,rfl⟩|⟨_,rfl⟩|⟨_,_,_,rfl⟩|⟨_,_,rfl⟩|⟨_,rfl⟩<;>exact Sim.pure trivial)
theorem Doom.progB{α:Type}{f:Program→Sem α}(h:Doom P (f P)):Doom P (Go.program >>= f):=fun w=>h w
theorem ket7{a a':Addr}(ha:AR ρ a a')(b:Addr):Doom P (Op.twoPlaces a b):=by
 unfold Op.twoPlaces;refine Doom.progB ?_;have h:=(ρ.low ha.block).1;have e:((a.block != b.block) || decide (a.block≥P.globals.size))=true:=by simp[h]
 dsimp only;rw[if_pos e];exact Doom.bind (Doom.unsup _)
theorem sim_addrSub{β:Type}{R:Value→β→Prop}{s':Sem β}(k:IntKind){a a':Addr}(ha:AR ρ a a')(b:Addr):Sim P ρ R (Op.addrSub k a b) s':=Sim.doom (Doom.bind (ket7 ha b))
theorem sim_addrCmp{β:Type}{R:Value→β→Prop}{s':Sem β}(o:BinOp){a a':Addr}(ha:AR ρ a a')(b:Addr):Sim P ρ R (Op.addrCmp o a b) s':=Sim.doom (Doom.bind (ket7 ha b))
theorem sim_addrMod(k:IntKind){a a':Addr}(ha:AR ρ a a')(n:Int):Sim P ρ (VR ρ) (Op.addrMod k a n) (Op.addrMod k a' n):=by
 unfold Op.addrMod;refine Sim.bindE (Sim.shape ha.block) fun s=>?_;cases s with
 | none=>exact Sim.unsup _
 | some s =>
  refine Sim.bindE (kab7 _) fun i=>?_;dsimp only;refine Sim.ite (Sim.unsupB _) (Sim.bindE (kha7 ha) fun b=>Sim.pure (.int _ _))
theorem keu7(ts:Array TypeId)(t:TypeId){a a':Addr}{y y':Value}(ha:AR ρ a a')(hy:VR ρ y y'):Sim P ρ (fun u v=>∃ b b',u=.pointer (some b)∧v=.pointer (some b')∧AR ρ b b') (Builtin.unsafeAdd_ ts t #[.pointer (some a),y]) (Builtin.unsafeAdd_ ts t #[.pointer (some a'),y']):=by
 refine Sim.bindE (kbg7 hy) fun n=>?_;dsimp only
 split
 ·refine Sim.bind (keq7 ha.block) fun p q h=>?_;rcases h with⟨rfl,rfl⟩|⟨b,b',t,rfl,rfl,hb⟩
  ·exact Sim.pure ⟨_,_,rfl,rfl,ha⟩
  ·exact Sim.unsupB _
 ·split
  ·exact Sim.unsupB _
  ·refine Sim.bindE (Sim.shape ha.block) fun s=>?_;cases s with
   | none=>exact Sim.unsup _
   | some s =>
    refine Sim.progB ?_;rw[ha.off]
    split
    ·exact Sim.pure ⟨_,_,rfl,rfl,⟨ha.block,rfl,ha.spot⟩⟩
    ·exact Sim.unsup _
theorem kgc7(ts:Array TypeId)(t:TypeId){x x' y y':Value}(hx:VR ρ x x')(hy:VR ρ y y'):Sim P ρ (VR ρ) (Builtin.unsafeAdd_ ts t #[x,y]) (Builtin.unsafeAdd_ ts t #[x',y']):=by
 cases hx with
 | pnone =>
  refine Sim.bindE (kbg7 hy) fun n=>?_;dsimp only
  split
  ·exact Sim.unsup _
  ·split
   ·exact Sim.unsupB _
   ·exact Sim.unsup _
 | @pointer a a' ha=>exact(keu7 ts t ha hy).mono fun u v ⟨b,b',e1,e2,h⟩=>by subst e1 e2;exact .pointer h
 | _=>exact Sim.stuck _
theorem kcf7(t:TypeId){x x' y y':Value}(hx:VR ρ x x')(hy:VR ρ y y'):Sim P ρ (VR ρ) (movedNumber t x y) (movedNumber t x' y'):=by
 unfold movedNumber;refine Sim.bindE (kd7 t) fun d=>?_;have h0:=kgc7 (P:=P) #[] t hx hy;cases hx with
 | @pointer a a' ha =>
  refine Sim.ite (Sim.unsupB _) ?_;refine Sim.bind (kt7 ha) fun p q hpq=>?_;obtain⟨p1,p2⟩:=p;obtain⟨q1,q2⟩:=q;obtain⟨h1,h2⟩:=hpq;simp only at h1 h2;subst h2;refine Sim.bind (keu7 (P:=P) #[] t h1 hy) fun u v huv=>?_;obtain⟨b,b',rfl,rfl,hb⟩:=huv;exact sim_asNumber hb _
 | wild ho=>exact Sim.ite (Sim.unsupB _) (Sim.stuck _)
 | _=>exact Sim.ite (Sim.unsupB _) h0
theorem khe7(t:TypeId){x x' y y':Value}(hx:VR ρ x x')(hy:VR ρ y y'):Sim P ρ (VR ρ) (movedPointer t x y) (movedPointer t x' y'):=by
 unfold movedPointer;have h0:=kgc7 (P:=P) #[] t hx hy;cases hx with
 | @pointer a a' ha =>
  refine Sim.bind (kgx7 ha.block) fun p q h=>?_;rcases h with⟨rfl,rfl⟩|⟨b,b',t,rfl,rfl,hb⟩
  ·exact h0
  ·exact Sim.unsupB _
 | wild ho=>exact Sim.stuck _
 | _=>exact h0
def okBin:BinOp→Bool
 | .add|.sub|.mul|.quo|.rem|.and|.or|.shl|.shr|.eql|.neq|.lss|.leq|.gtr|.geq=>true
 | _=>false
set_option maxHeartbeats 8000000 in
theorem sim_binOp(o:BinOp)(ho:okBin o=true)(t:TypeId){x x' y y':Value}(hx:VR ρ x x')(hy:VR ρ y y'):Sim P ρ (VR ρ) (binOp o t x y) (binOp o t x' y'):=by
 have he:=sim_equal (P:=P) t hx hy;have m1:=kcf7 (P:=P) t hx hy;have m2:=kcf7 (P:=P) t hy hx;have m3:=khe7 (P:=P) t hx hy;have hx0:=hx;have hy0:=hy;have m4:∀ k n,Sim P ρ (VR ρ) (movedNumber t x (.int k n)) (movedNumber t x' (.int k n)):=fun k n=>kcf7 (P:=P) t hx (.int k n);cases o<;>simp only[okBin,Bool.false_eq_true] at ho<;>(cases hx<;>first
  | (cases hy<;>first
   | exact Sim.stuck _
   | exact Sim.unsup _
   | (unfold binOp;dsimp only;with_reducible exact sim_shift _ _ _ _ _)
   | (unfold binOp;dsimp only;with_reducible exact keg7 _ _ _)
   | exact Sim.ite (Sim.stuck _) (khb7 _ _ _ _)
   | exact Sim.ite (Sim.stuck _) (sim_intDiv _ _ _ _)
   | exact Sim.ite (Sim.stuck _) (sim_intBits _ _ _ _)
   | exact Sim.ite (Sim.stuck _) (sim_intCmp _ _ _)
   | exact Sim.ite (Sim.stuck _) (ker7 _ _ _ _)
   | exact Sim.ite (Sim.stuck _) (khc7 _ _ _ _)
   | exact Sim.ite (Sim.stuck _) (sim_complexOp _ _ _ _ _ _)
   | exact Sim.bindE he fun b=>Sim.pure (.bool _)
   | exact Sim.bindE (kd7 _) fun d=>Sim.ite m3 m1
   | exact m2
   | exact m4 _ _
   | (rename_i h1 _ _ h2;exact Sim.bind (kt7 h1) fun p q h=>Sim.bind (kt7 h2) fun u v _=>sim_addrSub _ h.1 _)
   | (rename_i h1 _ _ h2;exact Sim.bind (kt7 h1) fun p q h=>Sim.bind (kt7 h2) fun u v _=>sim_addrCmp _ h.1 _)
   | (refine Sim.bind (kt7 ?_) fun p q h=>sim_addrMod _ h.1 _;assumption)
   | (rcases Odd.cases (v:=y') (by assumption) with⟨_,rfl⟩|⟨_,_,_,rfl⟩|⟨_,rfl⟩|⟨_,rfl⟩|⟨_,_,_,rfl⟩|⟨_,_,rfl⟩|⟨_,rfl⟩<;>(first|exact Sim.bindE he fun b=>Sim.pure (.bool _)|exact Sim.stuck _|exact Sim.unsup _))
   | (rcases Odd.cases (v:=x') (by assumption) with⟨_,rfl⟩|⟨_,_,_,rfl⟩|⟨_,rfl⟩|⟨_,rfl⟩|⟨_,_,_,rfl⟩|⟨_,_,rfl⟩|⟨_,rfl⟩<;>(first|exact Sim.bindE he fun b=>Sim.pure (.bool _)|exact Sim.stuck _|exact Sim.unsup _))
   | fail))
end
end Rn
end
section
namespace Rn
open Go
section
variable {P:Program}{ρ:Ren P}
theorem sim_seenAt{a a':Addr}(ha:AR ρ a a'):Sim P ρ (AR ρ) (Conv.seenAt a) (Conv.seenAt a'):=by
 unfold Conv.seenAt;refine Sim.bind (keq7 ha.block) fun p q h=>?_;rcases h with⟨rfl,rfl⟩|⟨b,b',t,rfl,rfl,hb⟩
 ·exact Sim.pure ha
 ·dsimp only;rw[ha.off,ha.spot,hb.spot];refine Sim.ite (Sim.pure hb) ?_;refine Sim.ite (Sim.unsupB _) ?_;refine Sim.progB ?_
  split
  ·refine Sim.bindE (Sim.shape hb.block) fun s=>?_;cases s with
   | none=>exact Sim.unsup _
   | some s =>
    dsimp only;rw[hb.off];refine Sim.ite (Sim.unsupB _) ?_
    split
    ·exact Sim.pure ⟨hb.block,rfl,rfl⟩
    ·exact Sim.unsup _
  ·exact Sim.unsup _
theorem kfn7{a a':Addr}(ha:AR ρ a a')(t:TypeId):Sim P ρ (VR ρ) (do pure (.pointer (some ⟨←newObj (.view a t),0,none⟩)):Sem Value) (do pure (.pointer (some ⟨←newObj (.view a' t),0,none⟩)):Sem Value) :=
 Sim.bind (Sim.newObj (.view t ha)) fun r r' hr=>Sim.pure (.pointer (AR.at hr.1 _ _))
theorem kda7(src dst:TypeId)(h:(∃ t,P.underlying src=some (.pointer t)∧P.underlying dst=some .unsafePointer)∨∃ t,P.underlying src=some .unsafePointer∧P.underlying dst=some (.pointer t))
  {x x':Value} (hx:VR ρ x x'):Sim P ρ (VR ρ) (Conv.unsafePointer src dst x) (Conv.unsafePointer src dst x'):=by
 unfold Conv.unsafePointer;refine Sim.bind (kaa7 src) fun d d' hd=>Sim.bind (kaa7 dst) fun e e' he=>?_;obtain⟨rfl,hd⟩:=hd;obtain⟨rfl,he⟩:=he;rcases h with⟨t,h1,h2⟩|⟨t,h1,h2⟩
 ·rw[h1] at hd;cases hd;rw[h2] at he;cases he;cases hx with
  | pnone=>exact Sim.pure .pnone
  | @pointer a a' ha =>
   refine Sim.bind (sim_seenAt ha) fun s s' hs=>Sim.bindE (sim_cellsIn hs.block) fun c=>?_;have last:∀ b:Bool,Sim P ρ (VR ρ) (do if (←sizeOf t)=0 || b then pure (.pointer (some ⟨←newObj (.view s t),0,none⟩)) else pure (.pointer (some s)):Sem Value) (do if (←sizeOf t)=0 || b then pure (.pointer (some ⟨←newObj (.view s' t),0,none⟩)) else pure (.pointer (some s')):Sem Value):=by
    intro b;exact Sim.bindE (ko7 t) fun n=>Sim.ite (kfn7 hs t) (Sim.pure (.pointer hs))
   cases c with
   | none=>exact last false
   | some n =>
    dsimp only;rw[hs.off,hs.spot];exact last _
  | _=>exact Sim.stuck _
 ·rw[h1] at hd;cases hd;rw[h2] at he;cases he;cases hx with
  | pnone=>exact Sim.pure .pnone
  | @pointer a a' ha =>
   refine Sim.bind (sim_seenAt ha) fun s s' hs=>Sim.bindE (ko7 t) fun n=>?_;have last:Sim P ρ (VR ρ) (do
     match ←shape s.block with
     | some (e,_) =>
      if (←program).holdsStoodIn (←program).depth e then unsupported (.unsafePointer "memory that holds a struct of a package that the model stands in for, seen as another type")
     | none=>unsupported (.unsafePointer "memory that has no shape (a package-level variable that still waits for its initialiser), seen as another type")
     pure (.pointer (some ⟨←newObj (.view s t),0,none⟩)):Sem Value) (do
     match ←shape s'.block with
     | some (e,_) =>
      if (←program).holdsStoodIn (←program).depth e then unsupported (.unsafePointer "memory that holds a struct of a package that the model stands in for, seen as another type")
     | none=>unsupported (.unsafePointer "memory that has no shape (a package-level variable that still waits for its initialiser), seen as another type")
     pure (.pointer (some ⟨←newObj (.view s' t),0,none⟩)):Sem Value):=by
    refine Sim.bindE (Sim.shape hs.block) fun sh=>?_;cases sh with
    | none=>exact Sim.unsupB _
    | some sh =>
     refine Sim.progB (Sim.progB ?_);exact Sim.ite (Sim.unsupB _) (kfn7 hs t)
   refine Sim.bindE (kea7 hs t 1) fun b=>Sim.ite (Sim.pure (.pointer hs)) last
  | _=>exact Sim.stuck _
theorem kgk7{x x':Value}(hx:VR ρ x x'):Sim P ρ (VR ρ) (Conv.bytesToString x) (Conv.bytesToString x'):=by
 cases hx with
 | snone l c=>exact Sim.pure (.string _)
 | dead h=>exact Sim.pure (.string _)
 | @slice a a' l c ha =>
  refine Sim.bind (kde7 ha l) fun xs xs' hxs=>?_;have key:∀ (l l':List Value) (s:ByteArray),l.length=l'.length→(∀ (i:Nat) (v v':Value),l[i]?=some v→l'[i]?=some v'→VR ρ v v') →
    Sim P ρ Eq (forIn l s fun c s=>match c with|.int .u8 n=>pure (ForInStep.yield (s.push (UInt8.ofNat n.toNat)))|_=>stuck "bytesToString: byte expected")
     (forIn l' s fun c s=>match c with|.int .u8 n=>pure (ForInStep.yield (s.push (UInt8.ofNat n.toNat)))|_=>stuck "bytesToString: byte expected"):=by
   intro l
   induction l with
   | nil =>
    intro l' s hl h;cases l' with
    | nil=>simpa using Sim.pure rfl
    | cons _ _=>simp at hl
   | cons v l ih =>
    intro l' s hl h;cases l' with
    | nil=>simp at hl
    | cons v' l' =>
     rw[List.forIn_cons,List.forIn_cons];have hv:=h 0 v v' rfl rfl;have ih':=fun s=>ih l' s (by simpa using hl) fun i x y h1 h2=>h (i+1) x y (by simpa using h1) (by simpa using h2);cases hv with
     | int k n=>cases k<;>first|exact Sim.stuckB _|exact ih' _
     | _=>exact Sim.stuckB _
  rw[←Array.forIn_toList,←Array.forIn_toList];exact Sim.bindE (key _ _ _ (by simp[hxs.size]) hxs.toList) fun s=>Sim.pure (.string _)
 | _=>exact Sim.stuck _
theorem sim_floatToInt(s:FloatKind)(b:Nat)(d:IntKind):Sim P ρ (VR ρ) (Conv.floatToInt s b d) (Conv.floatToInt s b d):=by
 have any:Sim P ρ (VR ρ) (do pure (.int d (d.wrap (←choose (.floatToInt s b d)))):Sem Value) (do pure (.int d (d.wrap (←choose (.floatToInt s b d)))):Sem Value):=Sim.bindE (Sim.choose _) fun n=>Sim.pure (.int _ _);unfold Conv.floatToInt;dsimp only
 split
 ·exact Sim.ite (Sim.pure (.int _ _)) any
 ·exact any
def okConv:Option TypeDesc→Option TypeDesc→Bool
 | some (.int _),some (.int _)=>true
 | some (.pointer _),some .unsafePointer=>true
 | some .unsafePointer,some (.pointer _)=>true
 | _,_=>false
def okConvert(P:Program)(src dst:TypeId):Bool:=okConv (P.underlying src) (P.underlying dst) || match P.underlying src,P.underlying dst with
 | some (.slice e),some .string=>match P.underlying e with
  | some (.int .u8)=>true
  | _=>false
 | _,_=>false
theorem sim_convert(src dst:TypeId)(h:okConvert P src dst=true){x x':Value}(hx:VR ρ x x'):Sim P ρ (VR ρ) (convert src dst x) (convert src dst x'):=by
 unfold okConvert at h;unfold convert;refine Sim.bind (kaa7 src) fun d d' hd=>Sim.bind (kaa7 dst) fun e e' he=>?_;obtain⟨rfl,hd⟩:=hd;obtain⟨rfl,he⟩:=he;rw[hd,he] at h;cases d<;>cases e<;>simp only[okConv,Bool.or_false,Bool.false_or,Bool.or_self,Bool.false_eq_true] at h
 case int.int k k' =>
  cases hx<;>first
   | exact Sim.pure (.int _ _)
   | exact Sim.unsup _
   | exact sim_floatToInt _ _ _
 case pointer.unsafePointer t =>
  have:=kda7 (P:=P) src dst (.inl ⟨t,hd,he⟩) hx;cases hx<;>exact this
 case unsafePointer.pointer t =>
  have:=kda7 (P:=P) src dst (.inr ⟨t,hd,he⟩) hx;cases hx<;>exact this
 case slice.string t =>
  have hb:=kgk7 (P:=P) hx;have rest:∀ y y':Value,Sim P ρ (VR ρ) (Conv.bytesToString y) (Conv.bytesToString y')→Sim P ρ (VR ρ) (underlying t >>= fun d=>match d with
   | .int .u8=>Conv.bytesToString y
   | .int .i32=>Conv.runesToString y
   | _=>stuck "Convert: a slice of what to string?") (underlying t >>= fun d=>match d with
   | .int .u8=>Conv.bytesToString y'
   | .int .i32=>Conv.runesToString y'
   | _=>stuck "Convert: a slice of what to string?"):=by
   intro y y' hy;refine Sim.bind (kaa7 t) fun d d' hd=>?_;obtain⟨rfl,hd⟩:=hd;rw[hd] at h;cases d with
   | int k=>cases k<;>first|exact hy|cases h
   | _=>cases h
  cases hx<;>first
   | exact Sim.pure (.string _)
   | exact rest _ _ hb
   | (rcases Odd.cases (v:=x') (by assumption) with⟨_,rfl⟩|⟨_,_,_,rfl⟩|⟨_,rfl⟩|⟨_,rfl⟩|⟨_,_,_,rfl⟩|⟨_,_,rfl⟩|⟨_,rfl⟩<;>first|exact rest _ _ hb|exact Sim.unsup _)
def okConvert2(P:Program)(src dst:TypeId):Bool:=src == dst && match P.underlying src with
 | some (.slice e)=>match P.underlying e with
  | some (.int .u8)=>true
  | _=>false
 | _=>false
theorem kdb7{a a':Addr}(ha:AR ρ a a')(ho:∀ b,¬ρ.shut b):Sim P ρ (fun _ _=>True) (markStringish a) (markStringish a'):=by
 refine Sim.bindE (Sim.shape ha.block) fun s=>?_;cases s with
 | none=>exact Sim.pure trivial
 | some s=>exact Sim.freeze (AR.at ha.block _ _) 1 (ho _)
theorem sim_convert2(src dst:TypeId)(h:okConvert2 P src dst=true)(ho:∀ b,¬ρ.shut b)(hnd:∀ a a',¬ρ.dead a a'){x x':Value}(hx:VR ρ x x'):Sim P ρ (VR ρ) (convert src dst x) (convert src dst x'):=by
 unfold okConvert2 at h;simp only[Bool.and_eq_true,beq_iff_eq] at h;obtain⟨rfl,h⟩:=h;cases hs:P.underlying src with
 | none=>rw[hs] at h;cases h
 | some d0 =>
  rw[hs] at h;cases d0 with
  | slice e =>
   simp only at h;have he:P.underlying e=some (.int .u8):=by
    cases hu:P.underlying e with
    | none=>rw[hu] at h;cases h
    | some d =>
     rw[hu] at h;cases d with
     | int k=>cases k<;>first|rfl|cases h
     | _=>cases h
   have under:∀ {α β:Type}{R:α→β→Prop}{t:TypeId}{d:TypeDesc}{f:TypeDesc→Sem α}{f':TypeDesc→Sem β},P.underlying t=some d→Sim P ρ R (f d) (f' d)→Sim P ρ R (underlying t >>= f) (underlying t >>= f'):=by
    intro α β R t d f f' ht hf;refine Sim.bind (kaa7 t) fun a b hab=>?_;obtain⟨rfl,hab⟩:=hab;rw[ht] at hab;cases hab;exact hf
   unfold convert;refine under hs (under hs ?_);cases hx with
   | string s =>
    refine under he ?_;refine Sim.bindE (Sim.choose _) fun cap=>?_;refine Sim.bind (sim_newRow e (ARR.append (ARR.of_plain fun i v hv=>?_) (ARR.replicate _ (.int _ _)))) fun a a' ha=>?_
    ·rw[Array.getElem?_map] at hv;obtain⟨b,_,rfl⟩:=Option.map_eq_some_iff.1 hv;exact .int _ _
    ·exact Sim.bind (kdb7 ha.1 ho) fun _ _ _=>Sim.pure (.slice _ _ ha.1)
   | dead h=>exact absurd h (hnd _ _)
   | @slice a a' l c ha =>
    have hb:(src == src)=true:=by simp
    dsimp only;refine under he ?_;rw[hb];exact Sim.bind (kdb7 ha ho) fun _ _ _=>Sim.pure (.slice _ _ ha)
   | _=>exact Sim.unsup _
  | _=>cases h
end
end Rn
end
section
namespace Rn
open Go
section
variable {P:Program}{ρ:Ren P}
theorem sim_len(ts:Array TypeId)(t:TypeId){args args':Array Value}(h:ARR ρ args args'):Sim P ρ (VR ρ) (Builtin.len_ ts t args) (Builtin.len_ ts t args'):=by
 unfold Builtin.len_;rcases h.get? 0 with⟨e1,e2⟩|⟨x,x',e1,e2,hx⟩
 ·rw[e1,e2];cases ts[0]?<;>exact Sim.stuck _
 ·rw[e1,e2];cases ts[0]? with
  | none=>exact Sim.stuck _
  | some t =>
   refine Sim.bindE (kd7 t) fun d=>?_;cases d with
   | array n e=>exact Sim.pure (.int _ _)
   | pointer a=>refine Sim.bindE (kd7 a) fun d=>?_;split<;>first|exact Sim.pure (.int _ _)|exact Sim.stuck _
   | string=>cases hx<;>first|exact Sim.pure (.int _ _)|exact Sim.stuck _
   | slice e=>cases hx<;>first|exact Sim.pure (.int _ _)|exact Sim.stuck _
   | chan a b=>cases hx<;>first|exact Sim.pure (.int _ _)|exact Sim.stuck _
   | map k e =>
    cases hx with
    | mnone=>exact Sim.pure (.int _ _)
    | map hr =>
     refine Sim.bind (Sim.getObj hr) fun o o' ho=>?_;cases ho.1 with
     | map n he=>dsimp only;rw[he.size];exact Sim.pure (.int _ _)
     | _=>exact Sim.stuck _
    | _=>exact Sim.stuck _
   | _=>cases hx<;>exact Sim.stuck _
theorem sim_cap(ts:Array TypeId)(t:TypeId){args args':Array Value}(h:ARR ρ args args'):Sim P ρ (VR ρ) (Builtin.cap_ ts t args) (Builtin.cap_ ts t args'):=by
 unfold Builtin.cap_;rcases h.get? 0 with⟨e1,e2⟩|⟨x,x',e1,e2,hx⟩
 ·rw[e1,e2];cases ts[0]?<;>exact Sim.stuck _
 ·rw[e1,e2];cases ts[0]? with
  | none=>exact Sim.stuck _
  | some t =>
   refine Sim.bindE (kd7 t) fun d=>?_;cases d with
   | array n e=>exact Sim.pure (.int _ _)
   | pointer a=>refine Sim.bindE (kd7 a) fun d=>?_;split<;>first|exact Sim.pure (.int _ _)|exact Sim.stuck _
   | slice e=>cases hx<;>first|exact Sim.pure (.int _ _)|exact Sim.stuck _
   | chan a b=>cases hx<;>first|exact Sim.pure (.int _ _)|exact Sim.stuck _
   | _=>cases hx<;>exact Sim.stuck _
theorem sim_min2{x x' y y':Value}(hx:VR ρ x x')(hy:VR ρ y y'):Sim P ρ (VR ρ) (Builtin.min2 x y) (Builtin.min2 x' y'):=by
 cases hx<;>first
  | (cases hy<;>first
   | exact Sim.stuck _
   | exact Sim.unsup _
   | exact Sim.pure (.int _ _)
   | exact Sim.bind (keg7 _ _ _) fun a b h=>Sim.bindE (ken7 h) fun b=>Sim.pure (.string _)
   | (unfold Builtin.min2;dsimp only;split<;>first|exact Sim.pure (.float _ _)|exact Sim.bindE (Sim.choose _) fun n=>Sim.pure (.float _ _)))
theorem sim_max2{x x' y y':Value}(hx:VR ρ x x')(hy:VR ρ y y'):Sim P ρ (VR ρ) (Builtin.max2 x y) (Builtin.max2 x' y'):=by
 cases hx<;>first
  | (cases hy<;>first
   | exact Sim.stuck _
   | exact Sim.unsup _
   | exact Sim.pure (.int _ _)
   | exact Sim.bind (keg7 _ _ _) fun a b h=>Sim.bindE (ken7 h) fun b=>Sim.pure (.string _)
   | (unfold Builtin.max2;dsimp only;split<;>first|exact Sim.pure (.float _ _)|exact Sim.bindE (Sim.choose _) fun n=>Sim.pure (.float _ _)))
theorem sim_foldl{f:Value→Value→Sem Value}(hf:∀ {x x' y y':Value},VR ρ x x'→VR ρ y y'→Sim P ρ (VR ρ) (f x y) (f x' y')) :
  ∀ (l l':List Value) (b b':Value),VR ρ b b'→l.length=l'.length→(∀ (i:Nat) (v v':Value),l[i]?=some v→l'[i]?=some v'→VR ρ v v')→Sim P ρ (VR ρ) (l.foldlM f b) (l'.foldlM f b')
 | [],[],b,b',hb,_,_=>by simpa using Sim.pure hb
 | v::l,v'::l',b,b',hb,hl,h=>by
  rw[List.foldlM_cons,List.foldlM_cons];exact Sim.bind (hf hb (h 0 v v' rfl rfl)) fun c c' hc=>sim_foldl hf l l' c c' hc (by simpa using hl) fun i x y h1 h2=>h (i+1) x y (by simpa using h1) (by simpa using h2)
 | [],_::_,_,_,_,hl,_=>by simp at hl
 | _::_,[],_,_,_,hl,_=>by simp at hl
theorem sim_min(ts:Array TypeId)(t:TypeId){args args':Array Value}(h:ARR ρ args args'):Sim P ρ (VR ρ) (Builtin.min_ ts t args) (Builtin.min_ ts t args'):=by
 unfold Builtin.min_;obtain⟨l⟩:=args;obtain⟨l'⟩:=args';have hs:=h.size;have hg:=h.toList;simp only[List.size_toArray] at hs;cases l with
 | nil=>exact Sim.stuck _
 | cons v l =>
  cases l' with
  | nil=>simp at hs
  | cons v' l'=>exact sim_foldl sim_min2 l l' v v' (hg 0 v v' rfl rfl) (by simpa using hs) fun i x y h1 h2=>hg (i+1) x y (by simpa using h1) (by simpa using h2)
theorem sim_max(ts:Array TypeId)(t:TypeId){args args':Array Value}(h:ARR ρ args args'):Sim P ρ (VR ρ) (Builtin.max_ ts t args) (Builtin.max_ ts t args'):=by
 unfold Builtin.max_;obtain⟨l⟩:=args;obtain⟨l'⟩:=args';have hs:=h.size;have hg:=h.toList;simp only[List.size_toArray] at hs;cases l with
 | nil=>exact Sim.stuck _
 | cons v l =>
  cases l' with
  | nil=>simp at hs
  | cons v' l'=>exact sim_foldl sim_max2 l l' v v' (hg 0 v v' rfl rfl) (by simpa using hs) fun i x y h1 h2=>hg (i+1) x y (by simpa using h1) (by simpa using h2)
theorem sim_lenOf{x x':Value}(hx:VR ρ x x'):Sim P ρ Eq (Builtin.lenOf x) (Builtin.lenOf x'):=by
 cases hx<;>first|exact Sim.pure rfl|exact Sim.stuck _
theorem first0(s:Nat)(a:Addr):Builtin.firstCells s 0 (.slice (some a) 0 0)=pure #[]:=by
 simp[Builtin.firstCells,loadCells,loadCellsFrom]
theorem kg7(s n:Nat){x x':Value}(hx:VR ρ x x')(hn:DeadV ρ x x'→n=0):Sim P ρ (ARR ρ) (Builtin.firstCells s n x) (Builtin.firstCells s n x'):=by
 cases hx with
 | slice l c ha=>exact kde7 ha _
 | dead h =>
  obtain rfl:=hn ⟨_,_,rfl,rfl,h⟩;rw[first0,first0];exact Sim.pure ARR.nil
 | snone l c=>exact Sim.pure ARR.nil
 | string s =>
  refine Sim.pure (ARR.of_plain fun i v h=>?_);rw[Array.getElem?_map] at h;obtain⟨b,_,rfl⟩:=Option.map_eq_some_iff.1 h;exact .int _ _
 | _=>exact Sim.stuck _
theorem keb7(s:Nat){x x':Value}(hx:VR ρ x x'):Sim P ρ (fun c c'=>c=#[]∧c'=#[]) (Builtin.firstCells s 0 x) (Builtin.firstCells s 0 x'):=by
 cases hx with
 | slice l c ha=>simp only[Builtin.firstCells,loadCells,loadCellsFrom,Nat.zero_mul];exact Sim.pure ⟨rfl,rfl⟩
 | dead h=>rw[first0,first0];exact Sim.pure ⟨rfl,rfl⟩
 | snone l c=>exact Sim.pure ⟨rfl,rfl⟩
 | string s =>
  have e:(s.extract 0 0).data.map (fun b=>Value.int .u8 b.toNat)=#[]:=by
   apply Array.eq_empty_of_size_eq_zero;simp
  refine Sim.pure ⟨e,e⟩
 | _=>exact Sim.stuck _
theorem kaf7{x x':Value}(hx:VR ρ x x'):Sim P ρ (fun a b=>a=b∧(DeadV ρ x x'→a=0)) (Builtin.lenOf x) (Builtin.lenOf x'):=by
 cases hx with
 | slice l c ha=>exact Sim.pure ⟨rfl,fun⟨_,_,e,_⟩=>by injection e⟩
 | dead h=>exact Sim.pure ⟨rfl,fun _=>rfl⟩
 | snone l c=>exact Sim.pure ⟨rfl,fun⟨_,_,e,_⟩=>by cases e⟩
 | string s=>exact Sim.pure ⟨rfl,fun⟨_,_,e,_⟩=>by cases e⟩
 | _=>exact Sim.stuck _
theorem sim_copy(ts:Array TypeId)(t:TypeId){args args':Array Value}(h:ARR ρ args args'):Sim P ρ (VR ρ) (Builtin.copy_ ts t args) (Builtin.copy_ ts t args'):=by
 unfold Builtin.copy_;rcases h.get? 0 with⟨e1,e2⟩|⟨x,x',e1,e2,hx⟩
 ·rw[e1,e2];cases ts[0]?<;>exact Sim.stuck _
 rcases h.get? 1 with⟨k1,k2⟩|⟨y,y',k1,k2,hy⟩
 ·rw[e1,e2,k1,k2];cases ts[0]?<;>exact Sim.stuck _
 rw[e1,e2,k1,k2];cases ts[0]? with
 | none=>exact Sim.stuck _
 | some t =>
  refine Sim.bindE (kd7 t) fun d=>?_;cases d with
  | slice elem =>
   cases hx with
   | snone l c =>
    refine Sim.bind (kaf7 hy) fun n n' hn=>?_;obtain⟨rfl,hn⟩:=hn;exact Sim.bindE (ko7 _) fun s=>Sim.bind (kg7 _ _ hy fun h=>(by rw[hn h];exact Nat.zero_min _)) fun c c' hc=>Sim.pure (.int _ _)
   | slice l c ha =>
    refine Sim.bind (kaf7 hy) fun n n' hn=>?_;obtain⟨rfl,hn⟩:=hn;exact Sim.bindE (ko7 _) fun s=>Sim.bind (kg7 _ _ hy fun h=>(by rw[hn h];exact Nat.zero_min _)) fun c c' hc=>Sim.bind (kbn7 ha hc 0) fun _ _ _=>Sim.pure (.int _ _)
   | dead hd =>
    refine Sim.bindE (sim_lenOf hy) fun n=>?_;have e:Nat.min n 0=0:=Nat.min_zero _;dsimp only;rw[e];refine Sim.bindE (ko7 _) fun s=>Sim.bind (keb7 _ hy) fun c c' hc=>?_;obtain⟨rfl,rfl⟩:=hc;exact Sim.pure (.int _ _)
   | _=>exact Sim.stuck _
  | _=>exact Sim.stuck _
theorem khf7(a:Addr)(n:Nat):Calm P (Builtin.holdsCells a n):=Calm.bind (Calm.shape _) fun s=>by cases s<;>exact Calm.pure _
theorem kx7(a b c:Nat)(o:Option Addr)(x:Value):Calm P (Builtin.mayShare a b c o x):=by
 unfold Builtin.mayShare;cases o with
 | none =>
  dsimp only;refine Calm.bind (Calm.pure _) fun q=>Calm.ite (Calm.pure _) ?_
  split
  ·exact Calm.bind (khf7 _ _) fun z=>Calm.pure _
  ·exact Calm.pure _
 | some d =>
  dsimp only;refine Calm.bind (khf7 _ _) fun z=>Calm.bind (Calm.frozen _) fun y=>Calm.bind (Calm.pure _) fun q=>Calm.ite (Calm.pure _) ?_
  split
  ·exact Calm.bind (khf7 _ _) fun z=>Calm.pure _
  ·exact Calm.pure _
theorem ki7{z:Array Value}(hz:∀ (i:Nat) (v:Value),z[i]?=some v→Plain v)(n:Nat):∀ (i:Nat) (v:Value),(Builtin.zeroCells z n)[i]?=some v→Plain v:=zero_row hz (n*z.size)
theorem DeadV.len{o o':Option Addr}{l c l' c':Nat}(h:DeadV ρ (.slice o l c) (.slice o' l' c')):l=0:=by
 obtain⟨_,_,e,_⟩:=h;injection e
theorem Sim.iteH{α β:Type}{R:α→β→Prop}{c:Prop}[Decidable c]{x y:Sem α}{x' y':Sem β}(hx:c→Sim P ρ R x x')(hy:¬c→Sim P ρ R y y'):Sim P ρ R (if c then x else y) (if c then x' else y'):=by
 split
 ·exact hx (by assumption)
 ·exact hy (by assumption)
theorem kbo7(s:Nat){n:Nat}{x x':Value}(hx:VR ρ x x')(hn:n=0):Sim P ρ (fun c c'=>c=#[]∧c'=#[]) (Builtin.firstCells s n x) (Builtin.firstCells s n x'):=by
 subst hn;exact keb7 s hx
theorem sim_zero0{s n:Nat}{z z':Sem (Array Value)}(hn:n=0):Sim P ρ (fun c c'=>c=#[]∧c'=#[]) (if n*s=0 then pure #[] else z) (if n*s=0 then pure #[] else z'):=by
 subst hn;rw[if_pos (Nat.zero_mul _),if_pos (Nat.zero_mul _)];exact Sim.pure ⟨rfl,rfl⟩
theorem khg7{a a':Addr}(hd:ρ.dead a a'){n:Nat}(hn:n=0)(m:Nat):Sim P ρ (VR ρ) (storeCells (a.add m) (#[]:Array Value).toList >>= fun _=>(pure (.slice (some a) (0+n) 0):Sem Value)) (storeCells (a'.add m) (#[]:Array Value).toList >>= fun _=>(pure (.slice (some a') (0+n) 0):Sem Value)):=by
 subst hn;exact Sim.pure (.dead hd)
theorem kat7{x x':Value}(hx:VR ρ x x'):Sim P ρ (fun a b=>a=b∧¬DeadV ρ x x') (asInt x) (asInt x'):=by
 cases hx with
 | dead h=>exact Sim.stuckB _
 | slice l c h=>exact Sim.stuckB _
 | int k n=>exact Sim.mono (kbg7 (.int k n)) fun a b h=>⟨h,fun⟨_,_,e,_⟩=>by cases e⟩
 | wild h=>exact Sim.stuckB _
 | _=>refine Sim.mono (kbg7 (by constructor<;>assumption)) fun a b h=>⟨h,fun⟨_,_,e,_⟩=>by cases e⟩
theorem sim_append (hz:Zeros P) (ts:Array TypeId) (t:TypeId) {args args':Array Value} (h:ARR ρ args args'):Sim P ρ (VR ρ) (Builtin.append_ ts t args) (Builtin.append_ ts t args'):=by
 unfold Builtin.append_
 rcases h.get? 0 with⟨e1,e2⟩|⟨s,s',e1,e2,hs⟩
 · rw[e1,e2];cases ts[0]?<;>exact Sim.stuck _
 rcases h.get? 1 with⟨k1,k2⟩|⟨x,x',k1,k2,hx⟩
 · rw[e1,e2,k1,k2];cases ts[0]?<;>exact Sim.stuck _
 rw[e1,e2,k1,k2]
 cases ts[0]? with
 | none=>exact Sim.stuck _
 | some t =>
   refine Sim.bindE (kd7 t) fun d=>?_
   cases d with
   | slice elem =>
     rcases hs.isSlice with⟨o,o',l,c,rfl,rfl,ho⟩|⟨n1,n2⟩|⟨a,a',rfl,rfl,hd⟩
     · refine Sim.bindE (ko7 _) fun size=>?_
       rcases ho with⟨rfl,rfl⟩|⟨a,a',rfl,rfl,ha⟩
       · have ho:OA ρ (none:Option Addr) none:=.inl ⟨rfl,rfl⟩
         cases ts[1]? with
         | none =>
           repeat' first
             | with_reducible exact Sim.rtPanicB _
             | with_reducible exact Sim.pure (VR.slc (by assumption) _ _)
             | with_reducible exact Sim.pure (VR.slice _ _ (by assumption))
             | ((with_reducible refine Sim.bindE (kab7 _) ?_);intro _)
             | ((with_reducible refine Sim.bind (kat7 hx) ?_);rintro _ _ ⟨rfl,_⟩)
             | ((with_reducible refine Sim.bind (kaf7 hx) ?_);rintro _ _ ⟨rfl,_⟩)
             | ((with_reducible refine Sim.bind (kg7 _ _ hs DeadV.len) ?_);intro _ _ _)
             | ((with_reducible refine Sim.bind (kz7 _) ?_);intro _ _ _)
             | ((with_reducible refine Sim.bind (kj7 hz _) ?_);rintro _ _ ⟨rfl,hpl⟩)
             | ((with_reducible refine Sim.bind (kw7 _ (ARR.append (ARR.append (by assumption) (by assumption)) (ARR.of_plain (ki7 (Plain.cells (by assumption)) _)))) ?_);intro _ _ _)
             | ((with_reducible refine Sim.bindE (Sim.pure rfl) ?_);intro _)
             | ((with_reducible refine Sim.bindE (Sim.choose _) ?_);intro _)
             | ((with_reducible refine Sim.bind (Sim.ite (kg7 _ _ hx (by first|assumption|exact fun h=>absurd h (by assumption))) (Sim.ite (Sim.pure ARR.nil) (Sim.bind (kj7 hz _) fun a b e=>by
                 obtain⟨rfl,hp⟩:=e
                 exact Sim.pure (ARR.of_plain (ki7 hp.cells _))))) ?_);intro _ _ _)
             | (with_reducible exact Sim.doom (Doom.bind (Doom.ite (Doom.runtimePanic _) (Doom.after (kx7 _ _ _ _ _) fun q=>Doom.ite (Doom.after (Calm.mark _) fun _=>Doom.unsup _) (Doom.unsup _)))))
             | (with_reducible refine Sim.ite ?_ ?_)
         | some xt =>
           refine Sim.bindE (kd7 xt) fun d=>?_
           generalize hb:(match d with|.int _=>true|_=>false)=b
           cases b
           · dsimp only
             repeat' first
               | with_reducible exact Sim.rtPanicB _
               | with_reducible exact Sim.pure (VR.slc (by assumption) _ _)
               | with_reducible exact Sim.pure (VR.slice _ _ (by assumption))
               | ((with_reducible refine Sim.bindE (kab7 _) ?_);intro _)
               | ((with_reducible refine Sim.bind (kat7 hx) ?_);rintro _ _ ⟨rfl,_⟩)
               | ((with_reducible refine Sim.bind (kaf7 hx) ?_);rintro _ _ ⟨rfl,_⟩)
               | ((with_reducible refine Sim.bind (kg7 _ _ hs DeadV.len) ?_);intro _ _ _)
               | ((with_reducible refine Sim.bind (kz7 _) ?_);intro _ _ _)
               | ((with_reducible refine Sim.bind (kj7 hz _) ?_);rintro _ _ ⟨rfl,hpl⟩)
               | ((with_reducible refine Sim.bind (kw7 _ (ARR.append (ARR.append (by assumption) (by assumption)) (ARR.of_plain (ki7 (Plain.cells (by assumption)) _)))) ?_);intro _ _ _)
               | ((with_reducible refine Sim.bindE (Sim.pure rfl) ?_);intro _)
               | ((with_reducible refine Sim.bindE (Sim.choose _) ?_);intro _)
               | ((with_reducible refine Sim.bind (Sim.ite (kg7 _ _ hx (by first|assumption|exact fun h=>absurd h (by assumption))) (Sim.ite (Sim.pure ARR.nil) (Sim.bind (kj7 hz _) fun a b e=>by
                   obtain⟨rfl,hp⟩:=e
                   exact Sim.pure (ARR.of_plain (ki7 hp.cells _))))) ?_);intro _ _ _)
               | (with_reducible exact Sim.doom (Doom.bind (Doom.ite (Doom.runtimePanic _) (Doom.after (kx7 _ _ _ _ _) fun q=>Doom.ite (Doom.after (Calm.mark _) fun _=>Doom.unsup _) (Doom.unsup _)))))
               | (with_reducible refine Sim.ite ?_ ?_)
           · dsimp only
             repeat' first
               | with_reducible exact Sim.rtPanicB _
               | with_reducible exact Sim.pure (VR.slc (by assumption) _ _)
               | with_reducible exact Sim.pure (VR.slice _ _ (by assumption))
               | ((with_reducible refine Sim.bindE (kab7 _) ?_);intro _)
               | ((with_reducible refine Sim.bind (kat7 hx) ?_);rintro _ _ ⟨rfl,_⟩)
               | ((with_reducible refine Sim.bind (kaf7 hx) ?_);rintro _ _ ⟨rfl,_⟩)
               | ((with_reducible refine Sim.bind (kg7 _ _ hs DeadV.len) ?_);intro _ _ _)
               | ((with_reducible refine Sim.bind (kz7 _) ?_);intro _ _ _)
               | ((with_reducible refine Sim.bind (kj7 hz _) ?_);rintro _ _ ⟨rfl,hpl⟩)
               | ((with_reducible refine Sim.bind (kw7 _ (ARR.append (ARR.append (by assumption) (by assumption)) (ARR.of_plain (ki7 (Plain.cells (by assumption)) _)))) ?_);intro _ _ _)
               | ((with_reducible refine Sim.bindE (Sim.pure rfl) ?_);intro _)
               | ((with_reducible refine Sim.bindE (Sim.choose _) ?_);intro _)
               | ((with_reducible refine Sim.bind (Sim.ite (kg7 _ _ hx (by first|assumption|exact fun h=>absurd h (by assumption))) (Sim.ite (Sim.pure ARR.nil) (Sim.bind (kj7 hz _) fun a b e=>by
                   obtain⟨rfl,hp⟩:=e
                   exact Sim.pure (ARR.of_plain (ki7 hp.cells _))))) ?_);intro _ _ _)
               | (with_reducible exact Sim.doom (Doom.bind (Doom.ite (Doom.runtimePanic _) (Doom.after (kx7 _ _ _ _ _) fun q=>Doom.ite (Doom.after (Calm.mark _) fun _=>Doom.unsup _) (Doom.unsup _)))))
               | (with_reducible refine Sim.ite ?_ ?_)
       · have ho:OA ρ (some a) (some a'):=.inr ⟨_,_,rfl,rfl,ha⟩
         cases ts[1]? with
         | none =>
           repeat' first
             | with_reducible exact Sim.rtPanicB _
             | with_reducible exact Sim.pure (VR.slc (by assumption) _ _)
             | with_reducible exact Sim.pure (VR.slice _ _ (by assumption))
             | ((with_reducible refine Sim.bindE (kab7 _) ?_);intro _)
             | ((with_reducible refine Sim.bind (kat7 hx) ?_);rintro _ _ ⟨rfl,_⟩)
             | ((with_reducible refine Sim.bind (kaf7 hx) ?_);rintro _ _ ⟨rfl,_⟩)
             | ((with_reducible refine Sim.bind (kg7 _ _ hs DeadV.len) ?_);intro _ _ _)
             | ((with_reducible refine Sim.bind (kz7 _) ?_);intro _ _ _)
             | ((with_reducible refine Sim.bind (kj7 hz _) ?_);rintro _ _ ⟨rfl,hpl⟩)
             | ((with_reducible refine Sim.bind (kbn7 (AR.add (by assumption) _) (by assumption) _) ?_);intro _ _ _)
             | ((with_reducible refine Sim.bind (kw7 _ (ARR.append (ARR.append (by assumption) (by assumption)) (ARR.of_plain (ki7 (Plain.cells (by assumption)) _)))) ?_);intro _ _ _)
             | ((with_reducible refine Sim.bindE (Sim.pure rfl) ?_);intro _)
             | ((with_reducible refine Sim.bindE (Sim.choose _) ?_);intro _)
             | ((with_reducible refine Sim.bind (Sim.ite (kg7 _ _ hx (by first|assumption|exact fun h=>absurd h (by assumption))) (Sim.ite (Sim.pure ARR.nil) (Sim.bind (kj7 hz _) fun a b e=>by
                 obtain⟨rfl,hp⟩:=e
                 exact Sim.pure (ARR.of_plain (ki7 hp.cells _))))) ?_);intro _ _ _)
             | (with_reducible exact Sim.doom (Doom.bind (Doom.ite (Doom.runtimePanic _) (Doom.after (kx7 _ _ _ _ _) fun q=>Doom.ite (Doom.after (Calm.mark _) fun _=>Doom.unsup _) (Doom.unsup _)))))
             | (with_reducible refine Sim.ite ?_ ?_)
         | some xt =>
           refine Sim.bindE (kd7 xt) fun d=>?_
           generalize hb:(match d with|.int _=>true|_=>false)=b
           cases b
           · dsimp only
             repeat' first
               | with_reducible exact Sim.rtPanicB _
               | with_reducible exact Sim.pure (VR.slc (by assumption) _ _)
               | with_reducible exact Sim.pure (VR.slice _ _ (by assumption))
               | ((with_reducible refine Sim.bindE (kab7 _) ?_);intro _)
               | ((with_reducible refine Sim.bind (kat7 hx) ?_);rintro _ _ ⟨rfl,_⟩)
               | ((with_reducible refine Sim.bind (kaf7 hx) ?_);rintro _ _ ⟨rfl,_⟩)
               | ((with_reducible refine Sim.bind (kg7 _ _ hs DeadV.len) ?_);intro _ _ _)
               | ((with_reducible refine Sim.bind (kz7 _) ?_);intro _ _ _)
               | ((with_reducible refine Sim.bind (kj7 hz _) ?_);rintro _ _ ⟨rfl,hpl⟩)
               | ((with_reducible refine Sim.bind (kbn7 (AR.add (by assumption) _) (by assumption) _) ?_);intro _ _ _)
               | ((with_reducible refine Sim.bind (kw7 _ (ARR.append (ARR.append (by assumption) (by assumption)) (ARR.of_plain (ki7 (Plain.cells (by assumption)) _)))) ?_);intro _ _ _)
               | ((with_reducible refine Sim.bindE (Sim.pure rfl) ?_);intro _)
               | ((with_reducible refine Sim.bindE (Sim.choose _) ?_);intro _)
               | ((with_reducible refine Sim.bind (Sim.ite (kg7 _ _ hx (by first|assumption|exact fun h=>absurd h (by assumption))) (Sim.ite (Sim.pure ARR.nil) (Sim.bind (kj7 hz _) fun a b e=>by
                   obtain⟨rfl,hp⟩:=e
                   exact Sim.pure (ARR.of_plain (ki7 hp.cells _))))) ?_);intro _ _ _)
               | (with_reducible exact Sim.doom (Doom.bind (Doom.ite (Doom.runtimePanic _) (Doom.after (kx7 _ _ _ _ _) fun q=>Doom.ite (Doom.after (Calm.mark _) fun _=>Doom.unsup _) (Doom.unsup _)))))
               | (with_reducible refine Sim.ite ?_ ?_)
           · dsimp only
             repeat' first
               | with_reducible exact Sim.rtPanicB _
               | with_reducible exact Sim.pure (VR.slc (by assumption) _ _)
               | with_reducible exact Sim.pure (VR.slice _ _ (by assumption))
               | ((with_reducible refine Sim.bindE (kab7 _) ?_);intro _)
               | ((with_reducible refine Sim.bind (kat7 hx) ?_);rintro _ _ ⟨rfl,_⟩)
               | ((with_reducible refine Sim.bind (kaf7 hx) ?_);rintro _ _ ⟨rfl,_⟩)
               | ((with_reducible refine Sim.bind (kg7 _ _ hs DeadV.len) ?_);intro _ _ _)
               | ((with_reducible refine Sim.bind (kz7 _) ?_);intro _ _ _)
               | ((with_reducible refine Sim.bind (kj7 hz _) ?_);rintro _ _ ⟨rfl,hpl⟩)
               | ((with_reducible refine Sim.bind (kbn7 (AR.add (by assumption) _) (by assumption) _) ?_);intro _ _ _)
               | ((with_reducible refine Sim.bind (kw7 _ (ARR.append (ARR.append (by assumption) (by assumption)) (ARR.of_plain (ki7 (Plain.cells (by assumption)) _)))) ?_);intro _ _ _)
               | ((with_reducible refine Sim.bindE (Sim.pure rfl) ?_);intro _)
               | ((with_reducible refine Sim.bindE (Sim.choose _) ?_);intro _)
               | ((with_reducible refine Sim.bind (Sim.ite (kg7 _ _ hx (by first|assumption|exact fun h=>absurd h (by assumption))) (Sim.ite (Sim.pure ARR.nil) (Sim.bind (kj7 hz _) fun a b e=>by
                   obtain⟨rfl,hp⟩:=e
                   exact Sim.pure (ARR.of_plain (ki7 hp.cells _))))) ?_);intro _ _ _)
               | (with_reducible exact Sim.doom (Doom.bind (Doom.ite (Doom.runtimePanic _) (Doom.after (kx7 _ _ _ _ _) fun q=>Doom.ite (Doom.after (Calm.mark _) fun _=>Doom.unsup _) (Doom.unsup _)))))
               | (with_reducible refine Sim.ite ?_ ?_)
     · cases s<;>first
         | exact absurd rfl (n1 _ _ _)
         | exact Sim.stuck _
     · refine Sim.bindE (ko7 _) fun size=>?_
       cases ts[1]? with
       | none =>
         repeat' first
           | with_reducible exact Sim.rtPanicB _
           | ((with_reducible refine Sim.bind (Sim.ite (kbo7 _ hx (by omega)) (sim_zero0 (by omega))) ?_);rintro _ _ ⟨rfl,rfl⟩)
           | (with_reducible exact khg7 hd (by omega) _)
           | with_reducible exact Sim.pure (VR.slice _ _ (by assumption))
           | ((with_reducible refine Sim.bindE (kab7 _) ?_);intro _)
           | ((with_reducible refine Sim.bind (kat7 hx) ?_);rintro _ _ ⟨rfl,_⟩)
           | ((with_reducible refine Sim.bind (kaf7 hx) ?_);rintro _ _ ⟨rfl,_⟩)
           | ((with_reducible refine Sim.bind (kg7 _ _ hs DeadV.len) ?_);intro _ _ _)
           | ((with_reducible refine Sim.bind (kz7 _) ?_);intro _ _ _)
           | ((with_reducible refine Sim.bind (kj7 hz _) ?_);rintro _ _ ⟨rfl,hpl⟩)
           | ((with_reducible refine Sim.bind (kw7 _ (ARR.append (ARR.append (by assumption) (by assumption)) (ARR.of_plain (ki7 (Plain.cells (by assumption)) _)))) ?_);intro _ _ _)
           | ((with_reducible refine Sim.bindE (Sim.pure rfl) ?_);intro _)
           | ((with_reducible refine Sim.bindE (Sim.choose _) ?_);intro _)
           | ((with_reducible refine Sim.bind (Sim.ite (kg7 _ _ hx (by first|assumption|exact fun h=>absurd h (by assumption))) (Sim.ite (Sim.pure ARR.nil) (Sim.bind (kj7 hz _) fun a b e=>by
               obtain⟨rfl,hp⟩:=e
               exact Sim.pure (ARR.of_plain (ki7 hp.cells _))))) ?_);intro _ _ _)
           | (with_reducible exact Sim.doom (Doom.bind (Doom.ite (Doom.runtimePanic _) (Doom.after (kx7 _ _ _ _ _) fun q=>Doom.ite (Doom.after (Calm.mark _) fun _=>Doom.unsup _) (Doom.unsup _)))))
           | ((with_reducible refine Sim.iteH (c:=0+_≤0) (fun hle=>?_) (fun _=>?_)))
           | (with_reducible refine Sim.ite ?_ ?_)
       | some xt =>
         refine Sim.bindE (kd7 xt) fun d=>?_
         generalize hb:(match d with|.int _=>true|_=>false)=b
         cases b
         · dsimp only
           repeat' first
             | with_reducible exact Sim.rtPanicB _
             | ((with_reducible refine Sim.bind (Sim.ite (kbo7 _ hx (by omega)) (sim_zero0 (by omega))) ?_);rintro _ _ ⟨rfl,rfl⟩)
             | (with_reducible exact khg7 hd (by omega) _)
             | with_reducible exact Sim.pure (VR.slice _ _ (by assumption))
             | ((with_reducible refine Sim.bindE (kab7 _) ?_);intro _)
             | ((with_reducible refine Sim.bind (kat7 hx) ?_);rintro _ _ ⟨rfl,_⟩)
             | ((with_reducible refine Sim.bind (kaf7 hx) ?_);rintro _ _ ⟨rfl,_⟩)
             | ((with_reducible refine Sim.bind (kg7 _ _ hs DeadV.len) ?_);intro _ _ _)
             | ((with_reducible refine Sim.bind (kz7 _) ?_);intro _ _ _)
             | ((with_reducible refine Sim.bind (kj7 hz _) ?_);rintro _ _ ⟨rfl,hpl⟩)
             | ((with_reducible refine Sim.bind (kw7 _ (ARR.append (ARR.append (by assumption) (by assumption)) (ARR.of_plain (ki7 (Plain.cells (by assumption)) _)))) ?_);intro _ _ _)
             | ((with_reducible refine Sim.bindE (Sim.pure rfl) ?_);intro _)
             | ((with_reducible refine Sim.bindE (Sim.choose _) ?_);intro _)
             | ((with_reducible refine Sim.bind (Sim.ite (kg7 _ _ hx (by first|assumption|exact fun h=>absurd h (by assumption))) (Sim.ite (Sim.pure ARR.nil) (Sim.bind (kj7 hz _) fun a b e=>by
                 obtain⟨rfl,hp⟩:=e
                 exact Sim.pure (ARR.of_plain (ki7 hp.cells _))))) ?_);intro _ _ _)
             | (with_reducible exact Sim.doom (Doom.bind (Doom.ite (Doom.runtimePanic _) (Doom.after (kx7 _ _ _ _ _) fun q=>Doom.ite (Doom.after (Calm.mark _) fun _=>Doom.unsup _) (Doom.unsup _)))))
             | ((with_reducible refine Sim.iteH (c:=0+_≤0) (fun hle=>?_) (fun _=>?_)))
             | (with_reducible refine Sim.ite ?_ ?_)
         · dsimp only
           repeat' first
             | with_reducible exact Sim.rtPanicB _
             | ((with_reducible refine Sim.bind (Sim.ite (kbo7 _ hx (by omega)) (sim_zero0 (by omega))) ?_);rintro _ _ ⟨rfl,rfl⟩)
             | (with_reducible exact khg7 hd (by omega) _)
             | with_reducible exact Sim.pure (VR.slice _ _ (by assumption))
             | ((with_reducible refine Sim.bindE (kab7 _) ?_);intro _)
             | ((with_reducible refine Sim.bind (kat7 hx) ?_);rintro _ _ ⟨rfl,_⟩)
             | ((with_reducible refine Sim.bind (kaf7 hx) ?_);rintro _ _ ⟨rfl,_⟩)
             | ((with_reducible refine Sim.bind (kg7 _ _ hs DeadV.len) ?_);intro _ _ _)
             | ((with_reducible refine Sim.bind (kz7 _) ?_);intro _ _ _)
             | ((with_reducible refine Sim.bind (kj7 hz _) ?_);rintro _ _ ⟨rfl,hpl⟩)
             | ((with_reducible refine Sim.bind (kw7 _ (ARR.append (ARR.append (by assumption) (by assumption)) (ARR.of_plain (ki7 (Plain.cells (by assumption)) _)))) ?_);intro _ _ _)
             | ((with_reducible refine Sim.bindE (Sim.pure rfl) ?_);intro _)
             | ((with_reducible refine Sim.bindE (Sim.choose _) ?_);intro _)
             | ((with_reducible refine Sim.bind (Sim.ite (kg7 _ _ hx (by first|assumption|exact fun h=>absurd h (by assumption))) (Sim.ite (Sim.pure ARR.nil) (Sim.bind (kj7 hz _) fun a b e=>by
                 obtain⟨rfl,hp⟩:=e
                 exact Sim.pure (ARR.of_plain (ki7 hp.cells _))))) ?_);intro _ _ _)
             | (with_reducible exact Sim.doom (Doom.bind (Doom.ite (Doom.runtimePanic _) (Doom.after (kx7 _ _ _ _ _) fun q=>Doom.ite (Doom.after (Calm.mark _) fun _=>Doom.unsup _) (Doom.unsup _)))))
             | ((with_reducible refine Sim.iteH (c:=0+_≤0) (fun hle=>?_) (fun _=>?_)))
             | (with_reducible refine Sim.ite ?_ ?_)
   | _=>exact Sim.stuck _
theorem kev7(ts:Array TypeId)(t:TypeId){args args':Array Value}(h:ARR ρ args args')(hnp:∀ a l c,args[0]?=some (.slice (some a) l c)→∀ a',¬ρ.dead a a'):Sim P ρ (VR ρ) (Builtin.unsafeSliceData_ ts t args) (Builtin.unsafeSliceData_ ts t args'):=by
 unfold Builtin.unsafeSliceData_;obtain⟨l⟩:=args;obtain⟨l'⟩:=args';have hs:=h.size;have hg:=h.toList;simp only[List.size_toArray] at hs;rcases l with _|⟨a,_|⟨b,l⟩⟩
 ·exact Sim.stuck _
 ·rcases l' with _|⟨a',_|⟨b',l'⟩⟩
  ·simp at hs
  ·have ha:=hg 0 a a' rfl rfl;cases ha with
   | snone l c=>exact Sim.pure .pnone
   | dead hd=>exact absurd hd (hnp _ _ _ rfl _)
   | @slice b b' l c hb =>
    refine Sim.ite (Sim.pure (.pointer hb)) ?_;refine Sim.bind (keq7 hb.block) fun p q h=>?_;rcases h with⟨rfl,rfl⟩|⟨d,d',t,rfl,rfl,hd⟩
    ·exact Sim.bindE (sim_elemOf _) fun e=>kfn7 hb e
    ·exact Sim.pure (.pointer hb)
   | _=>exact Sim.stuck _
  ·simp at hs
 ·cases a<;>first
   | exact Sim.stuck _
end
end Rn
end
section
namespace Rn
open Go
section
variable {P:Program}{ρ:Ren P}
def SimAt(ρ:Ren P){α β:Type}(R:α→β→Prop)(s:Sem α)(s':Sem β)(wp wr:World):Prop :=
 WR ρ wp wr→(∀ i,wr.heap.size+i<(world (s'.run P wr)).heap.size→ρ.rel (wp.heap.size+i) (wr.heap.size+i)) →
  GBad P s wp∨∃ a wp' a' wr',GOk P s wp a wp'∧R a a'∧After ρ wp wr wp' wr'∧∀ er,∃ e2,s'.runT P wr er=(.ok a' wr',e2)∧∀ e∈e2,e∈er∨OkEv ρ wp'.heap.size e
theorem SimAt.bind{α β γ δ:Type}{R:α→β→Prop}{R':γ→δ→Prop}{s:Sem α}{s':Sem β}{f:α→Sem γ}{f':β→Sem δ}{wp wr:World}(h:SimAt ρ R s s' wp wr)
  (hf:∀ a b wp1 wr1,R a b→GOk P s wp a wp1→SimAt ρ R' (f a) (f' b) wp1 wr1):SimAt ρ R' (s >>= f) (s' >>= f') wp wr:=by
 intro hw hfut;have e0:(s' >>= f').run P wr=(s'.run P wr).andThen fun a w'=>(f' a).run P w':=Sem.run_bind' P s' f' wr;have hsz:(world (s'.run P wr)).heap.size≤(world ((s' >>= f').run P wr)).heap.size:=by
  rw[e0];cases s'.run P wr with
  | ok a w1=>exact run_size (f' a) w1
  | halt x w1=>exact Nat.le_refl _
 rcases h hw fun i hi=>hfut i (Nat.lt_of_lt_of_le hi hsz) with hb|⟨a,wp1,a',wr1,h1,h2,h3,h4⟩
 ·exact .inl (GBad.bind hb)
 ·have er1:s'.run P wr=.ok a' wr1:=by
   obtain⟨e2,h5,_⟩:=h4 #[];exact kdo7 h5
  rw[e0,er1] at hfut;have hs1:=h3.sizes;have hp1:=h3.size;rcases hf a a' wp1 wr1 h2 h1 h3.rel fun i hi=>by
   have:=hfut (wp1.heap.size-wp.heap.size+i) (by rw[←Nat.add_assoc,←hs1];exact hi);rw[←Nat.add_assoc,←Nat.add_assoc,←hs1] at this
   rwa [show wp.heap.size+(wp1.heap.size-wp.heap.size)=wp1.heap.size by omega] at this with hb|⟨b,wp2,b',wr2,k1,k2,k3,k4⟩
  ·exact .inl (h1.bad hb)
  ·refine .inr ⟨b,wp2,b',wr2,h1.bind k1,k2,h3.trans k3,fun er=>?_⟩;obtain⟨e1,h5,h6⟩:=h4 er;obtain⟨e2,k5,k6⟩:=k4 e1;refine⟨e2,?_,fun e he=>?_⟩
   ·show(s'.bind f').runT P wr er=_;rw[Sem.runT_bind',h5];exact k5
   ·rcases k6 e he with h|h
    ·exact(h6 e h).imp id fun x=>x.mono k3.size
    ·exact .inr h
theorem kec7:∀ (n:Nat) {a a':Addr} (acc:ByteArray),AR ρ a a'→Sim P ρ Eq (_root_.Go.loadBytes a acc n) (_root_.Go.loadBytes a' acc n)
 | 0,a,a',acc,_=>Sim.pure rfl
 | n+1,a,a',acc,ha=>Sim.bind (Sim.load ha) fun v v' hv=>by
  cases hv with
  | int k m=>cases k<;>first|exact Sim.stuck _|exact kec7 n _ (ha.add 1)
  | _=>exact Sim.stuck _
theorem ked7{c:Array Value}{t:TypeId}{f:Nat×Nat}:∀ (n:Nat) {a:Addr}{acc s:ByteArray}{w w':World},w.heap[a.block]?=some (.cells c t f)→(_root_.Go.loadBytes a acc n).run P w=.ok s w'→w'=w∧(n=0∨a.off+n≤c.size)
 | 0,a,acc,s,w,w',hc,h=>by
  simp only[_root_.Go.loadBytes] at h;cases h;exact⟨rfl,.inl rfl⟩
 | n+1,a,acc,s,w,w',hc,h=>by
  have e0:(_root_.Go.loadBytes a acc (n+1)).run P w=((Go.load a).run P w).andThen fun v w1=>(match v with
   | .int .u8 b=>_root_.Go.loadBytes (a.add 1) (acc.push b.toNat.toUInt8) n
   | _=>stuck "a byte variable that holds no byte").run P w1:=Sem.run_bind' P _ _ w
  rw[e0] at h;have hl:(Go.load a).run P w=match w.cell? a with
   | some v=>.ok v w
   | none=>.halt (.stuck "load: no such cell") w:=by
   simp only[Go.load,Sem.run];cases w.cell? a with
   | some v=>rfl
   | none=>simp only[World.farLoad,hc,World.noCell]
  rw[hl] at h;cases hv:w.cell? a with
  | none=>rw[hv] at h;cases h
  | some v =>
   rw[hv] at h;have hlt:a.off<c.size:=by
    simp only[World.cell?,hc] at hv
    split at hv
    ·cases hv
    ·exact(Array.getElem?_eq_some_iff.1 hv).1
   simp only[Result.andThen_ok] at h
   split at h
   ·obtain⟨h1,h2⟩:=ked7 n (a:=a.add 1) (by simpa [Addr.add] using hc) h;refine⟨h1,.inr ?_⟩;rcases h2 with h2|h2
    ·omega
    ·simp only[Addr.add] at h2;simp at h2;omega
   ·cases h
theorem sim_bytesFreeze{a a':Addr}(ha:AR ρ a a')(n:Nat):Sim P ρ (VR ρ) (_root_.Go.loadBytes a .empty n >>= fun s=>Go.freeze a n >>= fun _=>(Pure.pure (.string s):Sem Value)) (_root_.Go.loadBytes a' .empty n >>= fun s=>Go.freeze a' n >>= fun _=>(Pure.pure (.string s):Sem Value)):=by
 refine⟨fun wp wr=>?_⟩;refine SimAt.bind (R:=Eq) (fun hw hf=>(kec7 n .empty ha).go wp wr hw hf) fun s s' wp1 wr1 e hk=>?_;subst e;intro hw hf;by_cases hs:ρ.shut a.block
 ·obtain⟨hd,u,hu⟩:=hk;obtain⟨c,t,m,hc,h1,h2⟩:=hw.shut hs;have hr:=hu u fun _ _ _=>rfl;have hle:n=0∨a.off+n≤c.size:=by
   have same:∀ (n:Nat) (a:Addr) (acc s:ByteArray) (w w':World),(_root_.Go.loadBytes a acc n).run P w=.ok s w'→w'=w:=by
    intro n
    induction n with
    | zero=>intro a acc s w w' h;simp only[_root_.Go.loadBytes] at h;cases h;rfl
    | succ n ih =>
     intro a acc s w w' h;have e0:(_root_.Go.loadBytes a acc (n+1)).run P w=((Go.load a).run P w).andThen fun v w1=>(match v with
      | .int .u8 b=>_root_.Go.loadBytes (a.add 1) (acc.push b.toNat.toUInt8) n
      | _=>stuck "a byte variable that holds no byte").run P w1:=Sem.run_bind' P _ _ w
     rw[e0] at h;have hl:(∃ v,(Go.load a).run P w=.ok v w)∨∃ x,(Go.load a).run P w=.halt x w:=by
      simp only[Go.load,Sem.run];cases w.cell? a with
      | some v=>exact .inl ⟨v,rfl⟩
      | none =>
       dsimp only;cases w.farLoad P a (Mode.plain == Mode.atomic) with
       | ok r=>exact .inl ⟨r.1,rfl⟩
       | error e=>exact .inr ⟨e,rfl⟩
     rcases hl with⟨v,hl⟩|⟨x,hl⟩
     ·rw[hl] at h;simp only[Result.andThen_ok] at h
      split at h
      ·exact ih _ _ _ _ _ h
      ·cases h
     ·rw[hl] at h;cases h
   have e:=same _ _ _ _ _ _ hr;have hc':(tp wp u).heap[a.block]?=some (.cells c t (0,m)):=by rw[←e];exact hc
   exact(ked7 n hc' hr).2
  rcases hle with rfl|hle
  ·have z:∀ w:World,∀ b:Addr,w.freeze b 0=w:=fun w b=>by unfold World.freeze;rfl
   exact .inr ⟨.string s,wp1,.string s,wr1,GOk.of (Nat.le_refl _) fun u=>by show Result.ok _ ((tp wp1 u).freeze a 0)=_;rw[z],.string _,After.refl hw,fun er=>⟨er,by show(Result.ok (Value.string s) (wr1.freeze a' 0),er)=_;rw[z],fun e he=>.inl he⟩⟩
  ·refine .inr ⟨.string s,wp1.freeze a n,.string s,wr1.freeze a' n,GOk.of (by unfold World.freeze;split<;>exact Nat.le_refl _) fun u=>by show Result.ok _ ((tp wp1 u).freeze a n)=_;rw[tp_freeze],.string _,After.freeze hw ha n (fun _ c2 t2 f2 h3=>?_),fun er=>⟨er,rfl,fun e he=>.inl he⟩⟩;rw[hc] at h3;cases h3;exact hle
 ·exact(Sim.bind (Sim.freeze ha n hs) fun _ _ _=>Sim.pure (VR.string s)).go wp1 wr1 hw hf
theorem khh7(ts:Array TypeId)(t:TypeId){args args':Array Value}(h:ARR ρ args args'):Sim P ρ (VR ρ) (Builtin.unsafeString_ ts t args) (Builtin.unsafeString_ ts t args'):=by
 unfold Builtin.unsafeString_;obtain⟨l⟩:=args;obtain⟨l'⟩:=args';have hs:=h.size;have hg:=h.toList;simp only[List.size_toArray] at hs;rcases l with _|⟨x,_|⟨y,_|⟨z,l⟩⟩⟩
 ·exact Sim.stuck _
 ·cases x<;>exact Sim.stuck _
 ·rcases l' with _|⟨x',_|⟨y',_|⟨z',l'⟩⟩⟩
  ·simp at hs
  ·simp at hs
  ·have hx:=hg 0 x x' rfl rfl;have hy:=hg 1 y y' rfl rfl;cases hx with
   | pnone =>
    refine Sim.bindE (kbg7 hy) fun n=>?_;dsimp only;cases ts[0]? with
    | none=>exact Sim.stuck _
    | some pt =>
     dsimp only;refine Sim.ite (Sim.rtPanicB _) (Sim.ite (Sim.unsupB _) (Sim.ite (Sim.pure (.string _)) (Sim.rtPanic _)))
   | @pointer a a' ha =>
    refine Sim.bindE (kbg7 hy) fun n=>?_;dsimp only;cases ts[0]? with
    | none=>exact Sim.stuck _
    | some pt =>
     dsimp only;refine Sim.ite (Sim.rtPanicB _) (Sim.ite (Sim.unsupB _) (Sim.ite (Sim.pure (.string _)) ?_));exact Sim.bindE (sim_elemOf _) fun e=>Sim.bindE (kea7 ha _ _) fun b=>Sim.ite (sim_bytesFreeze ha _) (Sim.unsup _)
   | _=>exact Sim.stuck _
  ·simp at hs
 ·cases x<;>exact Sim.stuck _
theorem sameNow_rel(d:TypeDesc){x x' y y':Value}(hx:VR ρ x x')(hy:VR ρ y y'):Instr.sameNow d x' y'=Instr.sameNow d x y:=by
 cases d<;>first
  | rfl
  | (cases hx<;>first
   | rfl
   | (cases hy<;>first
    | rfl
    | (rcases Odd.cases (v:=y') (by assumption) with⟨_,rfl⟩|⟨_,_,_,rfl⟩|⟨_,rfl⟩|⟨_,rfl⟩|⟨_,_,_,rfl⟩|⟨_,_,rfl⟩|⟨_,rfl⟩<;>rfl)
    | (rcases Odd.cases (v:=x') (by assumption) with⟨_,rfl⟩|⟨_,_,_,rfl⟩|⟨_,rfl⟩|⟨_,rfl⟩|⟨_,_,_,rfl⟩|⟨_,_,rfl⟩|⟨_,rfl⟩<;>rfl)
    | (rcases Odd.cases (v:=x') (by assumption) with⟨_,rfl⟩|⟨_,_,_,rfl⟩|⟨_,rfl⟩|⟨_,rfl⟩|⟨_,_,_,rfl⟩|⟨_,_,rfl⟩|⟨_,rfl⟩<;>(rcases Odd.cases (v:=y') (by assumption) with⟨_,rfl⟩|⟨_,_,_,rfl⟩|⟨_,rfl⟩|⟨_,rfl⟩|⟨_,_,_,rfl⟩|⟨_,_,rfl⟩|⟨_,rfl⟩<;>rfl))))
def FR(ρ:Ren P)(x y:Option (Nat×Value)):Prop:=(x=none∧y=none)∨∃ i v v',x=some (i,v)∧y=some (i,v')∧VR ρ v v'
def ELR(ρ:Ren P)(l l':List MapEntry):Prop:=l.length=l'.length∧∀ (i:Nat) (e e':MapEntry),l[i]?=some e→l'[i]?=some e'→ER ρ e e'
theorem ELR.tail{x y:MapEntry}{l l':List MapEntry}(h:ELR ρ (x::l) (y::l')):ELR ρ l l':=⟨by simpa using h.1,fun i u v h1 h2=>h.2 (i+1) u v (by simpa using h1) (by simpa using h2)⟩
theorem ELR.head{x y:MapEntry}{l l':List MapEntry}(h:ELR ρ (x::l) (y::l')):ER ρ x y:=h.2 0 x y rfl rfl
theorem EAR.toList{xs ys:Array MapEntry}(h:EAR ρ xs ys):ELR ρ xs.toList ys.toList:=⟨by simp[h.size],fun i e e' h1 h2=>h.get i e e' (by simpa using h1) (by simpa using h2)⟩
theorem findNow_rel(d:TypeDesc){k k':Value}(hk:VR ρ k k'):∀ (l l':List MapEntry) (i:Nat),ELR ρ l l' →
  (Instr.findNow d k l i=none∧Instr.findNow d k' l' i=none)∨∃ r r',Instr.findNow d k l i=some r∧Instr.findNow d k' l' i=some r'∧FR ρ r r'
 | [],[],i,_=>.inr ⟨none,none,rfl,rfl,.inl ⟨rfl,rfl⟩⟩
 | e::l,e'::l',i,h=>by
  unfold Instr.findNow;rw[sameNow_rel d hk h.head.key];cases Instr.sameNow d k e.key with
  | none=>exact .inl ⟨rfl,rfl⟩
  | some b =>
   cases b with
   | true=>exact .inr ⟨_,_,rfl,rfl,.inr ⟨_,_,_,rfl,rfl,h.head.val⟩⟩
   | false=>exact findNow_rel d hk l l' (i+1) h.tail
 | [],_::_,_,h=>by simp[ELR] at h
 | _::_,[],_,h=>by simp[ELR] at h
theorem kew7(t:TypeId){k k':Value}(hk:VR ρ k k'):∀ (l l':List MapEntry) (i:Nat),ELR ρ l l'→Sim P ρ (FR ρ) (Instr.findAsking t k l i) (Instr.findAsking t k' l' i)
 | [],[],i,_=>Sim.pure (.inl ⟨rfl,rfl⟩)
 | e::l,e'::l',i,h=>by
  unfold Instr.findAsking;exact Sim.bindE (sim_equal t hk h.head.key) fun b=>Sim.ite (Sim.pure (.inr ⟨_,_,_,rfl,rfl,h.head.val⟩)) (kew7 t hk l l' (i+1) h.tail)
 | [],_::_,_,h=>by simp[ELR] at h
 | _::_,[],_,h=>by simp[ELR] at h
theorem sim_findKey(t:TypeId){k k':Value}(hk:VR ρ k k'){l l':List MapEntry}(h:ELR ρ l l'):Sim P ρ (FR ρ) (Instr.findKey t k l) (Instr.findKey t k' l'):=by
 refine Sim.bindE (kd7 t) fun d=>?_;rcases findNow_rel d hk l l' 0 h with⟨e1,e2⟩|⟨r,r',e1,e2,hr⟩
 ·rw[e1,e2];exact kew7 t hk l l' 0 h
 ·rw[e1,e2];exact Sim.pure hr
theorem keh7(b:Bool):∀ (n:Nat) (t:TypeId) {v v':Value},VR ρ v v'→Sim P ρ (fun _ _=>True) (Instr.checkKey b n t v) (Instr.checkKey b n t v')
 | 0,t,_,_,_=>Sim.unsup _
 | n+1,t,v,v',hv=>by
  have ih:=keh7 b n;unfold Instr.checkKey;refine Sim.bindE (kd7 t) fun d=>?_;cases d with
  | interface ms =>
   cases hv with
   | nilIface=>exact Sim.pure trivial
   | iface tx hx =>
    refine Sim.bindE (kab7 _) fun i=>?_;dsimp only;refine Sim.ite ?_ (ih _ hx);refine Sim.doom ?_
    split
    ·exact Doom.bind (Doom.runtimePanic _)
    ·refine Doom.after ?_ fun s=>Doom.bind (Doom.runtimePanic _);unfold typeStr;refine Calm.bind (Calm.bind Calm.program fun p=>by
      split
      ·exact Calm.pure _
      ·exact(Doom.stuck _).calm) fun i=>?_
     dsimp only
     split
     ·exact(Doom.unsup _).calm
     ·exact Calm.pure _
   | _=>exact Sim.stuck _
  | array len elem =>
   cases hv with
   | agg h1 h2 =>
    have a1:=ARR.mk (ρ:=ρ) h1 h2;refine Sim.forRange _ _ (fun f r=>?_) fun r=>?_
    ·repeat' first
      | with_reducible exact Sim.pure (.inr ⟨_,_,rfl,rfl,rfl⟩)
      | ((with_reducible refine Sim.bind (kcp7 _ a1 _) ?_);intro _ _ _)
      | ((with_reducible refine Sim.bind (ih _ (by assumption)) ?_);intro _ _ _)
      | ((with_reducible refine Sim.bindE (ko7 _) ?_);intro _)
    ·exact Sim.pure trivial
   | _=>exact Sim.stuck _
  | struct fields =>
   cases hv with
   | agg h1 h2 =>
    have a1:=ARR.mk (ρ:=ρ) h1 h2;refine Sim.forArr _ _ (fun f r=>?_) fun r=>?_
    ·repeat' first
      | with_reducible exact Sim.pure (.inr ⟨_,_,rfl,rfl,rfl⟩)
      | ((with_reducible refine Sim.bind (kcp7 _ a1 _) ?_);intro _ _ _)
      | ((with_reducible refine Sim.bind (ih _ (by assumption)) ?_);intro _ _ _)
      | (with_reducible refine Sim.ite ?_ ?_)
    ·exact Sim.pure trivial
   | _=>exact Sim.stuck _
  | _=>cases hv<;>exact Sim.pure trivial
theorem sim_lookup(hz:Zeros P)(t:TypeId){x x' k k':Value}(hx:VR ρ x x')(hk:VR ρ k k')(ok:Bool):Sim P ρ (VR ρ) (Instr.lookup t x k ok) (Instr.lookup t x' k' ok):=by
 unfold Instr.lookup;refine Sim.bindE (kd7 t) fun d=>?_;cases d with
 | map key elem =>
  have last:∀ (es es':Array MapEntry),EAR ρ es es'→Sim P ρ (VR ρ) (do
    Instr.checkKey es.isEmpty 10000 key k
    let (v,o) ←match ←Instr.findKey key k es.toList with
     | some (_,v)=>pure (v,true)
     | none=>pure (←zeroValue elem,false)
    pure (if ok then .tuple #[v,.bool o] else v):Sem Value) (do
    Instr.checkKey es'.isEmpty 10000 key k'
    let (v,o) ←match ←Instr.findKey key k' es'.toList with
     | some (_,v)=>pure (v,true)
     | none=>pure (←zeroValue elem,false)
    pure (if ok then .tuple #[v,.bool o] else v):Sem Value):=by
   intro es es' h;have he:es'.isEmpty=es.isEmpty:=by simp[Array.isEmpty,h.size]
   rw[he];refine Sim.bind (keh7 _ _ _ hk) fun _ _ _=>Sim.bind (sim_findKey key hk h.toList) fun r r' hr=>?_;have fin:∀ (v v':Value) (b:Bool),VR ρ v v'→VR ρ (if ok=true then .tuple #[v,.bool b] else v) (if ok=true then .tuple #[v',.bool b] else v'):=by
    intro v v' b hv
    split
    ·exact VR.tuple' (ARR.push (xs:=#[v]) (xs':=#[v']) (ARR.one hv) (.bool b))
    ·exact hv
   rcases hr with⟨rfl,rfl⟩|⟨i,v,v',rfl,rfl,hv⟩
   ·refine Sim.bind (kj7 hz elem) fun z z' e=>?_;obtain⟨rfl,hp⟩:=e;exact Sim.pure (fin _ _ _ hp.vr)
   ·exact Sim.pure (fin _ _ _ hv)
  cases hx with
  | mnone=>exact last #[] #[] EAR.nil
  | map hr =>
   refine Sim.bind (Sim.getObj hr) fun o o' ho=>?_;cases ho.1 with
   | map n he=>exact last _ _ he
   | _=>exact Sim.stuck _
  | _=>exact Sim.stuckB _
 | _=>exact Sim.stuck _
theorem kfo7:∀ (n:Nat) {x x' y y':Value},VR ρ x x'→VR ρ y y'→Instr.sameBits n x y=true→Instr.sameBits n x' y'=true
 | n,x,x',y,y',hx,hy,h=>by
  cases hx with
  | wild ho=>cases n<;>(unfold Instr.sameBits at h;cases h)
  | @pointer a a' ha =>
   cases hy with
   | @pointer b b' hb =>
    unfold Instr.sameBits at h ⊢;have:=ha.beq hb;simp only[Option.some_beq_some] at h ⊢;exact this.trans h
   | wild ho=>cases n<;>(unfold Instr.sameBits at h;cases h)
   | _=>unfold Instr.sameBits at h ⊢;exact h
  | @iface t v v' hv =>
   cases hy with
   | @iface u w w' hw =>
    cases n with
    | zero=>unfold Instr.sameBits at h ⊢;exact h
    | succ n =>
     unfold Instr.sameBits at h ⊢;rw[Bool.and_eq_true] at h ⊢;exact⟨h.1,kfo7 n hv hw h.2⟩
   | wild ho=>cases n<;>(unfold Instr.sameBits at h;cases h)
   | _=>cases n<;>(unfold Instr.sameBits at h ⊢;exact h)
  | @agg xs xs' h1 h2 =>
   cases hy with
   | @agg ys ys' k1 k2 =>
    cases n with
    | zero=>unfold Instr.sameBits at h ⊢;exact h
    | succ n =>
     unfold Instr.sameBits at h ⊢;rw[Bool.and_eq_true] at h ⊢;refine⟨by rw[←h1,←k1];exact h.1,?_⟩;rw[List.all_eq_true] at h ⊢;have go:∀ i:Nat,(xs'.toList.zip ys'.toList)[i]?=none↔(xs.toList.zip ys.toList)[i]?=none:=by
      intro i;simp[List.getElem?_eq_none_iff,h1,k1]
     have step:∀ (i:Nat) (p p':Value×Value),(xs.toList.zip ys.toList)[i]?=some p→(xs'.toList.zip ys'.toList)[i]?=some p'→Instr.sameBits n p.1 p.2=true→Instr.sameBits n p'.1 p'.2=true:=by
      intro i p p' e1 e2;simp only[List.getElem?_zip_eq_some,Array.getElem?_toList] at e1 e2;exact kfo7 n (h2 i _ _ e1.1 e2.1) (k2 i _ _ e1.2 e2.2)
     intro p' hp;obtain⟨i,hi⟩:=List.mem_iff_getElem?.1 hp;cases e:(xs.toList.zip ys.toList)[i]? with
     | none=>rw[(go i).2 e] at hi;cases hi
     | some p =>
      have:=h.2 p (List.mem_iff_getElem?.2 ⟨i,e⟩);exact step i p p' e hi this
   | wild ho=>cases n<;>(unfold Instr.sameBits at h;cases h)
   | _=>cases n<;>(unfold Instr.sameBits at h ⊢;exact h)
  | _=>cases hy<;>first|(cases n<;>(unfold Instr.sameBits at h ⊢;exact h))|(cases n<;>(unfold Instr.sameBits at h;cases h))
theorem khi7{x x' y y':Value}(hx:VR ρ x x')(hy:VR ρ y y'):Sim P ρ (VR ρ) (Instr.keyThatStays x y) (Instr.keyThatStays x' y'):=by
 have both:Sim P ρ (VR ρ) (Go.choose (.extern "map.whichKeyStays" 2) >>= fun n=>(Pure.pure (if n=0 then y else x):Sem Value)) (Go.choose (.extern "map.whichKeyStays" 2) >>= fun n=>(Pure.pure (if n=0 then y' else x'):Sem Value)):=by
  refine Sim.bindE (Sim.choose _) fun n=>Sim.pure ?_
  split
  ·exact hy
  ·exact hx
 unfold Instr.keyThatStays;cases h:Instr.sameBits 10000 x y with
 | true =>
  rw[kfo7 10000 hx hy h];exact Sim.pure hy
 | false =>
  cases h':Instr.sameBits 10000 x' y' with
  | false=>exact both
  | true =>
   show Sim P ρ (VR ρ) (Go.choose (.extern "map.whichKeyStays" 2) >>= fun n=>(Pure.pure (if n=0 then y else x):Sem Value)) ((Pure.pure ():Sem Unit) >>= fun _=>(Pure.pure y':Sem Value));refine Sim.bind (Sim.chooseL "map.whichKeyStays" 2 (by decide) 0 (by decide) (b:=())) fun n u hn=>Sim.pure ?_;obtain⟨rfl,-⟩:=hn;exact hy
theorem EAR.push{es es':Array MapEntry}{e e':MapEntry}(h:EAR ρ es es')(he:ER ρ e e'):EAR ρ (es.push e) (es'.push e'):=by
 refine⟨by simp[h.size],fun i x x' hx hx'=>?_⟩;rw[Array.getElem?_push] at hx hx';rw[←h.size] at hx'
 split at hx
 ·rename_i hi
  rw[if_pos hi] at hx';cases hx;cases hx';exact he
 ·rename_i hi
  rw[if_neg hi] at hx';exact h.get i x x' hx hx'
theorem EAR.modify{es es':Array MapEntry}{f f':MapEntry→MapEntry}(h:EAR ρ es es')(j:Nat)(hf:∀ e e',ER ρ e e'→ER ρ (f e) (f' e')):EAR ρ (es.modify j f) (es'.modify j f'):=by
 refine⟨by simp[h.size],fun i x x' hx hx'=>?_⟩;rw[Array.getElem?_modify] at hx hx'
 split at hx
 ·rename_i hi
  rw[if_pos hi] at hx';obtain⟨e,e1,rfl⟩:=Option.map_eq_some_iff.1 hx;obtain⟨e',e2,rfl⟩:=Option.map_eq_some_iff.1 hx';exact hf e e' (h.get i e e' e1 e2)
 ·rename_i hi
  rw[if_neg hi] at hx';exact h.get i x x' hx hx'
theorem sim_mapUpdate(t:TypeId){m m' k k' v v':Value}(hm:VR ρ m m')(hk:VR ρ k k')(hv:VR ρ v v'):Sim P ρ (fun _ _=>True) (Instr.mapUpdate t m k v) (Instr.mapUpdate t m' k' v'):=by
 unfold Instr.mapUpdate;refine Sim.bindE (kd7 t) fun d=>?_;cases d with
 | map key elem =>
  cases hm with
  | mnone=>exact Sim.rtPanic _
  | map hr =>
   refine Sim.bind (Sim.getObj hr) fun o o' ho=>?_;obtain⟨ho,hs⟩:=ho;cases ho with
   | @map es es' clock he =>
    have hns:=hs ⟨_,_,rfl⟩;refine Sim.bind (keh7 _ _ _ hk) fun _ _ _=>Sim.bind (sim_findKey key hk he.toList) fun r r' hr2=>?_;rcases hr2 with⟨rfl,rfl⟩|⟨i,u,u',rfl,rfl,hu⟩
    ·exact Sim.setObj hr hns (.map _ (he.push ⟨hk,hv,rfl⟩)) fun _ _ _ e=>by cases e
    ·have hold:VR ρ (((es[i]?).map (·.key)).getD k) (((es'[i]?).map (·.key)).getD k'):=by
      by_cases hi:i<es.size
      ·have hi':i<es'.size:=he.size ▸ hi;rw[Array.getElem?_eq_getElem hi,Array.getElem?_eq_getElem hi'];exact(he.get i _ _ (Array.getElem?_eq_getElem hi) (Array.getElem?_eq_getElem hi')).key
      ·rw[Array.getElem?_eq_none (by omega),Array.getElem?_eq_none (by rw[←he.size];omega)];exact hk
     exact Sim.bind (khi7 hold hk) fun q q' hq=>Sim.setObj hr hns (.map _ (he.modify i fun e e' h=>⟨hq,hv,h.born⟩)) fun _ _ _ e=>by cases e
   | _=>exact Sim.stuck _
  | _=>exact Sim.stuck _
 | _=>exact Sim.stuck _
end
end Rn
end
section
namespace Rn
open Go
section
variable {P:Program}{ρ:Ren P}
inductive PlR(ρ:Ren P):Place→Place→Prop
 | val {v v':Value}:VR ρ v v'→PlR ρ (.val v) (.val v')
 | var {a a':Addr}:AR ρ a a'→PlR ρ (.var a) (.var a')
theorem sim_get(t:TypeId){x x':Place}(h:PlR ρ x x'):Sim P ρ (VR ρ) (x.get t) (x'.get t):=by
 cases h with
 | val h=>exact Sim.pure h
 | var h=>exact kdp7 t h
theorem kex7:∀ (l:List FieldStep) (t:TypeId) {x x':Place},PlR ρ x x'→Sim P ρ (fun p q=>p.1=q.1∧PlR ρ p.2 q.2) (follow l t x) (follow l t x')
 | [],t,_,_,h=>Sim.pure ⟨rfl,h⟩
 | s::rest,t,x,x',h=>by
  unfold follow;refine Sim.bindE (kd7 _) fun d=>?_;cases d with
  | struct fields =>
   dsimp only;cases fields[s.index]? with
   | none=>exact Sim.stuck _
   | some f =>
    dsimp only
    split
    ·exact Sim.bind (sim_get t h) fun v v' hv=>Sim.bind (keo7 hv) fun a a' ha=>Sim.bind (kcq7 ha f) fun b b' hb=>kex7 rest _ (.var hb)
    ·cases h with
     | var ha=>exact Sim.bind (kcq7 ha f) fun b b' hb=>kex7 rest _ (.var hb)
     | val hv =>
      cases hv with
      | agg h1 h2=>exact Sim.bind (kcp7 _ ⟨h1,h2⟩ _) fun b b' hb=>kex7 rest _ (.val hb)
      | _=>exact Sim.stuck _
  | _=>exact Sim.stuck _
theorem sim_wrapNil(ts:Array TypeId)(t:TypeId){x x':Value}(h:VR ρ x x')(a b:ByteArray):Sim P ρ (VR ρ) (Builtin.ssaWrapNilChk_ ts t #[x,.string a,.string b]) (Builtin.ssaWrapNilChk_ ts t #[x',.string a,.string b]):=by
 unfold Builtin.ssaWrapNilChk_;cases h with
 | pointer h=>exact Sim.pure (.pointer h)
 | pnone =>
  refine Sim.doom ?_;refine Doom.after (Calm.choose _) fun n=>?_
  try dsimp only
  split
  ·exact Doom.bind (Doom.runtimePanic _)
  ·cases ts[0]? with
   | none=>exact Doom.stuck _
   | some pt =>
    have un:∀ t,Calm P (underlying t):=fun t=>Calm.bind Calm.program fun p=>by
     split
     ·exact Calm.pure _
     ·exact(Doom.stuck _).calm
    have ti:∀ t,Calm P (typeInfo t):=fun t=>Calm.bind Calm.program fun p=>by
     split
     ·exact Calm.pure _
     ·exact(Doom.stuck _).calm
    refine Doom.after (un _) fun d=>?_
    split
    ·refine Doom.after (ti _) fun i=>?_
     split
     ·split
      ·split
       ·exact Doom.runtimePanic _
       ·exact Doom.unsup _
      ·exact Doom.stuck _
     ·exact Doom.stuck _
    ·exact Doom.stuck _
 | _=>exact Sim.stuck _
theorem sim_receiverAt (t:TypeId) {x x':Place} (h:PlR ρ x x') (b:Bool) (w:Option String):Sim P ρ (VR ρ) (receiverAt t x b w) (receiverAt t x' b w):=by
 unfold receiverAt
 refine Sim.bindE (kd7 _) fun d=>?_
 cases d<;>cases b<;>first
   | (exact sim_get t h)
   | (cases h with
      | val hv=>exact Sim.stuck _
      | var ha=>exact Sim.pure (.pointer ha))
   | (refine Sim.bind (sim_get t h) fun p p' hp=>?_
      have last:∀ q q':Value,VR ρ q q'→∀ e:TypeId,Sim P ρ (VR ρ) (asAddr q >>= fun a=>loadVar e a) (asAddr q' >>= fun a=>loadVar e a):=fun q q' hq e=>Sim.bind (keo7 hq) fun a a' ha=>kdp7 e ha
      cases w with
      | some name=>exact Sim.bind (sim_wrapNil _ _ hp _ _) fun q q' hq=>last _ _ hq _
      | none=>exact last _ _ hp _)
def MethOk(P:Program)(S:Nat→Bool)(name:String):Prop:=∀ (t:TypeId) (i:TypeInfo) (m:Method) (f:FuncId) (b:Bool),P.info? t=some i→m∈i.methods→m.name=name→m.func=some (f,b)→S f=true
theorem sim_method{S:Nat→Bool}(name:String)(hm:MethOk P S name):∀ (n:Nat) (t:TypeId) {v v':Value},VR ρ v v'→Sim P ρ (fun p q=>p.1=q.1∧S p.1=true∧VR ρ p.2 q.2) (method n t v name) (method n t v' name)
 | 0,_,_,_,_=>Sim.unsup _
 | n+1,t,v,v',hv=>by
  unfold method;refine Sim.bind (kef7 t) fun i i' hi=>?_;obtain⟨rfl,hi⟩:=hi;dsimp only;cases hf:i.methods.find? (·.name == name) with
  | none=>exact Sim.stuck _
  | some m =>
   have hmem:=Array.mem_of_find?_eq_some hf;have hnm:m.name=name:=by simpa using Array.find?_some hf
   refine Sim.bind (kex7 _ _ (.val hv)) fun p q hpq=>?_;obtain⟨p1,p2⟩:=p;obtain⟨q1,q2⟩:=q;obtain⟨h1,h2⟩:=hpq;simp only at h1 h2;subst h1;cases hfn:m.func with
   | none =>
    refine Sim.bind (sim_get _ h2) fun u u' hu=>?_;cases hu with
    | iface t' hw=>exact sim_method name hm n t' hw
    | nilIface=>exact Sim.rtPanic _
    | _=>exact Sim.stuck _
   | some fb =>
    obtain⟨f,b⟩:=fb;exact Sim.bind (sim_receiverAt _ h2 b _) fun r r' hr=>Sim.pure ⟨rfl,hm t i m f b hi hmem hnm hfn,hr⟩
inductive NR(ρ:Ren P):Next→Next→Prop
 | value {v v':Value}:VR ρ v v'→NR ρ (.value v) (.value v')
 | skip:NR ρ .skip .skip
 | enter {f:Nat}{xs xs':Array Value}:ρ.ok f→ARR ρ xs xs'→NR ρ (.enter f xs) (.enter f xs')
def FnOk(P:Program)(f:FuncId):Prop :=
 ∃ fn,P.funcs[f]?=some fn∧(fn.name == "runtime.NumGoroutine")=false ∧
  ((∃ c,fn.body=some c)∨(fn.body=none∧Extern.findNext fn=none∧∃ e,Extern.find fn=some e∧∀ (ρ:Ren P) (xs xs':Array Value),ARR ρ xs xs'→Sim P ρ (VR ρ) (e xs) (e xs')))
theorem khj7{f:FuncId}(h:FnOk P f)(hok:ρ.ok f){xs xs':Array Value}(hx:ARR ρ xs xs'):Sim P ρ (NR ρ) (callFunc f xs) (callFunc f xs'):=by
 obtain⟨fn,hf,hn,hb⟩:=h;unfold callFunc;refine Sim.progB ?_;rw[hf];dsimp only;simp only[hn,Bool.false_eq_true,if_false];rcases hb with⟨c,hc⟩|⟨hc,h1,e,h2,h3⟩
 ·rw[hc];exact Sim.pure (NR.enter hok hx)
 ·rw[hc,h1,h2];exact Sim.bind (Sim.mark (.inr ⟨f,rfl⟩)) fun _ _ _=>Sim.bind (h3 ρ xs xs' hx) fun v v' hv=>Sim.pure (NR.value hv)
theorem sim_callMethod{S:Nat→Bool}(hS:∀ f,S f=true→FnOk P f∧ρ.ok f)(name:String)(hm:MethOk P S name){r r':Value}(hr:VR ρ r r'){xs xs':Array Value}(hx:ARR ρ xs xs') :
  Sim P ρ (NR ρ) (callMethod r name xs) (callMethod r' name xs'):=by
 unfold callMethod;cases hr with
 | iface t hv =>
  refine Sim.progB (Sim.bind (sim_method name hm _ t hv) fun p q hpq=>?_);obtain⟨p1,p2⟩:=p;obtain⟨q1,q2⟩:=q;obtain⟨h1,h2,h3⟩:=hpq;simp only at h1 h2 h3;subst h1;exact khj7 (hS _ h2).1 (hS _ h2).2 ((ARR.one h3).append hx)
 | nilIface=>exact Sim.rtPanic _
 | _=>exact Sim.stuck _
def okBuiltin:Builtin→Bool
 | .len|.append|.cap|.min|.max|.copy|.unsafeSliceData|.unsafeString=>true
 | _=>false
theorem sim_builtin(hz:Zeros P)(b:Builtin)(ts:Array TypeId)(t:TypeId)(cs:Array Bool){xs xs':Array Value}(h:okBuiltin b=true)(hx:ARR ρ xs xs')(hnp:b=.unsafeSliceData→∀ a l c,xs[0]?=some (.slice (some a) l c)→∀ a',¬ρ.dead a a'):Sim P ρ (NR ρ) (builtin b ts t cs xs) (builtin b ts t cs xs'):=by
 have v:∀ {s s':Sem Value},Sim P ρ (VR ρ) s s'→Sim P ρ (NR ρ) (s >>= fun v=>(pure (.value v):Sem Next)) (s' >>= fun v=>(pure (.value v):Sem Next)):=fun h=>Sim.bind h fun a b hv=>Sim.pure (.value hv);cases b<;>simp[okBuiltin] at h
 ·exact v (sim_append hz ts t hx)
 ·exact v (sim_cap ts t hx)
 ·exact v (sim_copy ts t hx)
 ·exact v (sim_len ts t hx)
 ·exact v (sim_max ts t hx)
 ·exact v (sim_min ts t hx)
 ·exact v (kev7 ts t hx (hnp rfl))
 ·exact v (khh7 ts t hx)
def atom:Value→Bool
 | .bool _|.int _ _|.float _ _|.complex _ _ _|.string _|.pointer none|.slice none _ _|.map none|.chan none|.nilFunc|.nilIface=>true
 | _=>false
def atom2:Value→Bool
 | .agg cs=>cs.all atom
 | v=>atom v
def plainB:Value→Bool
 | .agg cs=>cs.all atom2
 | .tuple cs=>cs.all atom2
 | v=>atom v
theorem Plain.atom{v:Value}(h:atom v=true):Plain v:=by
 cases v with
 | pointer a=>cases a<;>first|exact .pnone|simp[Rn.atom] at h
 | slice a l c=>cases a<;>first|exact .snone _ _|simp[Rn.atom] at h
 | map r=>cases r<;>first|exact .mnone|simp[Rn.atom] at h
 | chan r=>cases r<;>first|exact .cnone|simp[Rn.atom] at h
 | bool b=>exact .bool b
 | int k n=>exact .int k n
 | float k n=>exact .float k n
 | complex k a b=>exact .complex k a b
 | string s=>exact .string s
 | nilFunc=>exact .nilFunc
 | nilIface=>exact .nilIface
 | _=>simp[Rn.atom] at h
theorem Plain.atom2{v:Value}(h:atom2 v=true):Plain v:=by
 have all:∀ cs:Array Value,cs.all Rn.atom=true→∀ (i:Nat) (v:Value),cs[i]?=some v→Plain v:=by
  intro cs h i v hv;rw[Array.all_eq_true_iff_forall_mem] at h;exact Plain.atom (h v (Array.mem_of_getElem? hv))
 cases v with
 | agg cs=>exact .agg (all cs h)
 | _=>exact Plain.atom h
theorem Plain.of{v:Value}(h:plainB v=true):Plain v:=by
 have all:∀ cs:Array Value,cs.all Rn.atom2=true→∀ (i:Nat) (v:Value),cs[i]?=some v→Plain v:=by
  intro cs h i v hv;rw[Array.all_eq_true_iff_forall_mem] at h;exact Plain.atom2 (h v (Array.mem_of_getElem? hv))
 cases v with
 | agg cs=>exact .agg (all cs h)
 | tuple cs=>exact .tuple (all cs h)
 | _=>exact Plain.atom h
def okV(S:Nat→Bool):Operand→Bool
 | .tmp _=>true
 | .const v=>plainB v
 | .func f=>S f
 | .global _=>false
def EvR(ρ:Ren P)(S:Nat→Bool)(e e':Operand→Value):Prop:=∀ o,okV S o=true→VR ρ (e o) (e' o)
def notSD:Builtin→Bool
 | .unsafeSliceData=>false
 | _=>true
def okOp(P:Program)(S:Nat→Bool)(M:List String):Op→Bool
 | .move x|.assign x|.box _ x|.load _ x|.nilCheck x|.unOp _ _ x|.makeInterface _ x|.fieldAddr _ x _|.field _ x _|.extract x _|.panic x=>okV S x
 | .alloc _=>true
 | .pick c a b=>okV S c && okV S a && okV S b
 | .build _ ps|.buildSlice _ _ ps=>ps.all fun p=>okV S p.2
 | .store _ a x=>okV S a && okV S x
 | .binOp o _ x y _=>okBin o && okV S x && okV S y
 | .convert s d x=>(okConvert P s d || (M.contains "" && okConvert2 P s d)) && okV S x
 | .makeFunc (.func f) a b=>S f && a.all (okV S) && b.all (okV S)
 | .makeMap _ r=>r.all (okV S)
 | .makeSlice _ l c=>okV S l && okV S c
 | .slice _ x l h m=>okV S x && l.all (okV S) && h.all (okV S) && m.all (okV S)
 | .indexAddr _ x i|.index _ x i|.lookup _ x i _=>okV S x && okV S i
 | .mapUpdate _ m k x=>okV S m && okV S k && okV S x
 | .call c=>c.args.all (okV S) && match c.callee with
  | .builtin b=>okBuiltin b && (notSD b || !M.contains "-")
  | .value f=>okV S f
  | .invoke r n=>okV S r && M.contains n
 | _=>false
structure RhoOk(ρ:Ren P)(S:Nat→Bool)(M:List String):Prop where
 ok:∀ f,ρ.ok f↔S f=true
 opened : "" ∈ M → ∀ b, ¬ ρ.shut b
 undead : ""∈M→∀ a a',¬ρ.dead a a'
theorem EvR.args{S:Nat→Bool}{e e':Operand→Value}(h:EvR ρ S e e'){l:Array Operand}(hl:l.all (okV S)=true):ARR ρ (l.map e) (l.map e'):=by
 refine⟨by simp,fun i v v' h1 h2=>?_⟩;rw[Array.getElem?_map] at h1 h2;obtain⟨o,ho,rfl⟩:=Option.map_eq_some_iff.1 h1;rw[ho] at h2;cases h2;rw[Array.all_eq_true_iff_forall_mem] at hl;exact h o (hl o (Array.mem_of_getElem? ho))
theorem EvR.opt{S:Nat→Bool}{e e':Operand→Value}(h:EvR ρ S e e'){l:Option Operand}(hl:l.all (okV S)=true):OV ρ (l.map e) (l.map e'):=by
 cases l with
 | none=>exact .inl ⟨rfl,rfl⟩
 | some o=>exact .inr ⟨_,_,rfl,rfl,h o hl⟩
theorem EvR.parts{S:Nat→Bool}{e e':Operand→Value}(h:EvR ρ S e e'){l:Array (Nat×Operand)}(hl:(l.all fun p=>okV S p.2)=true):PR ρ (l.map fun x=>(x.1,e x.2)).toList (l.map fun x=>(x.1,e' x.2)).toList:=by
 refine⟨by simp,fun i v v' h1 h2=>?_⟩;simp only[Array.toList_map,List.getElem?_map,Option.map_eq_some_iff,Array.getElem?_toList] at h1 h2;obtain⟨o,ho,rfl⟩:=h1;obtain⟨o',ho',rfl⟩:=h2;rw[ho] at ho';cases ho';rw[Array.all_eq_true_iff_forall_mem] at hl;exact⟨rfl,h o.2 (hl o (Array.mem_of_getElem? ho))⟩
structure Ok0(P:Program)(S:Nat→Bool)(M:List String):Prop where
 zeros:Zeros P
 fns:∀ f,S f=true→FnOk P f
 meths:∀ n∈M,MethOk P S n
theorem sim_invokeF{S:Nat→Bool}{M:List String}(ok:Ok0 P S M)(hρ:∀ f,ρ.ok f↔S f=true){v v':Value}(hv:VR ρ v v'){xs xs':Array Value}(hx:ARR ρ xs xs') :
  Sim P ρ (NR ρ) (Deferred.ofValue v xs >>= fun d=>invoke d.target d.args) (Deferred.ofValue v' xs' >>= fun d=>invoke d.target d.args):=by
 cases hv with
 | func hf h1 h2 h3 h4 =>
  exact khj7 (ok.fns _ ((hρ _).1 hf)) hf (((ARR.mk h1 h2).append hx).append ⟨h3,h4⟩)
 | nilFunc =>
  show Sim P ρ (NR ρ) (runtimePanic .nilDeref) _;exact Sim.rtPanic _
 | wildM n a b =>
  refine Sim.doom ?_;have e0:(#[Value.nilIface,.func (.method n) a b]++xs)[0]?=some Value.nilIface:=by
   rw[Array.getElem?_append_left (by simp)];rfl
  show Doom P (invoke (.fn (.method "") #[]) (#[Value.nilIface,.func (.method n) a b]++xs));unfold invoke;dsimp only;rw[e0];show Doom P (callMethod .nilIface "" _);unfold callMethod;exact Doom.runtimePanic _
 | _=>exact Sim.stuckB _
theorem Calm.sys(c:Sys):Calm P (Go.sys c):=fun w=>.inl ⟨_,_,rfl⟩
theorem Doom.panic(x:Value):Doom P (Instr.panic x):=by
 unfold Instr.panic
 split
 ·exact Doom.goPanic _
 ·refine Doom.after ?_ fun n=>?_
  ·unfold Instr.panicnil;refine Calm.bind (Calm.sys _) fun r=>?_
   split
   ·exact Calm.bind Calm.program fun p=>Calm.pure _
   ·exact(Doom.stuck _).calm
  ·split
   ·exact Doom.goPanic _
   ·exact Doom.runtimePanic _
 ·exact Doom.stuck _
def NPo(dd:Addr→Addr→Prop)(e:Operand→Value)(o:Oper):Prop :=
 ∀ c,o.op=.call c→c.callee=.builtin .unsafeSliceData→∀ x,c.args[0]?=some x→∀ a l k,e x=.slice (some a) l k→∀ a',¬dd a a'
theorem sim_exec{S:Nat→Bool}{M:List String}(ok:Ok0 P S M)(hρ':RhoOk ρ S M){e e':Operand→Value}(he:EvR ρ S e e')(o:Oper)(h:okOp P S M o.op=true)(hnp:NPo ρ.dead e o):Sim P ρ (NR ρ) (execOp e o) (execOp e' o):=by
 have hρ:=hρ'.ok;have v:∀ {s s':Sem Value},Sim P ρ (VR ρ) s s'→Sim P ρ (NR ρ) (s >>= fun v=>(pure (.value v):Sem Next)) (s' >>= fun v=>(pure (.value v):Sem Next)):=fun h=>Sim.bind h fun a b hv=>Sim.pure (.value hv);have u:∀ {s s':Sem Unit},Sim P ρ (fun _ _=>True) s s'→Sim P ρ (NR ρ) (s >>= fun _=>(pure .skip:Sem Next)) (s' >>= fun _=>(pure .skip:Sem Next)):=fun h=>Sim.bind h fun a b hv=>Sim.pure .skip;unfold execOp;cases ho:o.op<;>rw[ho] at h<;>simp only[okOp,Bool.false_eq_true,Bool.and_eq_true] at h<;>dsimp only
 case move x=>exact Sim.pure (.value (he _ h))
 case assign x=>exact Sim.pure (.value (he _ h))
 case pick c a b =>
  refine Sim.bindE (ken7 (he _ h.1.1)) fun q=>Sim.pure (.value ?_)
  split
  ·exact he _ h.1.2
  ·exact he _ h.2
 case alloc t=>exact v (sim_alloc ok.zeros t)
 case box t x=>exact v (sim_box t (he _ h))
 case build t ps=>exact v (sim_build ok.zeros t (he.parts h))
 case buildSlice t n ps=>exact v (sim_buildSlice ok.zeros t n (he.parts h))
 case load t a=>exact v (sim_loadAt t (he _ h))
 case store t a x=>exact u (sim_storeAt t (he _ h.1) (he _ h.2))
 case nilCheck x =>
  have hx:=he _ h;generalize e x=y at hx;generalize e' x=y' at hx;cases hx with
  | wild ho =>
   rcases Odd.cases ho with⟨_,rfl⟩|⟨_,_,_,rfl⟩|⟨_,rfl⟩|⟨_,rfl⟩|⟨g,_,_,rfl⟩|⟨_,_,rfl⟩|⟨_,rfl⟩<;>first
    | exact Sim.pure (NR.value (VR.wild ho))
    | (cases g<;>first|exact Sim.pure (NR.value (VR.wild ho))|cases ho)
  | wildM n a b=>exact Sim.rtPanic _
  | _=>first
   | exact Sim.rtPanic _
   | (refine Sim.pure (NR.value ?_);constructor<;>assumption)
   | exact Sim.pure (NR.value (.dead (by assumption)))
 case binOp o t x y b =>
  exact v (Sim.bind (sim_eqGuard o t x y (he _ h.1.2) (he _ h.2)) fun _ _ _=>sim_binOp o h.1.1 t (he _ h.1.2) (he _ h.2))
 case unOp o t x=>exact v (sim_unary o (he _ h))
 case convert s d x =>
  rcases Bool.or_eq_true_iff.1 h.1 with h1|h1
  ·exact v (sim_convert s d h1 (he _ h.2))
  ·have h1 : ""∈M∧okConvert2 P s d=true:=by simpa using h1
   exact v (sim_convert2 s d h1.2 (hρ'.opened h1.1) (hρ'.undead h1.1) (he _ h.2))
 case makeInterface t x=>exact v (kgj7 t (he _ h))
 case makeFunc fn a b =>
  cases fn with
  | func f =>
   have h:(S f=true∧a.all (okV S)=true)∧b.all (okV S)=true:=by simpa only [okOp,Bool.and_eq_true] using h
   exact v (sim_makeFunc ((hρ f).2 h.1.1) (he.args h.1.2) (he.args h.2))
  | _=>simp[okOp] at h
 case makeMap t r=>exact v (sim_makeMap t (he.opt h))
 case makeSlice t l c=>exact v (sim_makeSlice ok.zeros t (he _ h.1) (he _ h.2))
 case slice t x lo hi mx=>exact v (sim_sliceAt t (he _ h.1.1.1) (he.opt h.1.1.2) (he.opt h.1.2) (he.opt h.2))
 case fieldAddr t x f=>exact v (sim_fieldAt t (he _ h) f)
 case field t x f=>exact v (sim_field t (he _ h) f)
 case indexAddr t x i=>exact v (sim_indexAt t (he _ h.1) (he _ h.2))
 case index t x i=>exact v (sim_index t (he _ h.1) (he _ h.2))
 case lookup t x i b=>exact v (sim_lookup ok.zeros t (he _ h.1) (he _ h.2) b)
 case mapUpdate t m k x=>exact u (sim_mapUpdate t (he _ h.1.1) (he _ h.1.2) (he _ h.2))
 case extract x i=>exact v (sim_extract (he _ h) i)
 case panic x =>
  exact Sim.doom (Doom.bind (Doom.panic _))
 case call c =>
  obtain⟨ha,h⟩:=h;have hargs:=he.args ha;unfold resolve;cases hc:c.callee with
  | builtin b =>
   rw[hc] at h;refine sim_builtin ok.zeros b _ _ _ (Bool.and_eq_true _ _ ▸ h:_∧_).1 hargs fun hb a l k h0=>?_;subst hb;rw[Array.getElem?_map] at h0;obtain⟨x,hx,hex⟩:=Option.map_eq_some_iff.1 h0;exact hnp c ho hc x hx a l k hex
  | value f =>
   rw[hc] at h;exact sim_invokeF ok hρ (he _ h) hargs
  | invoke r n =>
   rw[hc] at h;have h:okV S r=true∧n∈M:=by simpa using h
   have hr:=he _ h.1;have:Sim P ρ (NR ρ) (callMethod (e r) n ((#[e r]++c.args.map e).extract 1 (#[e r]++c.args.map e).size)) (callMethod (e' r) n ((#[e' r]++c.args.map e').extract 1 (#[e' r]++c.args.map e').size)) :=
    sim_callMethod (fun f hf=>⟨ok.fns f hf,(hρ f).2 hf⟩) n (ok.meths n h.2) hr (by
     have:=((ARR.one hr).append hargs)
     rw[←this.size];exact this.extract _ _)
   have key:∀ (x:Value) (xs:Array Value),(invoke (.fn (.method n) #[]) (#[x]++xs))=callMethod x n ((#[x]++xs).extract 1 (#[x]++xs).size):=by
    intro x xs;unfold invoke;have:(#[x]++xs)[0]?=some x:=by rw[Array.getElem?_append_left (Nat.lt_succ_self 0)];rfl
    rw[this]
   dsimp only;show Sim P ρ (NR ρ) (invoke (.fn (.method n) #[]) (#[e r]++c.args.map e)) (invoke (.fn (.method n) #[]) (#[e' r]++c.args.map e'));rw[key,key];exact this
end
end Rn
end
section
namespace Rn
open Go
def FrUp(f f':Nat×Nat):Prop:=f'=f∨(f'.1<f'.2∧(f.1≠f.2→f'.1≤f.1∧f.2≤f'.2))
theorem FrUp.trans{a b c:Nat×Nat}(h:FrUp a b)(k:FrUp b c):FrUp a c:=by
 rcases h with rfl|⟨h1,h2⟩
 ·exact k
 ·rcases k with rfl|⟨k1,k2⟩
  ·exact .inr ⟨h1,h2⟩
  ·refine .inr ⟨k1,fun hn=>?_⟩;have:=h2 hn;have:=k2 (by omega);omega
theorem FrUp.eq{f f':Nat×Nat}(h:FrUp f f')(k:FrLe f f'):f'=f:=by
 rcases h with h|⟨h1,h2⟩
 ·exact h
 ·rcases k with k|⟨k1,k2,k3⟩
  ·omega
  ·have:=h2 k1;obtain⟨x,y⟩:=f;obtain⟨x',y'⟩:=f';simp only[Prod.mk.injEq] at *;omega
def Up(w w':World):Prop:=∀ (b:Nat) (c:Array Value) (t:TypeId) (f:Nat×Nat),w.heap[b]?=some (.cells c t f)→∃ c' f',w'.heap[b]?=some (.cells c' t f')∧FrUp f f'
theorem Up.refl(w:World):Up w w:=fun b c t f h=>⟨c,f,h,.inl rfl⟩
theorem Up.of{w w':World}(h:w'.heap=w.heap):Up w w':=fun b c t f e=>⟨c,f,by rw[h];exact e,.inl rfl⟩
theorem Up.trans{a b c:World}(h:Up a b)(k:Up b c):Up a c:=by
 intro i x t f e;obtain⟨x1,f1,e1,h1⟩:=h i x t f e;obtain⟨x2,f2,e2,h2⟩:=k i x1 t f1 e1;exact⟨x2,f2,e2,h1.trans h2⟩
theorem Up.setCell(w:World)(a:Addr)(v:Value):Up w (w.setCell a v):=by
 intro b c t f e;by_cases hb:b=a.block
 ·subst hb;exact⟨_,f,by simp only[World.setCell,Array.getElem?_modify,if_true,e,Option.map_some];rfl,.inl rfl⟩
 ·exact⟨c,f,by simp only[World.setCell,Array.getElem?_modify,if_neg (Ne.symm hb),e],.inl rfl⟩
theorem Up.freeze(w:World)(a:Addr)(n:Nat):Up w (w.freeze a n):=by
 unfold World.freeze
 split
 ·exact Up.refl w
 ·intro b c t f e;by_cases hb:b=a.block
  ·subst hb;obtain⟨lo,hi⟩:=f;refine⟨c,_,by simp only[Array.getElem?_modify,if_true,e,Option.map_some];rfl,.inr ?_⟩
   split
   ·rename_i h
    have h:lo=hi:=by simpa using h
    exact⟨by simp only;omega,fun hn=>absurd h hn⟩
   ·exact⟨by simp only;omega,fun _=>⟨by simp only;omega,by simp only;omega⟩⟩
  ·exact⟨c,f,by simp only[Array.getElem?_modify,if_neg (Ne.symm hb),e],.inl rfl⟩
theorem Up.push(w:World)(o:Obj):Up w { w with heap:=w.heap.push o }:=by
 intro b c t f e;have hl:b<w.heap.size:=(Array.getElem?_eq_some_iff.1 e).1;exact⟨c,f,by simp only[Array.getElem?_push,if_neg (Nat.ne_of_lt hl),e],.inl rfl⟩
theorem Up.set{w:World}{r:Nat}{o:Obj}(h:∀ c t f,w.heap[r]?=some (.cells c t f)→∃ c' f',o=.cells c' t f'∧FrUp f f'):Up w { w with heap:=w.heap.setIfInBounds r o }:=by
 intro b c t f e;by_cases hb:r=b
 ·subst hb;obtain⟨c',f',rfl,hf⟩:=h c t f e;have hl:r<w.heap.size:=(Array.getElem?_eq_some_iff.1 e).1;exact⟨c',f',by simp only[Array.getElem?_setIfInBounds_self_of_lt hl],hf⟩
 ·exact⟨c,f,by simp only[Array.getElem?_setIfInBounds_ne hb,e],.inl rfl⟩
section
variable {P:Program}
theorem seen_heap{w:World}{at_:Addr}{u:TypeId}{k:Addr}{x:Bool}{c:Array Value}{e:TypeId}{f:Nat×Nat}{first:Nat}{like:Value}{cells:List (Nat×Nat×List UInt8)}
  (h:w.seen P at_ u k x=.ok (c,e,f,first,like,cells)):w.heap[at_.block]?=some (.cells c e f):=by
 unfold World.seen at h;cases hb:w.heap[at_.block]? with
 | none =>
  exfalso;simp only[hb,bind,Except.bind,pure,Except.pure,throw,throwThe,MonadExceptOf.throw] at h
  repeat' split at h
  all_goals simp_all
 | some o =>
  cases o with
  | cells c' t f' =>
   simp only[hb,bind,Except.bind,pure,Except.pure,throw,throwThe,MonadExceptOf.throw] at h
   repeat' split at h
   all_goals first
    | (simp only[Except.ok.injEq,Prod.mk.injEq] at h;obtain⟨rfl,rfl,rfl,_⟩:=h;rfl)
    | simp_all
  | _ =>
   exfalso;simp only[hb,bind,Except.bind,pure,Except.pure,throw,throwThe,MonadExceptOf.throw] at h
   repeat' split at h
   all_goals simp_all
theorem viewStore_up{w w':World}{at_:Addr}{u:TypeId}{a:Addr}{v:Value}{x:Bool}{l:List Addr}(h:w.viewStore P at_ u a v x=.ok (w',l)):Up w w':=by
 unfold World.viewStore at h;cases hs:w.seen P at_ u a x with
 | error e =>
  rw[hs] at h;simp only[bind,Except.bind,pure,Except.pure,throw,throwThe,MonadExceptOf.throw] at h
  repeat' split at h
  all_goals simp_all
 | ok r =>
  obtain⟨c,e,f,first,like,cells⟩:=r;have hh:=seen_heap hs;rw[hs] at h;have key:∀ c2,Up w { w with heap:=w.heap.setIfInBounds at_.block (.cells c2 e f) }:=fun c2=>Up.set fun c' t f' e'=>by
   rw[hh] at e';cases e';exact⟨c2,f,rfl,.inl rfl⟩
  simp only[bind,Except.bind,pure,Except.pure,throw,throwThe,MonadExceptOf.throw] at h
  repeat' split at h
  all_goals first
   | (simp only[Except.ok.injEq,Prod.mk.injEq] at h;obtain⟨rfl,_⟩:=h;exact key _)
   | simp_all
theorem farStore_up{w w':World}{a:Addr}{v:Value}{x:Bool}{l:List Addr}(h:w.farStore P a v x=.ok (w',l)):Up w w':=by
 unfold World.farStore at h
 split at h
 ·split at h
  ·rename_i r hr
   cases h;exact viewStore_up hr
  ·cases h
 ·cases h
theorem run_up{α:Type}(s:Sem α):∀ w:World,Up w (world (s.run P w)):=by
 induction s with
 | pure a=>intro w;exact Up.refl w
 | load m a k ih =>
  intro w;simp only[Sem.run]
  repeat' split
  all_goals first
   | exact ih _ w
   | exact Up.refl w
 | store m a v k ih =>
  intro w;have key:∀ v:Value,Up w (world (match w.cell? a with
   | some _=>if w.frozen? a then(.halt (.unsupported (.unsafePointer "a write to bytes that a string shares")) w:Result α) else k.run P (w.setCell a v)
   | none=>match w.farStore P a v (m == .atomic) with
    | .ok (w,_)=>k.run P w
    | .error h=>.halt h w)):=by
   intro v
   repeat' split
   all_goals first
    | exact Up.refl w
    | exact(Up.setCell w a v).trans (ih _)
    | skip
   rename_i w' l hf
   exact(farStore_up hf).trans (ih _)
  cases v<;>first
   | exact Up.refl w
   | exact key _
 | new o k ih =>
  intro w;simp only[Sem.run];exact(Up.push w o).trans (ih _ _)
 | shape r k ih=>intro w;simp only[Sem.run];exact ih _ w
 | freeze a n k ih =>
  intro w;simp only[Sem.run];exact(Up.freeze w a n).trans (ih _)
 | frozen a k ih=>intro w;simp only[Sem.run];exact ih _ w
 | getObj r k ih =>
  intro w;simp only[Sem.run]
  repeat' split
  all_goals first
   | exact ih _ w
   | exact Up.refl w
 | setObj r o k ih =>
  intro w;simp only[Sem.run]
  split
  ·exact Up.refl w
  ·rename_i o1 hne heq
   refine(Up.set fun c t f e=>?_).trans (ih _);rw[heq] at e;exact absurd (Option.some.inj e) (hne c t f)
  ·exact Up.refl w
 | choose q k ih =>
  intro w;simp only[Sem.run]
  split
  ·exact ih _ w
  ·exact(Up.of rfl).trans (ih (q.cut (w.tape w.drawn q)) { w with drawn:=w.drawn+1 })
 | sys c k ih =>
  intro w;simp only[Sem.run];exact(Up.of (sys_heap c w)).trans (ih _ _)
 | program k ih=>intro w;simp only[Sem.run];exact ih _ w
 | mark m k ih=>intro w;simp only[Sem.run];exact ih w
 | halt h=>intro w;exact Up.refl w
end
end Rn
end
end Go.Proofs.YtnpcandaehejbaaGreat
