/- The shapes of arguments. -/
import Derived.Test.YtijfhoelihclbaaGreatDoorQ
namespace Go.Proofs.YtijfhoelihclbaaGreatDoor.w.e
open Go Go.Abs
set_option linter.unusedVariables false
inductive K where
 |bJ
 |string
 |dw
 |aC
 |bh
 |aD
 |aY
 |bO
 |o9
 |xO
 |aZ
 |bY
 |bl
 |dW
 |zf
 |zg
 |dA
 |dK
 |bool
inductive T:K→Tree→Prop
 |bJ (op:Int) (n:Int) (s:List UInt8) (t_:List UInt8) (names:List Tree) (kids:List Tree) (h0:names.length≤4194304) (h1:∀y∈names,T .string y) (h2:kids.length≤4194304) (h3:∀y∈kids,T .bJ y):T .bJ (.agg [.int .u8 op,.int .i64 n,.str s,.str t_,.sl names,.sl kids])
 |string (v:List UInt8):T .string (.str v)
 |dw (types:List Tree) (actions:List Tree) (h0:types.length≤4194304) (h1:∀y∈types,T .aC y) (h2:actions.length≤4194304) (h3:∀y∈actions,T .aY y):T .dw (.agg [.sl types,.sl actions])
 |aC (name:List UInt8) (parents:List Tree) (attrs:List Tree) (h0:parents.length≤4194304) (h1:∀y∈parents,T .string y) (h2:attrs.length≤4194304) (h3:∀y∈attrs,T .bh y):T .aC (.agg [.str name,.sl parents,.sl attrs])
 |bh (name:List UInt8) (pZ:Int) (p5:List UInt8) (nU:List Tree) (jc:List Tree) (h0:nU.length≤4194304) (h1:∀y∈nU,T .aD y) (h2:jc.length≤4194304) (h3:∀y∈jc,T .bh y):T .bh (.agg [.str name,.int .u8 pZ,.str p5,.sl nU,.sl jc])
 |aD (kind:Int) (name:List UInt8) (Xu:List Tree) (attrs:List Tree) (h0:Xu.length≤4194304) (h1:∀y∈Xu,T .aD y) (h2:attrs.length≤4194304) (h3:∀y∈attrs,T .bh y):T .aD (.agg [.int .u8 kind,.str name,.sl Xu,.sl attrs])
 |aY (Tx:List UInt8) (jE:List Tree) (kK:List Tree) (context:List Tree) (h0:jE.length≤4194304) (h1:∀y∈jE,T .string y) (h2:kK.length≤4194304) (h3:∀y∈kK,T .string y) (h4:context.length≤4194304) (h5:∀y∈context,T .bh y):T .aY (.agg [.str Tx,.sl jE,.sl kK,.sl context])
 |bO (ig:List Tree) (fK:List Tree) (h0:ig.length≤4194304) (h1:∀y∈ig,T .aC y) (h2:fK.length≤4194304) (h3:∀y∈fK,T .aY y):T .bO (.agg [.sl ig,.sl fK])
 |o9 (type:List UInt8) (Tx:List UInt8):T .o9 (.agg [.str type,.str Tx])
 |xO (sL:List UInt8) (resource:List UInt8) (context:List Tree) (h0:context.length≤4194304) (h1:∀y∈context,T .bh y):T .xO (.agg [.str sL,.str resource,.sl context])
 |aZ (v:List Tree) (h0:v.length≤4194304) (h1:∀y∈v,T .aC y):T .aZ (.sl v)
 |bY (v:List Tree) (h0:v.length≤4194304) (h1:∀y∈v,T .aY y):T .bY (.sl v)
 |bl (v:List Tree) (h0:v.length≤4194304) (h1:∀y∈v,T .string y):T .bl (.sl v)
 |dW (v:List Tree) (h0:v.length≤4194304) (h1:∀y∈v,T .bh y):T .dW (.sl v)
 |zf (v:List Tree) (h0:v.length≤4194304) (h1:∀y∈v,T .aD y):T .zf (.sl v)
 |zg (v:List Tree) (h0:v.length≤4194304) (h1:∀y∈v,T .bJ y):T .zg (.sl v)
 |dA (v:List Tree) (h0:v.length≤4194304) (h1:∀y∈v,T .dK y):T .dA (.sl v)
 |dK (v:Int):T .dK (.int .i64 v)
 |bool (v:Bool):T .bool (.bool v)
theorem T.eB {x:Tree}(h:T .bJ x):∃(op:Int) (n:Int) (s:List UInt8) (t_:List UInt8) (names:List Tree) (kids:List Tree),x=.agg [.int .u8 op,.int .i64 n,.str s,.str t_,.sl names,.sl kids]∧(names.length≤4194304)∧(∀y∈names,T .string y)∧(kids.length≤4194304)∧(∀y∈kids,T .bJ y):=by
 cases h with
 |bJ op n s t_ names kids h0 h1 h2 h3=>exact⟨op,n,s,t_,names,kids,rfl,h0,h1,h2,h3⟩
theorem T.cT {x:Tree}(h:T .string x):∃(v:List UInt8),x=.str v:=by
 cases h with
 |string v=>exact⟨v,rfl⟩
theorem T.xb {x:Tree}(h:T .dw x):∃(types:List Tree) (actions:List Tree),x=.agg [.sl types,.sl actions]∧(types.length≤4194304)∧(∀y∈types,T .aC y)∧(actions.length≤4194304)∧(∀y∈actions,T .aY y):=by
 cases h with
 |dw types actions h0 h1 h2 h3=>exact⟨types,actions,rfl,h0,h1,h2,h3⟩
theorem T.bg {x:Tree}(h:T .aC x):∃(name:List UInt8) (parents:List Tree) (attrs:List Tree),x=.agg [.str name,.sl parents,.sl attrs]∧(parents.length≤4194304)∧(∀y∈parents,T .string y)∧(attrs.length≤4194304)∧(∀y∈attrs,T .bh y):=by
 cases h with
 |aC name parents attrs h0 h1 h2 h3=>exact⟨name,parents,attrs,rfl,h0,h1,h2,h3⟩
theorem T.eV {x:Tree}(h:T .bh x):∃(name:List UInt8) (pZ:Int) (p5:List UInt8) (nU:List Tree) (jc:List Tree),x=.agg [.str name,.int .u8 pZ,.str p5,.sl nU,.sl jc]∧(nU.length≤4194304)∧(∀y∈nU,T .aD y)∧(jc.length≤4194304)∧(∀y∈jc,T .bh y):=by
 cases h with
 |bh name pZ p5 nU jc h0 h1 h2 h3=>exact⟨name,pZ,p5,nU,jc,rfl,h0,h1,h2,h3⟩
theorem T.aR {x:Tree}(h:T .aD x):∃(kind:Int) (name:List UInt8) (Xu:List Tree) (attrs:List Tree),x=.agg [.int .u8 kind,.str name,.sl Xu,.sl attrs]∧(Xu.length≤4194304)∧(∀y∈Xu,T .aD y)∧(attrs.length≤4194304)∧(∀y∈attrs,T .bh y):=by
 cases h with
 |aD kind name Xu attrs h0 h1 h2 h3=>exact⟨kind,name,Xu,attrs,rfl,h0,h1,h2,h3⟩
theorem T.bP {x:Tree}(h:T .aY x):∃(Tx:List UInt8) (jE:List Tree) (kK:List Tree) (context:List Tree),x=.agg [.str Tx,.sl jE,.sl kK,.sl context]∧(jE.length≤4194304)∧(∀y∈jE,T .string y)∧(kK.length≤4194304)∧(∀y∈kK,T .string y)∧(context.length≤4194304)∧(∀y∈context,T .bh y):=by
 cases h with
 |aY Tx jE kK context h0 h1 h2 h3 h4 h5=>exact⟨Tx,jE,kK,context,rfl,h0,h1,h2,h3,h4,h5⟩
theorem T.qz {x:Tree}(h:T .bO x):∃(ig:List Tree) (fK:List Tree),x=.agg [.sl ig,.sl fK]∧(ig.length≤4194304)∧(∀y∈ig,T .aC y)∧(fK.length≤4194304)∧(∀y∈fK,T .aY y):=by
 cases h with
 |bO ig fK h0 h1 h2 h3=>exact⟨ig,fK,rfl,h0,h1,h2,h3⟩
theorem T.MH {x:Tree}(h:T .o9 x):∃(type:List UInt8) (Tx:List UInt8),x=.agg [.str type,.str Tx]:=by
 cases h with
 |o9 type Tx=>exact⟨type,Tx,rfl⟩
theorem T.MI {x:Tree}(h:T .xO x):∃(sL:List UInt8) (resource:List UInt8) (context:List Tree),x=.agg [.str sL,.str resource,.sl context]∧(context.length≤4194304)∧(∀y∈context,T .bh y):=by
 cases h with
 |xO sL resource context h0 h1=>exact⟨sL,resource,context,rfl,h0,h1⟩
theorem T.jF {x:Tree}(h:T .aZ x):∃(v:List Tree),x=.sl v∧(v.length≤4194304)∧(∀y∈v,T .aC y):=by
 cases h with
 |aZ v h0 h1=>exact⟨v,rfl,h0,h1⟩
theorem T.mI {x:Tree}(h:T .bY x):∃(v:List Tree),x=.sl v∧(v.length≤4194304)∧(∀y∈v,T .aY y):=by
 cases h with
 |bY v h0 h1=>exact⟨v,rfl,h0,h1⟩
theorem T.iV {x:Tree}(h:T .bl x):∃(v:List Tree),x=.sl v∧(v.length≤4194304)∧(∀y∈v,T .string y):=by
 cases h with
 |bl v h0 h1=>exact⟨v,rfl,h0,h1⟩
theorem T.zh {x:Tree}(h:T .dW x):∃(v:List Tree),x=.sl v∧(v.length≤4194304)∧(∀y∈v,T .bh y):=by
 cases h with
 |dW v h0 h1=>exact⟨v,rfl,h0,h1⟩
theorem T.Fa {x:Tree}(h:T .dA x):∃(v:List Tree),x=.sl v∧(v.length≤4194304)∧(∀y∈v,T .dK y):=by
 cases h with
 |dA v h0 h1=>exact⟨v,rfl,h0,h1⟩
theorem T.zi {x:Tree}(h:T .dK x):∃(v:Int),x=.int .i64 v:=by
 cases h with
 |dK v=>exact⟨v,rfl⟩
theorem T.Tz {x:Tree}(h:T .bool x):∃(v:Bool),x=.bool v:=by
 cases h with
 |bool v=>exact⟨v,rfl⟩
end Go.Proofs.YtijfhoelihclbaaGreatDoor.w.e
