/- The shapes of arguments. -/
import Derived.Test.YtijfhoelihclbaaGreatDoorQ
namespace Go.Proofs.YtijfhoelihclbaaGreatDoor.w.e
open Go Go.Abs
set_option linter.unusedVariables false
inductive K where
 |aW
 |string
 |eE
 |aG
 |bx
 |aB
 |aZ
 |bI
 |nH
 |wD
 |aU
 |bP
 |aY
 |jH
 |yj
 |yl
 |cR
 |dw
 |bool
inductive T:K→Tree→Prop
 |aW (op:Int) (n:Int) (s:List UInt8) (t_:List UInt8) (names:List Tree) (kids:List Tree) (h0:names.length≤4194304) (h1:∀y∈names,T .string y) (h2:kids.length≤4194304) (h3:∀y∈kids,T .aW y):T .aW (.agg [.int .u8 op,.int .i64 n,.str s,.str t_,.sl names,.sl kids])
 |string (v:List UInt8):T .string (.str v)
 |eE (types:List Tree) (actions:List Tree) (h0:types.length≤4194304) (h1:∀y∈types,T .aG y) (h2:actions.length≤4194304) (h3:∀y∈actions,T .aZ y):T .eE (.agg [.sl types,.sl actions])
 |aG (name:List UInt8) (parents:List Tree) (attrs:List Tree) (h0:parents.length≤4194304) (h1:∀y∈parents,T .string y) (h2:attrs.length≤4194304) (h3:∀y∈attrs,T .bx y):T .aG (.agg [.str name,.sl parents,.sl attrs])
 |bx (name:List UInt8) (oq:Int) (ot:List UInt8) (mO:List Tree) (iA:List Tree) (h0:mO.length≤4194304) (h1:∀y∈mO,T .aB y) (h2:iA.length≤4194304) (h3:∀y∈iA,T .bx y):T .bx (.agg [.str name,.int .u8 oq,.str ot,.sl mO,.sl iA])
 |aB (kind:Int) (name:List UInt8) (Wn:List Tree) (attrs:List Tree) (h0:Wn.length≤4194304) (h1:∀y∈Wn,T .aB y) (h2:attrs.length≤4194304) (h3:∀y∈attrs,T .bx y):T .aB (.agg [.int .u8 kind,.str name,.sl Wn,.sl attrs])
 |aZ (SK:List UInt8) (iY:List Tree) (jQ:List Tree) (context:List Tree) (h0:iY.length≤4194304) (h1:∀y∈iY,T .string y) (h2:jQ.length≤4194304) (h3:∀y∈jQ,T .string y) (h4:context.length≤4194304) (h5:∀y∈context,T .bx y):T .aZ (.agg [.str SK,.sl iY,.sl jQ,.sl context])
 |bI (gl:List Tree) (eU:List Tree) (h0:gl.length≤4194304) (h1:∀y∈gl,T .aG y) (h2:eU.length≤4194304) (h3:∀y∈eU,T .aZ y):T .bI (.agg [.sl gl,.sl eU])
 |nH (type:List UInt8) (SK:List UInt8):T .nH (.agg [.str type,.str SK])
 |wD (rE:List UInt8) (resource:List UInt8) (context:List Tree) (h0:context.length≤4194304) (h1:∀y∈context,T .bx y):T .wD (.agg [.str rE,.str resource,.sl context])
 |aU (v:List Tree) (h0:v.length≤4194304) (h1:∀y∈v,T .aG y):T .aU (.sl v)
 |bP (v:List Tree) (h0:v.length≤4194304) (h1:∀y∈v,T .aZ y):T .bP (.sl v)
 |aY (v:List Tree) (h0:v.length≤4194304) (h1:∀y∈v,T .string y):T .aY (.sl v)
 |jH (v:List Tree) (h0:v.length≤4194304) (h1:∀y∈v,T .bx y):T .jH (.sl v)
 |yj (v:List Tree) (h0:v.length≤4194304) (h1:∀y∈v,T .aB y):T .yj (.sl v)
 |yl (v:List Tree) (h0:v.length≤4194304) (h1:∀y∈v,T .aW y):T .yl (.sl v)
 |cR (v:List Tree) (h0:v.length≤4194304) (h1:∀y∈v,T .dw y):T .cR (.sl v)
 |dw (v:Int):T .dw (.int .i64 v)
 |bool (v:Bool):T .bool (.bool v)
theorem T.cG {x:Tree}(h:T .aW x):∃(op:Int) (n:Int) (s:List UInt8) (t_:List UInt8) (names:List Tree) (kids:List Tree),x=.agg [.int .u8 op,.int .i64 n,.str s,.str t_,.sl names,.sl kids]∧(names.length≤4194304)∧(∀y∈names,T .string y)∧(kids.length≤4194304)∧(∀y∈kids,T .aW y):=by
 cases h with
 |aW op n s t_ names kids h0 h1 h2 h3=>exact⟨op,n,s,t_,names,kids,rfl,h0,h1,h2,h3⟩
theorem T.cT {x:Tree}(h:T .string x):∃(v:List UInt8),x=.str v:=by
 cases h with
 |string v=>exact⟨v,rfl⟩
theorem T.vK {x:Tree}(h:T .eE x):∃(types:List Tree) (actions:List Tree),x=.agg [.sl types,.sl actions]∧(types.length≤4194304)∧(∀y∈types,T .aG y)∧(actions.length≤4194304)∧(∀y∈actions,T .aZ y):=by
 cases h with
 |eE types actions h0 h1 h2 h3=>exact⟨types,actions,rfl,h0,h1,h2,h3⟩
theorem T.bu {x:Tree}(h:T .aG x):∃(name:List UInt8) (parents:List Tree) (attrs:List Tree),x=.agg [.str name,.sl parents,.sl attrs]∧(parents.length≤4194304)∧(∀y∈parents,T .string y)∧(attrs.length≤4194304)∧(∀y∈attrs,T .bx y):=by
 cases h with
 |aG name parents attrs h0 h1 h2 h3=>exact⟨name,parents,attrs,rfl,h0,h1,h2,h3⟩
theorem T.eY {x:Tree}(h:T .bx x):∃(name:List UInt8) (oq:Int) (ot:List UInt8) (mO:List Tree) (iA:List Tree),x=.agg [.str name,.int .u8 oq,.str ot,.sl mO,.sl iA]∧(mO.length≤4194304)∧(∀y∈mO,T .aB y)∧(iA.length≤4194304)∧(∀y∈iA,T .bx y):=by
 cases h with
 |bx name oq ot mO iA h0 h1 h2 h3=>exact⟨name,oq,ot,mO,iA,rfl,h0,h1,h2,h3⟩
theorem T.aT {x:Tree}(h:T .aB x):∃(kind:Int) (name:List UInt8) (Wn:List Tree) (attrs:List Tree),x=.agg [.int .u8 kind,.str name,.sl Wn,.sl attrs]∧(Wn.length≤4194304)∧(∀y∈Wn,T .aB y)∧(attrs.length≤4194304)∧(∀y∈attrs,T .bx y):=by
 cases h with
 |aB kind name Wn attrs h0 h1 h2 h3=>exact⟨kind,name,Wn,attrs,rfl,h0,h1,h2,h3⟩
theorem T.eM {x:Tree}(h:T .aZ x):∃(SK:List UInt8) (iY:List Tree) (jQ:List Tree) (context:List Tree),x=.agg [.str SK,.sl iY,.sl jQ,.sl context]∧(iY.length≤4194304)∧(∀y∈iY,T .string y)∧(jQ.length≤4194304)∧(∀y∈jQ,T .string y)∧(context.length≤4194304)∧(∀y∈context,T .bx y):=by
 cases h with
 |aZ SK iY jQ context h0 h1 h2 h3 h4 h5=>exact⟨SK,iY,jQ,context,rfl,h0,h1,h2,h3,h4,h5⟩
theorem T.pH {x:Tree}(h:T .bI x):∃(gl:List Tree) (eU:List Tree),x=.agg [.sl gl,.sl eU]∧(gl.length≤4194304)∧(∀y∈gl,T .aG y)∧(eU.length≤4194304)∧(∀y∈eU,T .aZ y):=by
 cases h with
 |bI gl eU h0 h1 h2 h3=>exact⟨gl,eU,rfl,h0,h1,h2,h3⟩
theorem T.LX {x:Tree}(h:T .nH x):∃(type:List UInt8) (SK:List UInt8),x=.agg [.str type,.str SK]:=by
 cases h with
 |nH type SK=>exact⟨type,SK,rfl⟩
theorem T.LY {x:Tree}(h:T .wD x):∃(rE:List UInt8) (resource:List UInt8) (context:List Tree),x=.agg [.str rE,.str resource,.sl context]∧(context.length≤4194304)∧(∀y∈context,T .bx y):=by
 cases h with
 |wD rE resource context h0 h1=>exact⟨rE,resource,context,rfl,h0,h1⟩
theorem T.iZ {x:Tree}(h:T .aU x):∃(v:List Tree),x=.sl v∧(v.length≤4194304)∧(∀y∈v,T .aG y):=by
 cases h with
 |aU v h0 h1=>exact⟨v,rfl,h0,h1⟩
theorem T.lG {x:Tree}(h:T .bP x):∃(v:List Tree),x=.sl v∧(v.length≤4194304)∧(∀y∈v,T .aZ y):=by
 cases h with
 |bP v h0 h1=>exact⟨v,rfl,h0,h1⟩
theorem T.ij {x:Tree}(h:T .aY x):∃(v:List Tree),x=.sl v∧(v.length≤4194304)∧(∀y∈v,T .string y):=by
 cases h with
 |aY v h0 h1=>exact⟨v,rfl,h0,h1⟩
theorem T.GK {x:Tree}(h:T .jH x):∃(v:List Tree),x=.sl v∧(v.length≤4194304)∧(∀y∈v,T .bx y):=by
 cases h with
 |jH v h0 h1=>exact⟨v,rfl,h0,h1⟩
theorem T.Ew {x:Tree}(h:T .cR x):∃(v:List Tree),x=.sl v∧(v.length≤4194304)∧(∀y∈v,T .dw y):=by
 cases h with
 |cR v h0 h1=>exact⟨v,rfl,h0,h1⟩
theorem T.ym {x:Tree}(h:T .dw x):∃(v:Int),x=.int .i64 v:=by
 cases h with
 |dw v=>exact⟨v,rfl⟩
theorem T.SL {x:Tree}(h:T .bool x):∃(v:Bool),x=.bool v:=by
 cases h with
 |bool v=>exact⟨v,rfl⟩
end Go.Proofs.YtijfhoelihclbaaGreatDoor.w.e
