/- Short names for what comes often: trees, claims. -/
import Derived.Test.YtfdnciimclnncaaGreatDoorR
set_option linter.unusedVariables false
set_option linter.unusedSimpArgs false
namespace Go.Abs
open Go
abbrev aA (k:Int)(b:Bool)(n:Int)(s t:List UInt8)(N L:List Tree):Tree:=.agg [.int .u8 k,.bool b,.int .i64 n,.str s,.str t,.sl N,.sl L]
abbrev bf (k n:Int)(s t:List UInt8)(N L:List Tree):Tree:=.agg [.int .u8 k,.int .i64 n,.str s,.str t,.sl N,.sl L]
abbrev lD (a b c d e f:List UInt8)(k:Int)(x:Bool)(n:Int)(s t:List UInt8)(N L:List Tree):Tree:=.agg [.str a,.str b,.str c,.str d,.str e,.str f,.int .u8 k,.bool x,.int .i64 n,.str s,.str t,.sl N,.sl L]
abbrev cF (k:Int)(b:Bool)(n:Int)(s t:List UInt8)(N L:List Tree):List TV:=[.t (.int .u8 k),.t (.bool b),.t (.int .i64 n),.t (.str s),.t (.str t),.t (.sl N),.t (.sl L)]
abbrev bg (k n:Int)(s t:List UInt8)(N L:List Tree):List TV:=[.t (.int .u8 k),.t (.int .i64 n),.t (.str s),.t (.str t),.t (.sl N),.t (.sl L)]
abbrev mD (a b c d e f:List UInt8)(k:Int)(x:Bool)(n:Int)(s t:List UInt8)(N L:List Tree):List TV:=[.t (.str a),.t (.str b),.t (.str c),.t (.str d),.t (.str e),.t (.str f),.t (.int .u8 k),.t (.bool x),.t (.int .i64 n),.t (.str s),.t (.str t),.t (.sl N),.t (.sl L)]
theorem cO {p:Prop}(h:p:=by first|omega|(simp only[List.length_append,List.length_cons,List.length_nil,List.length_singleton] at*;omega)|(simp;done)|(simp;omega)):p:=h
theorem bJ {p:Prop}(h:p:=by first|assumption|omega|(simp;done)|(simp;omega)):p:=h
theorem fT {l:List Tree}{i:Nat}{x:Tree}(h:l[i]?=some x):x∈l:=List.mem_of_getElem? h
theorem dn (l:List Tree)(i:Nat)(h:i<l.length:=by first|omega|(simp;omega)):∃e,l[i]?=some e:=elt l i h
section
variable {ev:bp}
abbrev cU (t k:Nat)(X:List Tree):Ob ev:=oN (o:=.arr (t,true) k false ((flat X).map .t)) (λ_=>k7)
abbrev iI (K:Tree->Prop)(es:List (TV×TV×Nat))(c:Nat)(h:KM K es):Ob ev:=oN (o:=.map es c) (λ_=>amf (K:=K) h)
abbrev wj (g:FuncId)(aua:List TV)(x:Tree)(h:ev g aua []=some (.ret (.t x) [] [])):Ob ev:=oC h
end
section
variable {C:ew}{ev:bp}{f:FuncId}{R:Type}
theorem kf {fn:Func}{m:Nat}{r:br}{K:List Fr}{e:aR}{s:St}(hm:C.P.prog.follows .mixedOrders=true)(obs:List (Ob ev))(aI:aC C ev:=by assumption)(h:bn (goK C 0 [] 100000 3000 K e s) (N3 C fn m) (vals obs)=some (r,[],vals obs):=by kernel_rfl):KE C (wE C fn m r) K e s:=kF hm aI obs h
theorem q4 {fn:Func}{m:Nat}{r:br}{K:List Fr}{e:aR}{s:St}(hm:C.P.prog.follows .mixedOrders=true)(f:FuncId)(once:List Nat)(obs:List (Ob ev))(aI:aC C ev:=by assumption)(h:bn (goK C f once 100000 3000 K e s) (N3 C fn m) (vals obs)=some (r,[],vals obs):=by kernel_rfl):KE C (wE C fn m r) K e s:=aiQ hm aI obs h
theorem kx {α:Type}{st:α->St}{P:α->Prop}{Q:R->aR->St->Prop}{K:List Fr}{e:aR}{s:St}(hm:C.P.prog.follows .mixedOrders=true)(obs:List (Ob ev))(k:∃r,Q r (exOf (goK C 0 [] 100000 3000 K e s (vals obs))) (stOf (goK C 0 [] 100000 3000 K e s (vals obs))))(aI:aC C ev:=by assumption)(h:QF (goK C 0 [] 100000 3000 K e s (vals obs))=some ([],vals obs):=by kernel_rfl):∃o,KE C (xX C st P Q o) K e s:=kO hm aI obs h k
theorem F3 {α:Type}{st:α->St}{P:α->Prop}{Q:R->aR->St->Prop}{K:List Fr}{e:aR}{s:St}(hm:C.P.prog.follows .mixedOrders=true)(f:FuncId)(once:List Nat)(obs:List (Ob ev))(k:∃r,Q r (exOf (goK C f once 100000 3000 K e s (vals obs))) (stOf (goK C f once 100000 3000 K e s (vals obs))))(aI:aC C ev:=by assumption)(h:QF (goK C f once 100000 3000 K e s (vals obs))=some ([],vals obs):=by kernel_rfl):∃o,KE C (xX C st P Q o) K e s:=ame hm aI obs h k
theorem vL {s2:St}{K:List Fr}{e:aR}{s:St}(hm:C.P.prog.follows .mixedOrders=true)(f:FuncId)(once:List Nat)(k T:Nat)(S ks:List Nm)(live:List Nat)(obs:List (Ob ev))(aI:aC C ev:=by assumption)(h:bn (goK C f once 100000 3000 K e s) (JW k S ks live T) (vals obs)=some (s2,[],vals obs):=by kernel_rfl):KE C (λe s=>e=.normal/\Re C s s2) K e s:=aap hm aI obs h
theorem kr {s2:St}{K:List Fr}{e:aR}{s:St}(hm:C.P.prog.follows .mixedOrders=true)(k T:Nat)(S:List Nm)(live:List Nat)(obs:List (Ob ev))(aI:aC C ev:=by assumption)(h:bn (goK C 0 [] 100000 3000 K e s) (JW k S S live T) (vals obs)=some (s2,[],vals obs):=by kernel_rfl):KE C (λe s=>e=.normal/\Re C s s2) K e s:=aap hm aI obs h
theorem kl {α:Type}{K:List Fr}{e:aR}{s:St}{Q:R->aR->St->Prop}(hm:C.P.prog.follows .mixedOrders=true)(f:FuncId)(once:List Nat)(k T:Nat)(S ks:List Nm)(live:List Nat)(st:α->St)(ok:α->Prop)(μ:α->Nat)(x0:α)(L:Code×List Fr)(obs:List (Ob ev))(h0:ok x0)
 (hs:∀x,ok x->∃o,KE C (xX C st (λy=>ok y/\μ y<μ x) (λr=>KE C (Q r) L.2) o) [.c L.1] .normal (st x))(aI:aC C ev:=by assumption)(h:bn (goK C f once 100000 3000 K e s) (Vw k S ks live T) (vals obs)=some ((L,st x0),[],vals obs):=by kernel_rfl):∃r,KE C (Q r) K e s:=amd hm aI st ok μ x0 L obs h h0 hs
end
end Go.Abs
