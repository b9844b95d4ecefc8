/- Short names for what comes often: trees, claims. -/
import Derived.Test.YtfdnciimclnncaaGreatDoorR
set_option linter.unusedVariables false
set_option linter.unusedSimpArgs false
namespace Go.Abs
open Go
abbrev aA (k:Int)(b:Bool)(n:Int)(s t:List UInt8)(N L:List Tree):Tree:=.agg [.int .u8 k,.bool b,.int .i64 n,.str s,.str t,.sl N,.sl L]
abbrev aY (k n:Int)(s t:List UInt8)(N L:List Tree):Tree:=.agg [.int .u8 k,.int .i64 n,.str s,.str t,.sl N,.sl L]
abbrev p6 (a b c d e f:List UInt8)(k:Int)(x:Bool)(n:Int)(s t:List UInt8)(N L:List Tree):Tree:=.agg [.str a,.str b,.str c,.str d,.str e,.str f,.int .u8 k,.bool x,.int .i64 n,.str s,.str t,.sl N,.sl L]
abbrev cM (k:Int)(b:Bool)(n:Int)(s t:List UInt8)(N L:List Tree):List TV:=[.t (.int .u8 k),.t (.bool b),.t (.int .i64 n),.t (.str s),.t (.str t),.t (.sl N),.t (.sl L)]
abbrev bg (k n:Int)(s t:List UInt8)(N L:List Tree):List TV:=[.t (.int .u8 k),.t (.int .i64 n),.t (.str s),.t (.str t),.t (.sl N),.t (.sl L)]
abbrev A6 (a b c d e f:List UInt8)(k:Int)(x:Bool)(n:Int)(s t:List UInt8)(N L:List Tree):List TV:=[.t (.str a),.t (.str b),.t (.str c),.t (.str d),.t (.str e),.t (.str f),.t (.int .u8 k),.t (.bool x),.t (.int .i64 n),.t (.str s),.t (.str t),.t (.sl N),.t (.sl L)]
theorem cU {p:Prop}(h:p:=by first|omega|(simp only[List.length_append,List.length_cons,List.length_nil,List.length_singleton] at*;omega)|(simp;done)|(simp;omega)):p:=h
theorem cm {p:Prop}(h:p:=by first|assumption|omega|(simp;done)|(simp;omega)):p:=h
theorem fU {l:List Tree}{i:Nat}{x:Tree}(h:l[i]?=some x):x∈l:=List.mem_of_getElem? h
theorem dw (l:List Tree)(i:Nat)(h:i<l.length:=by first|omega|(simp;omega)):∃e,l[i]?=some e:=elt l i h
section
variable {ev:bt}
abbrev dc (t k:Nat)(X:List Tree):Ob ev:=oN (o:=.arr (t,true) k false ((flat X).map .t)) (λ_=>kW)
abbrev iG (K:Tree->Prop)(es:List (TV×TV×Nat))(c:Nat)(h:KM K es):Ob ev:=oN (o:=.map es c) (λ_=>alX (K:=K) h)
abbrev vR (g:FuncId)(atM:List TV)(x:Tree)(h:ev g atM []=some (.ret (.t x) [] [])):Ob ev:=oC h
end
section
variable {C:ey}{ev:bt}{f:FuncId}{R:Type}
theorem kf {fn:Func}{m:Nat}{r:br}{K:List Fr}{e:aQ}{s:St}(hm:C.P.prog.follows .mixedOrders=true)(obs:List (Ob ev))(aJ:aC C ev:=by assumption)(h:bq (goK C 0 [] 100000 3000 K e s) (NT C fn m) (vals obs)=some (r,[],vals obs):=by kernel_rfl):KE C (uD C fn m r) K e s:=kF hm aJ obs h
theorem qQ {fn:Func}{m:Nat}{r:br}{K:List Fr}{e:aQ}{s:St}(hm:C.P.prog.follows .mixedOrders=true)(f:FuncId)(once:List Nat)(obs:List (Ob ev))(aJ:aC C ev:=by assumption)(h:bq (goK C f once 100000 3000 K e s) (NT C fn m) (vals obs)=some (r,[],vals obs):=by kernel_rfl):KE C (uD C fn m r) K e s:=aiA hm aJ obs h
theorem kx {α:Type}{st:α->St}{P:α->Prop}{Q:R->aQ->St->Prop}{K:List Fr}{e:aQ}{s:St}(hm:C.P.prog.follows .mixedOrders=true)(obs:List (Ob ev))(k:∃r,Q r (exOf (goK C 0 [] 100000 3000 K e s (vals obs))) (stOf (goK C 0 [] 100000 3000 K e s (vals obs))))(aJ:aC C ev:=by assumption)(h:Qt (goK C 0 [] 100000 3000 K e s (vals obs))=some ([],vals obs):=by kernel_rfl):∃o,KE C (xF C st P Q o) K e s:=kO hm aJ obs h k
theorem E8 {α:Type}{st:α->St}{P:α->Prop}{Q:R->aQ->St->Prop}{K:List Fr}{e:aQ}{s:St}(hm:C.P.prog.follows .mixedOrders=true)(f:FuncId)(once:List Nat)(obs:List (Ob ev))(k:∃r,Q r (exOf (goK C f once 100000 3000 K e s (vals obs))) (stOf (goK C f once 100000 3000 K e s (vals obs))))(aJ:aC C ev:=by assumption)(h:Qt (goK C f once 100000 3000 K e s (vals obs))=some ([],vals obs):=by kernel_rfl):∃o,KE C (xF C st P Q o) K e s:=alW hm aJ obs h k
theorem vH {s2:St}{K:List Fr}{e:aQ}{s:St}(hm:C.P.prog.follows .mixedOrders=true)(f:FuncId)(once:List Nat)(k T:Nat)(S ks:List Nm)(live:List Nat)(obs:List (Ob ev))(aJ:aC C ev:=by assumption)(h:bq (goK C f once 100000 3000 K e s) (Jy k S ks live T) (vals obs)=some (s2,[],vals obs):=by kernel_rfl):KE C (λe s=>e=.normal/\Re C s s2) K e s:=aaf hm aJ obs h
theorem kr {s2:St}{K:List Fr}{e:aQ}{s:St}(hm:C.P.prog.follows .mixedOrders=true)(k T:Nat)(S:List Nm)(live:List Nat)(obs:List (Ob ev))(aJ:aC C ev:=by assumption)(h:bq (goK C 0 [] 100000 3000 K e s) (Jy k S S live T) (vals obs)=some (s2,[],vals obs):=by kernel_rfl):KE C (λe s=>e=.normal/\Re C s s2) K e s:=aaf hm aJ obs h
theorem kl {α:Type}{K:List Fr}{e:aQ}{s:St}{Q:R->aQ->St->Prop}(hm:C.P.prog.follows .mixedOrders=true)(f:FuncId)(once:List Nat)(k T:Nat)(S ks:List Nm)(live:List Nat)(st:α->St)(ok:α->Prop)(μ:α->Nat)(x0:α)(L:Code×List Fr)(obs:List (Ob ev))(h0:ok x0)
 (hs:∀x,ok x->∃o,KE C (xF C st (λy=>ok y/\μ y<μ x) (λr=>KE C (Q r) L.2) o) [.c L.1] .normal (st x))(aJ:aC C ev:=by assumption)(h:bq (goK C f once 100000 3000 K e s) (Vf k S ks live T) (vals obs)=some ((L,st x0),[],vals obs):=by kernel_rfl):∃r,KE C (Q r) K e s:=alV hm aJ st ok μ x0 L obs h h0 hs
end
end Go.Abs
