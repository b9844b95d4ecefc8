/- The abstract interpreter: trees and abstract values, the heap of a call, the operations on them. Program-independent. -/
import Derived.WalkKit
namespace Go.Abs
open Go
inductive Nm where
 |arg (i:Nat)
 |loc (p:List Nat)
 deriving DecidableEq,Repr,Inhabited
inductive Tree where
 |bool (b:Bool)
 |int (k:IntKind) (n:Int)
 |str (s:List UInt8)
 |sl (es:List Tree)
 |agg (cs:List Tree)
 |bN (vs:List Tree)
 |cg
 |gN
 |p5
 |fn (f:Fn)
 |w6
 |iface (t:TypeId) (v:Tree)
 deriving Inhabited
inductive TV where
 |t (x:Tree)
 |bl
 |k5 (es:List Tree)
 |ref (k:Nm) (off len:Nat)
 |agg (cs:List TV)
 |bN (vs:List TV)
 |ptr (k:Nm) (off:Nat)
 |jY (k:Nm) (n off:Nat)
 |jL (cs:List Tree) (off:Nat)
 |map (k:Nm)
 |fn (f:Fn) (first captured:List TV)
 |iface (t:TypeId) (v:TV)
 |any
 deriving Inhabited
inductive aQ where
 |cells (ty:TypeId) (cs:List TV)
 |arr (g:TypeId×Bool) (bR:Nat) (fz:Bool) (cs:List TV)
 |map (es:List (TV×TV×Nat)) (clock:Nat)
 |dead
 deriving Inhabited
abbrev Heap:=List (Nm×aQ)
def Heap.get (H:Heap)(k:Nm):Option aQ:=
 match H with
 | []=>none
 |(k',o)::r=>if k'=k then some o else Heap.get r k
def Heap.put (H:Heap)(k:Nm)(o:aQ):Heap:=
 match H with
 | []=>[(k,o)]
 |(k',o')::r=>if k'=k then(k,o)::r else(k',o')::Heap.put r k o
def Heap.dJ (H:Heap)(u:List (Nm×aQ)):Heap:=u.foldl (fun h p=>h.put p.1 p.2) H
def Tree.cells:Tree→List Tree
 |.agg cs=>cs
 |x=>[x]
def TV.cells:TV→List TV
 |.t (.agg cs)=>cs.map .t
 |.agg cs=>cs
 |v=>[v]
def Tree.leaf:Tree→Bool
 |.agg _=>false
 |.bN _=>false
 |_=>true
def TV.leaf:TV→Bool
 |.t x=>x.leaf
 |.any=>false
 |.agg _=>false
 |.bN _=>false
 |_=>true
def zL:TV→Bool
 |.t (.agg _)=>true
 |.agg _=>true
 |_=>false
def allT:List TV→Option (List Tree)
 | []=>some []
 |.t x::r=>match allT r with
  |some xs=>some (x::xs)
  |none=>none
 |_::_=>none
def tK (cs:List TV):TV:=
 match allT cs with
 |some ts=>.t (.agg ts)
 |none=>.agg cs
def p6 (cs:List TV):TV:=
 match allT cs with
 |some ts=>.t (.bN ts)
 |none=>.bN cs
def b8:TV:=.t (.bN [])
def flat (es:List Tree):List Tree:=es.flatMap Tree.cells
def vN:Value→Option TV
 |.bool b=>some (.t (.bool b))
 |.int k n=>some (.t (.int k n))
 |.string s=>some (.t (.str s.data.toList))
 |.slice none 0 0=>some .bl
 |.pointer none=>some (.t .cg)
 |.map none=>some (.t .gN)
 |.nilFunc=>some (.t .p5)
 |.nilIface=>some (.t .w6)
 |.func f fs cs=>if fs.isEmpty&&cs.isEmpty then some (.t (.fn f)) else none
 |_=>none
def k6:List Value→Option (List TV)
 | []=>some []
 |v::r=>match vN v,k6 r with
  |some x,some xs=>some (x::xs)
  |_,_=>none
def valOf:Value→Option TV
 |.agg cs=>match k6 cs.toList with
  |some xs=>some (tK xs)
  |none=>none
 |.tuple cs=>match k6 cs.toList with
  |some xs=>some (p6 xs)
  |none=>none
 |v=>vN v
def BZ:TV→Option Value
 |.t (.bool b)=>some (.bool b)
 |.t (.int k n)=>some (.int k n)
 |.t (.str s)=>some (.string ⟨s.toArray⟩)
 |.bl=>some (.slice none 0 0)
 |.t .cg=>some (.pointer none)
 |.t .gN=>some (.map none)
 |.t .p5=>some .nilFunc
 |.t .w6=>some .nilIface
 |_=>none
def nN:List TV→Option (List Value)
 | []=>some []
 |v::r=>match BZ v,nN r with
  |some x,some xs=>some (x::xs)
  |_,_=>none
def B0:TV→Option Value
 |.t (.agg cs)=>match nN (cs.map .t) with
  |some vs=>some (.agg vs.toArray)
  |none=>none
 |.agg cs=>match nN cs with
  |some vs=>some (.agg vs.toArray)
  |none=>none
 |v=>BZ v
def j4:TV→Option Value
 |.t (.iface t x)=>match B0 (.t x) with
  |some v=>some (.iface t v)
  |none=>none
 |.iface t x=>match B0 x with
  |some v=>some (.iface t v)
  |none=>none
 |v=>B0 v
def jM {α:Type}(P:Program):Sem α→Option α
 |.pure a=>some a
 |.program k=>jM P (k P)
 |_=>none
structure TI where
 size:Nat
 bytes:Nat
 agg:Bool
 zero:Option TV
 desc:TypeDesc
def Q0 (P:Program)(t:TypeId):Option TI:=
 match P.info? t,P.underlying t with
 |some i,some d=>some {size:=i.size,bytes:=i.bytes,agg:=(match d with|.struct _|.array _ _=>true|_=>false),zero:=i.zero.bind valOf,desc:=d}
 |_,_=>none
structure kK where
 prog:Program
 ty:TypeId→Option TI
 fn:FuncId→Option Func
 adp:∀t i,ty t=some i→Q0 prog t=some i
 Q5:∀f g,fn f=some g→prog.funcs[f]?=some g
instance:Coe kK Program:=⟨kK.prog⟩
def bf (P:kK)(t:TypeId):Option TI:=P.ty t
def partT (agg:Bool)(size:Nat)(cs:List TV)(off:Nat):Option TV:=
 if agg then(if off+size≤cs.length then some (tK ((cs.drop off).take size)) else none) else cs[off]?
def rW (H:Heap):TV→Option (List TV×Nat)
 |.ptr k off=>match H.get k with
  |some (.cells _ cs)=>some (cs,off)
  |_=>none
 |.jY k n off=>match H.get k with
  |some (.arr _ _ _ cs)=>if cs.length=n then some (cs,off) else none
  |_=>none
 |.jL cs off=>some (cs.map .t,off)
 |_=>none
def loadT (P:kK)(H:Heap)(t:TypeId)(a:TV):Option TV:=
 match bf P t,rW H a with
 |some ti,some (cs,off)=>partT ti.agg ti.size cs off
 |_,_=>none
def dM (cs:List TV)(off:Nat)(vs:List TV):List TV:=cs.take off++vs++cs.drop (off+vs.length)
def storeT (P:kK)(H:Heap)(t:TypeId)(a x:TV):Option (List (Nm×aQ)):=
 match bf P t with
 |none=>none
 | some ti=>
  if x.cells.length=ti.size∧x.cells.all TV.leaf=true then
   match a with
   |.ptr k off=>match H.get k with
    |some (.cells ty cs)=>if off+ti.size≤cs.length then some [(k,.cells ty (dM cs off x.cells))] else none
    |_=>none
   |.jY k n off=>match H.get k with
    |some (.arr g bR false cs)=>if cs.length=n∧off+ti.size≤cs.length then some [(k,.arr g bR false (dM cs off x.cells))] else none
    |_=>none
   |_=>none
  else none
def ov (H:Heap)(a:TV)(n:Nat):Option TV:=
 match a with
 |.ptr k o=>some (.ptr k (o+n))
 |.jY k m o=>match H.get k with
  |some (.arr _ _ _ cs)=>if cs.length=m then some (.jY k m (o+n)) else none
  |_=>none
 |.jL cs o=>some (.jL cs (o+n))
 |_=>none
def nL (place:Nat→Option (Nat×Nat))(cells:List TV):List (Nat×TV)→Option (List TV)
 | []=>some cells
 |(i,v)::rest=>
  match place i with
  |none=>none
  |some (off,size)=>if v.cells.length=size∧off+size≤cells.length∧v.cells.all TV.leaf=true then nL place (dM cells off v.cells) rest else none
def iL (P:kK)(fs:List Field):Option (List (Nat×Nat)):=
 match fs with
 | []=>some []
 |f::r=>match bf P f.type,iL P r with
  |some ti,some ps=>some ((f.offset,ti.size)::ps)
  |_,_=>none
def F3 (P:kK)(t:TypeId)(parts:List (Nat×TV)):Option TV:=
 match bf P t with
 |none=>none
 | some ti=>
  match ti.zero,ti.desc with
  | some z,.struct fs=>match iL P fs.toList with
   |some ps=>match nL (fun i=>ps[i]?) z.cells parts with
    |some cs=>some (tK cs)
    |none=>none
   |none=>none
  | some z,.array _ elem=>match bf P elem with
   |some te=>match nL (fun i=>some (i*te.size,te.size)) z.cells parts with
    |some cs=>some (tK cs)
    |none=>none
   |none=>none
  |_,_=>none
def chunk (agg:Bool)(size:Nat):Nat→List Tree→Option (List Tree)
 |0,cs=>if cs.isEmpty then some [] else none
 | n+1,cs=>
  if size≤cs.length then
   match chunk agg size n (cs.drop size) with
   |some r=>if agg then some (.agg (cs.take size)::r) else match cs with
    |c::_=>if size=1∧c.leaf=true then some (c::r) else none
    | []=>none
   |none=>none
  else none
def qM (n:Nat)(z:List TV):List TV:=match n with
 |0=>[]
 |n+1=>z++qM n z
def fh:TV→Option Nat
 |.t (.int _ n)=>if 0≤n then some n.toNat else none
 |_=>none
end Go.Abs

namespace Go.Abs
open Go
abbrev tL:=Nat→Nat→Option Value
inductive VT (F:tL):Tree→Value→Prop
 |bool (b):VT F (.bool b) (.bool b)
 |int (k n):VT F (.int k n) (.int k n)
 |str (s):VT F (.str s) (.string ⟨s.toArray⟩)
 |vO (a cap):VT F (.sl []) (.slice a 0 cap)
 | sl (bR es b o cap) (vals:Nat→Value) (hne:es≠ []) (hc:es.length≤cap)
   (hu:∀e∈es,e.cells.length=bR) (hF:∀j c,(flat es)[j]?=some c→F b (o+j)=some (vals j))
   (hv:∀j c,(flat es)[j]?=some c→VT F c (vals j)):VT F (.sl es) (.slice (some ⟨b,o,none⟩) es.length cap)
 |agg (cs) (vs:List Value) (hl:vs.length=cs.length) (h:∀(j:Nat) c v,cs[j]?=some c→vs[j]?=some v→VT F c v):VT F (.agg cs) (.agg vs.toArray)
 |bN (cs) (vs:List Value) (hl:vs.length=cs.length) (h:∀(j:Nat) c v,cs[j]?=some c→vs[j]?=some v→VT F c v):VT F (.bN cs) (.tuple vs.toArray)
 |cg:VT F .cg (.pointer none)
 |gN:VT F .gN (.map none)
 |p5:VT F .p5 .nilFunc
 |fn (f):VT F (.fn f) (.func f #[] #[])
 |w6:VT F .w6 .nilIface
 |iface (t x v) (h:VT F x v):VT F (.iface t x) (.iface t v)
theorem VT.mono {F F':tL}(hF:∀b o v,F b o=some v→F' b o=some v){x:Tree}{v:Value}(h:VT F x v):VT F' x v:=by
 induction h with
 |bool=>exact .bool _
 |int=>exact .int _ _
 |str=>exact .str _
 |vO a c=>exact .vO a c
 |sl e es b o cap vals hne hc hu hf hv ih=>exact .sl e es b o cap vals hne hc hu (fun j c h=>hF _ _ _ (hf j c h)) ih
 |agg cs vs hl h ih=>exact .agg cs vs hl ih
 |bN cs vs hl h ih=>exact .bN cs vs hl ih
 |cg=>exact .cg
 |gN=>exact .gN
 |p5=>exact .p5
 |fn=>exact .fn _
 |w6=>exact .w6
 |iface t x v h ih=>exact .iface t x v ih
structure Gh where
 F:tL
 mu:Nm→Nat
 arr:Nm→Option (Nat×Nat×Nat)
 dom:Nm→Prop
def one:Value→Bool
 |.agg _=>false
 |.tuple _=>false
 |_=>true
inductive VR (G:Gh):TV→Value→Prop
 |t (x v) (h:VT G.F x v):VR G (.t x) v
 |bl:VR G .bl (.slice none 0 0)
 |k5 (es a) (h:VT G.F (.sl es) (.slice a es.length es.length)):VR G (.k5 es) (.slice a es.length es.length)
 | ref (k off len n bR cap v) (hd:G.dom k) (ha:G.arr k=some (n,bR,cap)) (hle:(off+len) *bR≤n) (ho:∃a c,v=.slice a len c)
   (hv:(off+len) *bR=n→∃a,v=.slice a len (cap - off)∧(off<cap→a=some ⟨G.mu k,off*bR,none⟩)):VR G (.ref k off len) v
 |agg (cs) (vs:List Value) (hl:vs.length=cs.length) (h:∀(j:Nat) c v,cs[j]?=some c→vs[j]?=some v→VR G c v):VR G (.agg cs) (.agg vs.toArray)
 |bN (cs) (vs:List Value) (hl:vs.length=cs.length) (h:∀(j:Nat) c v,cs[j]?=some c→vs[j]?=some v→VR G c v):VR G (.bN cs) (.tuple vs.toArray)
 |ptr (k off) (hd:G.dom k) (hn:G.arr k=none):VR G (.ptr k off) (.pointer (some ⟨G.mu k,off,none⟩))
 |jY (k n off n' bR cap v) (hd:G.dom k) (ha:G.arr k=some (n',bR,cap)) (hle:n≤n') (ho:∃ad,v=.pointer (some ad)) (hv:n=n'→v=.pointer (some ⟨G.mu k,off,none⟩)):VR G (.jY k n off) v
 | jL (cs off b o) (vals:Nat→Value) (hF:∀j c,cs[j]?=some c→G.F b (o+j)=some (vals j)) (hv:∀j c,cs[j]?=some c→VT G.F c (vals j)):
   VR G (.jL cs off) (.pointer (some ⟨b,o+off,none⟩))
 |map (k) (hd:G.dom k) (hn:G.arr k=none):VR G (.map k) (.map (some (G.mu k)))
 | fn (f fs cs) (vs ws:List Value) (hl:vs.length=fs.length) (h:∀(j:Nat) c v,fs[j]?=some c→vs[j]?=some v→VR G c v)
   (hl':ws.length=cs.length) (h':∀(j:Nat) c v,cs[j]?=some c→ws[j]?=some v→VR G c v):VR G (.fn f fs cs) (.func f vs.toArray ws.toArray)
 |iface (t x v) (h:VR G x v):VR G (.iface t x) (.iface t v)
 |any (v):VR G .any v
structure Gh.le (G G':Gh):Prop where
 F:∀b o v,G.F b o=some v→G'.F b o=some v
 dom:∀k,G.dom k→G'.dom k
 plain:∀k,G.dom k→G.arr k=none→G'.arr k=none∧G'.mu k=G.mu k
 arr:∀k n e c,G.dom k→G.arr k=some (n,e,c)→∃n' c',G'.arr k=some (n',e,c')∧n≤n'∧(n=n'→c'=c∧G'.mu k=G.mu k)
theorem Gh.le.refl (G:Gh):G.le G:=⟨fun _ _ _ h=>h,fun _ h=>h,fun _ _ h=>⟨h,rfl⟩,fun _ n _ c _ h=>⟨n,c,h,Nat.le_refl _,fun _=>⟨rfl,rfl⟩⟩⟩
theorem Gh.le.trans {A B C:Gh}(h:A.le B)(k:B.le C):A.le C:=by
  refine⟨fun b o v x=>k.F _ _ _ (h.F _ _ _ x),fun x d=>k.dom _ (h.dom _ d),fun x d a=> ?_,fun x n e c d a=> ?_⟩
  · obtain⟨a1,m1⟩:=h.plain x d a
    obtain⟨a2,m2⟩:=k.plain x (h.dom _ d) a1
    exact⟨a2,m2.trans m1⟩
  · obtain⟨n1,c1,a1,l1,e1⟩:=h.arr x n e c d a
    obtain⟨n2,c2,a2,l2,e2⟩:=k.arr x n1 e c1 (h.dom _ d) a1
    refine⟨n2,c2,a2,Nat.le_trans l1 l2,fun e=> ?_⟩
    obtain⟨p1,q1⟩:=e1 (by omega)
    obtain⟨p2,q2⟩:=e2 (by omega)
    exact⟨p2.trans p1,q2.trans q1⟩
theorem VR.mono {G G':Gh}(hG:G.le G'){x:TV}{v:Value}(h:VR G x v):VR G' x v:=by
 induction h with
 |t x v h=>exact .t x v (h.mono hG.F)
 |bl=>exact .bl
 |k5 es a h=>exact .k5 es a (h.mono hG.F)
 |ref k off len n bR cap v hd ha hle ho hv=>
  obtain⟨n',c',a',l',e'⟩:=hG.arr k n bR cap hd ha
  refine .ref k off len n' bR c' v (hG.dom _ hd) a' (Nat.le_trans hle l') ho fun hh=> ?_
  obtain⟨p,q⟩:=e' (by omega)
  obtain⟨a,hva,hb⟩:=hv (by omega)
  rw[p,q]
  exact⟨a,hva,hb⟩
 |agg cs vs hl h ih=>exact .agg cs vs hl ih
 |bN cs vs hl h ih=>exact .bN cs vs hl ih
 |ptr k off hd hn=>
  obtain⟨a,m⟩:=hG.plain k hd hn
  rw[← m]
  exact .ptr k off (hG.dom _ hd) a
 |jY k n off n' bR cap v hd ha hle ho hv=>
  obtain⟨n2,c',a',l',e'⟩:=hG.arr k n' bR cap hd ha
  refine .jY k n off n2 bR c' v (hG.dom _ hd) a' (Nat.le_trans hle l') ho fun hh=> ?_
  obtain⟨p,q⟩:=e' (by omega)
  rw[hv (by omega),q]
 |jL cs off b o vals hF hv=>exact .jL cs off b o vals (fun j c h=>hG.F _ _ _ (hF j c h)) (fun j c h=>(hv j c h).mono hG.F)
 |map k hd hn=>
  obtain⟨a,m⟩:=hG.plain k hd hn
  rw[← m]
  exact .map k (hG.dom _ hd) a
 |fn f fs cs vs ws hl h hl' h' ih Ir=>exact .fn f fs cs vs ws hl ih hl' Ir
 |iface t x v h ih=>exact .iface t x v ih
 |any v=>exact .any v
def cK (G:Gh)(cs:List TV)(vs:List Value):Prop:=vs.length=cs.length∧∀(j:Nat) c v,cs[j]?=some c→vs[j]?=some v→VR G c v
theorem cK.mono {G G':Gh}(hG:G.le G'){cs:List TV}{vs:List Value}(h:cK G cs vs):cK G' cs vs:=⟨h.1,fun j c v a b=>(h.2 j c v a b).mono hG⟩
theorem cK.nil (G:Gh):cK G [] []:=⟨rfl,by simp⟩
theorem cK.cons {G:Gh}{c:TV}{v:Value}{cs:List TV}{vs:List Value}(h:VR G c v)(hs:cK G cs vs):cK G (c::cs) (v::vs):=by
 refine⟨by simp[hs.1],fun j d u hd hu=> ?_⟩
 cases j with
 |zero=>simp at hd hu;subst hd;subst hu;exact h
 |succ j=>simp at hd hu;exact hs.2 j d u hd hu
theorem cK.iN {G:Gh}{c:TV}{cs:List TV}{vs:List Value}(h:cK G (c::cs) vs):∃v vs',vs=v::vs'∧VR G c v∧cK G cs vs':=by
 obtain⟨hl,hp⟩:=h
 cases vs with
 |nil=>simp at hl
 |cons v vs'=>
  refine⟨v,vs',rfl,hp 0 c v rfl rfl,by simpa using hl,fun j d u hd hu=>hp (j+1) d u (by simpa using hd) (by simpa using hu)⟩
theorem cK.at {G:Gh}{cs:List TV}{vs:List Value}(h:cK G cs vs){j:Nat}{c:TV}(hc:cs[j]?=some c):∃v,vs[j]?=some v∧VR G c v:=by
 have hj:j<cs.length:=(List.getElem?_eq_some_iff.1 hc).1
 have hj':j<vs.length:=by rw[h.1];exact hj
 exact⟨vs[j],List.getElem?_eq_getElem hj',h.2 j c _ hc (List.getElem?_eq_getElem hj')⟩
theorem cK.append {G:Gh}{cs ds:List TV}{vs ws:List Value}(h:cK G cs vs)(k:cK G ds ws):cK G (cs++ds) (vs++ws):=by
  refine⟨by simp[h.1,k.1],fun j c v hc hv=> ?_⟩
  by_cases hj:j<cs.length
  · rw[List.getElem?_append_left hj] at hc
    rw[List.getElem?_append_left (by rw[h.1];exact hj)] at hv
    exact h.2 j c v hc hv
  · rw[List.getElem?_append_right (by omega)] at hc
    rw[List.getElem?_append_right (by rw[h.1];omega),h.1] at hv
    exact k.2 _ c v hc hv
theorem cK.drop {G:Gh}{cs:List TV}{vs:List Value}(h:cK G cs vs)(n:Nat):cK G (cs.drop n) (vs.drop n):=
 ⟨by simp[h.1],fun j c v hc hv=>by rw[List.getElem?_drop] at hc hv;exact h.2 _ c v hc hv⟩
theorem cK.take {G:Gh}{cs:List TV}{vs:List Value}(h:cK G cs vs)(n:Nat):cK G (cs.take n) (vs.take n):=
 ⟨by simp[h.1],fun j c v hc hv=>by
  rw[List.getElem?_take] at hc hv
  split at hc
  · rename_i hlt;rw[if_pos hlt] at hv;exact h.2 _ c v hc hv
  · simp at hc⟩
end Go.Abs

noncomputable section
namespace Go.Abs
open Go
def w8 (g:TV→Option (Tree×List Nm)):List TV→Option (List Tree×List Nm)
 | []=>some ([],[])
 |v::r=>match g v,w8 g r with
  |some (x,ks),some (xs,ks')=>some (x::xs,ks++ks')
  |_,_=>none
def og (H:Heap):Nat→TV→Option (Tree×List Nm)
 |_,.t x=>some (x,[])
 |_,.bl=>some (.sl [],[])
 |_,.k5 es=>some (.sl es,[])
 |0,_=>none
 | n +1,.ref k off len=>match H.get k with
  | some (.arr g bR _ cs)=>
   if 0<bR∧(off+len) *bR=cs.length then
    match w8 (og H n) ((cs.drop (off*bR)).take (len*bR)) with
    |some (ts,ks)=>match chunk g.2 bR len ts with
     |some es=>some (.sl es,k::ks)
     |none=>none
    |none=>none
   else none
  |_=>none
 |n+1,.agg cs=>match w8 (og H n) cs with
  |some (ts,ks)=>some (.agg ts,ks)
  |none=>none
 |n+1,.bN cs=>match w8 (og H n) cs with
  |some (ts,ks)=>some (.bN ts,ks)
  |none=>none
 |n+1,.iface t v=>match og H n v with
  |some (x,ks)=>some (.iface t x,ks)
  |none=>none
 |_+1,.fn f [] []=>some (.fn f,[])
 |_+1,_=>none
def iO:Nat:=24
def Heap.freeze (H:Heap):List Nm→Heap
 | []=>H
 |k::ks=>match H.get k with
  |some (.arr g bR _ cs)=>Heap.freeze (H.put k (.arr g bR true cs)) ks
  |_=>Heap.freeze H ks
def iP:List UInt8→List UInt8→Bool
 |_,[]=>false
 | [],_::_=>true
 |a::x,b::y=>a<b||(a==b&&iP x y)
def Q6:Nat:=4611686018427387904
def Wu (op:BinOp)(x y:List UInt8):Option TV:=
 match op with
 |.add=>if x.length+y.length≤Q6 then some (.t (.str (x++y))) else none
 |.eql=>some (.t (.bool (x==y)))
 |.neq=>some (.t (.bool (!(x==y))))
 |.lss=>some (.t (.bool (iP x y)))
 |.leq=>some (.t (.bool (iP x y||x==y)))
 |.gtr=>some (.t (.bool (!(iP x y||x==y))))
 |.geq=>some (.t (.bool (!(iP x y))))
 |_=>none
def EL (d:TypeDesc)(a b:TV):Option Bool:=
 match d,a,b with
 |.slice _,.bl,.bl=>some true
 |.slice _,.t (.sl (_::_)),.bl=>some false
 |.slice _,.k5 (_::_),.bl=>some false
 |.slice _,.ref _ _ _,.bl=>none
 |.map _ _,.t .gN,.t .gN=>some true
 |.map _ _,.map _,.t .gN=>some false
 |.func _ _ _,.t .p5,.t .p5=>some true
 |.func _ _ _,.fn _ _ _,.t .p5=>some false
 |.func _ _ _,.t (.fn _),.t .p5=>some false
 |.pointer _,.t .cg,.t .cg=>some true
 |.pointer _,.ptr _ _,.t .cg=>some false
 |.pointer _,.jL _ _,.t .cg=>some false
 |_,_,_=>none
def w9 (P:kK)(op:BinOp)(t:TypeId)(x y:Operand)(a b:TV):Option TV:=
 match j4 a,j4 b with
 |some u,some v=>match jM P (do eqGuard op t x y u v;binOp op t u v) with
  |some r=>valOf r
  |none=>none
 |_,_=>none
def isNil:TV→Bool
 |.bl=>true
 |.t .gN=>true
 |.t .p5=>true
 |.t .cg=>true
 |_=>false
def O2 (op:BinOp)(k:IntKind)(a b:Int):Option TV:=
 match op with
 |.add=>some (.t (.int k (k.wrap (a+b))))
 |.sub=>some (.t (.int k (k.wrap (a - b))))
 |.mul=>some (.t (.int k (k.wrap (a*b))))
 |.quo=>if b=0 then none else some (.t (.int k (k.wrap (a.tdiv b))))
 |.rem=>if b=0 then none else some (.t (.int k (a.tmod b)))
 |.eql=>some (.t (.bool (a==b)))
 |.neq=>some (.t (.bool (a != b)))
 |.lss=>some (.t (.bool (decide (a<b))))
 |.leq=>some (.t (.bool (decide (a≤b))))
 |.gtr=>some (.t (.bool (decide (a>b))))
 |.geq=>some (.t (.bool (decide (a≥b))))
 |_=>none
def F4 (P:kK)(op:BinOp)(t:TypeId)(x y:Operand)(a b:TV):Option TV:=
 match a,b with
 |.t (.str s),.t (.str u)=>Wu op s u
 |.t (.int k n),.t (.int k' m)=>if k=k' then(match O2 op k n m with|some v=>some v|none=>w9 P op t x y (.t (.int k n)) (.t (.int k' m))) else w9 P op t x y (.t (.int k n)) (.t (.int k' m))
 | a,b=>
  if isNil b then
   match op,bf P t with
   |.eql,some ti=>(EL ti.desc a b).map fun r=>.t (.bool r)
   |.neq,some ti=>(EL ti.desc a b).map fun r=>.t (.bool (!r))
   |_,_=>none
  else w9 P op t x y a b
def unT (P:kK)(op:UnOp)(a:TV):Option TV:=
 match j4 a with
 |some u=>match jM P (Op.unary op u) with
  |some r=>valOf r
  |none=>none
 |none=>none
def xb (H:Heap):TV→Option Nat
 |.t (.str s)=>some s.length
 |.t (.sl es)=>some es.length
 |.bl=>some 0
 |.k5 es=>some es.length
 |.ref _ _ len=>some len
 |.t .gN=>some 0
 |.map k=>match H.get k with
  |some (.map es _)=>some es.length
  |_=>none
 |_=>none
def ow (H:Heap)(k:Nm)(off len:Nat):Option ((TypeId×Bool)×Nat×Bool×List TV):=
 match H.get k with
 |some (.arr g bR fz cs)=>if 0<bR∧(off+len) *bR=cs.length then some (g,bR,fz,cs) else none
 |_=>none
def eN (P:kK)(H:Heap)(t:TypeId)(x i:TV):Option TV:=
 match bf P t,fh i with
 | some ti,some i=>
  match ti.desc,x with
  |.slice elem,.t (.sl es)=>match bf P elem,es[i]? with
   |some te,some e=>if e.cells.length=te.size then some (.jL e.cells 0) else none
   |_,_=>none
  |.slice elem,.k5 es=>match bf P elem,es[i]? with
   |some te,some e=>if e.cells.length=te.size then some (.jL e.cells 0) else none
   |_,_=>none
  |.slice elem,.ref k off len=>match bf P elem,ow H k off len with
   |some te,some (_,bR,_,cs)=>if te.size=bR∧i<len then some (.jY k cs.length ((off+i) *bR)) else none
   |_,_=>none
  |.array len elem,x=>match bf P elem with
   |some te=>if i<len then ov H x (i*te.size) else none
   |none=>none
  |_,_=>none
 |_,_=>none
def ox (P:kK)(t:TypeId)(x i:TV):Option TV:=
 match bf P t,fh i with
 | some ti,some i=>
  match ti.desc,x with
  |.string,.t (.str s)=>match s[i]? with
   |some b=>some (.t (.int .u8 b.toNat))
   |none=>none
  |.array len elem,x=>match bf P elem with
   |some te=>if i<len∧te.size≠0∧zL x=true then partT te.agg te.size x.cells (i*te.size) else none
   |none=>none
  |_,_=>none
 |_,_=>none
def eO (o:Option TV)(d:Nat):Option Nat:=
 match o with
 |none=>some d
 |some v=>fh v
def iQ (size:Nat):List Tree→Bool
 | []=>true
 |e::_=>e.cells.length==size
def O3 (tight:Bool)(es:List Tree)(l h:Nat):TV:=if tight then .k5 ((es.take h).drop l) else .t (.sl ((es.take h).drop l))
def B1 (P:kK)(H:Heap)(t:TypeId)(x:TV)(lo hi mx:Option TV):Option (TV×List Nm):=
 match bf P t with
 |none=>none
 | some ti=>
  match ti.desc with
  | .string=>match x with
   |.t (.str s)=>match eO lo 0,eO hi s.length,mx with
    |some l,some h,none=>if l≤h∧h≤s.length then some (.t (.str ((s.take h).drop l)),[]) else none
    |_,_,_=>none
   |_=>none
  | .slice elem=>match bf P elem,xb H x with
   | some te,some n=>
    match eO lo 0,eO hi n,eO mx n,(mx.isNone||hi.isSome) with
    | some l,some h,some m,true=>
     if l≤h∧h≤m∧m≤n then
      match x with
      |.bl=>some (.bl,[])
      |.t (.sl es)=>if iQ te.size es=true then some (O3 (mx.isSome&&m==h) es l h,[]) else none
      |.k5 es=>if iQ te.size es=true then some (O3 ((mx.isSome&&m==h)||(mx.isNone&&h==n)) es l h,[]) else none
      | .ref k off len=>
       if h=len∧mx.isNone=true then(match ow H k off len with
        |some (_,bR,_,_)=>if bR=te.size then some (.ref k (off+l) (h - l),[]) else none
        |none=>none)
       else match og H iO (.ref k off len) with
        |some (.sl es,ks)=>if iQ te.size es=true then some (O3 (mx.isSome&&m==h) es l h,ks) else none
        |_=>none
      |_=>none
     else none
    |_,_,_,_=>none
   |_,_=>none
  |_=>none
def eP (H:Heap)(g:Bool)(bR:Nat):TV→Option (Nat×List TV)
 |.bl=>some (0,[])
 |.t (.sl es)=>if iQ bR es=true then some (es.length,(flat es).map .t) else none
 |.k5 es=>if iQ bR es=true then some (es.length,(flat es).map .t) else none
 |.ref k off len=>match ow H k off len with
  |some (_,e,_,cs)=>if e=bR then some (len,cs.drop (off*bR)) else none
  |none=>none
 |.t (.str s)=>if bR=1∧g=false then some (s.length,s.map fun b=>.t (.int .u8 b.toNat)) else none
 |_=>none
def eu:Nat:=70368744177664
def kq (P:kK)(nm:Nm)(H:Heap)(st xt:TypeId)(s x:TV):Option (TV×List (Nm×aQ)):=
 match bf P st,bf P xt with
 | some ti,some tx=>
  match ti.desc,(match tx.desc with|.slice _=>true|.string=>true|_=>false) with
  | .slice elem,true=>match bf P elem with
   | some te=>match te.zero with
    |none=>none
    | some z=>
     if te.size=0∨z.cells.length≠te.size∨te.bytes=0 then none else
     match eP H te.agg te.size x with
     | some (m,cs)=>
      if m=0 then(match s with
       |.bl=>some (.bl,[])
       |.t (.sl es)=>some (.t (.sl es),[])
       |.k5 es=>some (.k5 es,[])
       |.ref k off len=>if(ow H k off len).isSome=true then some (.ref k off len,[]) else none
       |_=>none)
      else if cs.all TV.leaf=true then
       match s with
       |.bl=>if m*te.bytes≤eu then some (.ref nm 0 m,[(nm,.arr (elem,te.agg) te.size false cs)]) else none
       |.k5 es=>match eP H te.agg te.size (.k5 es) with
        |some (n,old)=>if(n+m) *te.bytes≤eu then some (.ref nm 0 (n+m),[(nm,.arr (elem,te.agg) te.size false (old++cs))]) else none
        |none=>none
       |.ref k 0 len=>match ow H k 0 len with
        |some (g,e,fz,old)=>if e=te.size∧g.1=elem∧(len+m) *te.bytes≤eu then some (.ref k 0 (len+m),[(k,.arr g e fz (old++cs))]) else none
        |none=>none
       |_=>none
      else none
     |none=>none
   |none=>none
  |_,_=>none
 |_,_=>none
def Q7 (P:kK)(H:Heap)(dt:TypeId)(d x:TV):Option (TV×List (Nm×aQ)):=
 match bf P dt with
 | some ti=>match ti.desc with
  | .slice elem=>match bf P elem with
   | some te=>match d,eP H te.agg te.size x with
    |.bl,some _=>some (.t (.int .i64 0),[])
    |.ref k off len,some (m,cs)=>match ow H k off len with
     |some (g,e,false,old)=>if e=te.size∧cs.all TV.leaf=true then some (.t (.int .i64 ((min m len:Nat):Int)),[(k,.arr g e false (dM old (off*e) (cs.take ((min m len) *e))))]) else none
     |_=>none
    |_,_=>none
   |none=>none
  |_=>none
 |none=>none
def vP (P:kK)(nm:Nm)(t:TypeId)(len cap:TV):Option (TV×List (Nm×aQ)):=
 match bf P t,fh len,fh cap with
 | some ti,some l,some c=>match ti.desc with
  | .slice elem=>match bf P elem with
   |some te=>match te.zero with
    |some z=>if l≤c∧c*te.bytes≤eu∧c≤eu∧0<te.size∧z.cells.length=te.size∧z.cells.all TV.leaf=true then some (.ref nm 0 l,[(nm,.arr (elem,te.agg) te.size false (qM l z.cells))]) else none
    |none=>none
   |none=>none
  |_=>none
 |_,_,_=>none
def mS (P:kK)(oy:Bool)(nm:Nm)(t:TypeId)(len:Nat)(parts:List (Nat×TV)):Option (TV×List (Nm×aQ)):=
 match bf P t with
 | some ti=>match ti.desc with
  | .slice elem=>match bf P elem with
   | some te=>match te.zero with
    | some z=>
     if 0<te.size∧len*te.size≤16777216∧z.cells.length=te.size∧z.cells.all TV.leaf=true then
      match nL (fun i=>some (i*te.size,te.size)) (qM len z.cells) parts with
      |some cs=>match oy,(allT cs).bind (chunk te.agg te.size len) with
       |false,some es=>some (.k5 es,[])
       |_,_=>some (.ref nm 0 len,[(nm,.arr (elem,te.agg) te.size false cs)])
      |none=>none
     else none
    |none=>none
   |none=>none
  |_=>none
 |none=>none
def Is (P:kK)(kt:TypeId)(d:TypeDesc)(k k':TV):Option Bool:=
 match j4 k,j4 k' with
 | some u,some u'=>
  match d with
  |.struct _=>match u,u' with
   |.agg _,.agg _=>jM P (Op.equal kt u u')
   |_,_=>none
  |d=>Instr.sameNow d u u'
 |_,_=>none
def j5 (P:kK)(kt:TypeId)(d:TypeDesc)(k:TV):List (TV×TV×Nat)→Nat→Option (Option (Nat×TV×Nat))
 | [],_=>some none
 | (k',v,b)::r,i=>match Is P kt d k k' with
  |some true=>match j4 k,j4 k' with
   |some u,some u'=>if Instr.sameBits 10000 u' u=true then some (some (i,v,b)) else none
   |_,_=>none
  |some false=>j5 P kt d k r (i+1)
  |none=>none
def s8 (P:kK)(empty:Bool)(kt:TypeId)(k:TV):Bool:=
 match j4 k with
 |some u=>(jM P (Instr.checkKey empty 10000 kt u)).isSome
 |none=>false
def mapOf (H:Heap):TV→Option (List (TV×TV×Nat)×Nat)
 |.map k=>match H.get k with
  |some (.map es c)=>some (es,c)
  |_=>none
 |_=>none
def nO (P:kK)(H:Heap)(t:TypeId)(x k:TV)(ok:Bool):Option TV:=
 match bf P t with
 | some ti=>match ti.desc with
  | .map kt et=>match bf P kt,bf P et,(match x with|.t .gN=>some ([],0)|x=>mapOf H x) with
   | some tk,some te,some (es,_)=>
    if s8 P es.isEmpty kt k=true then
     match j5 P kt tk.desc k es 0,te.zero with
     |some (some (_,v,_)),_=>some (if ok then p6 [v,.t (.bool true)] else v)
     |some none,some z=>some (if ok then p6 [z,.t (.bool false)] else z)
     |_,_=>none
    else none
   |_,_,_=>none
  |_=>none
 |none=>none
def iR (P:kK)(H:Heap)(t:TypeId)(x k v:TV):Option (List (Nm×aQ)):=
 match bf P t,x with
 | some ti,.map m=>match ti.desc,H.get m with
  | .map kt _,some (.map es c)=>match bf P kt with
   | some tk=>
    if s8 P false kt k=true then
     match j5 P kt tk.desc k es 0 with
     |some (some (i,_,b))=>some [(m,.map (es.set i (k,v,b)) c)]
     |some none=>some [(m,.map (es++[(k,v,c)]) (c+1))]
     |none=>none
    else none
   |none=>none
  |_,_=>none
 |_,_=>none
def zM (P:kK)(H:Heap)(t:TypeId)(x k:TV):Option (TV×List (Nm×aQ)):=
 match bf P t,x with
 | some ti,.map m=>match ti.desc,H.get m with
  | .map kt et,some (.map es c)=>match bf P kt,bf P et with
   | some tk,some te=>
    if s8 P false kt k=true then
     match j5 P kt tk.desc k es 0,te.zero with
     |some (some (i,v,b)),_=>some (p6 [v,.t (.int .i64 b)],[(m,.map (es.set i (k,v,b)) c)])
     |some none,some z=>some (p6 [z,.t (.int .i64 c)],[(m,.map (es++[(k,z,c)]) (c+1))])
     |_,_=>none
    else none
   |_,_=>none
  |_,_=>none
 |_,_=>none
def xd:List (TV×TV×Nat)→Int→Nat→Option Nat
 | [],_,_=>none
 |(_,_,b)::r,n,i=>if(b:Int)=n then some i else xd r n (i+1)
def tM (H:Heap)(x s v:TV):Option (List (Nm×aQ)):=
 match x,s with
 | .map m,.t (.int _ n)=>match H.get m with
  | some (.map es c)=>match xd es n 0 with
   |some i=>match es[i]? with
    |some (k,_,b)=>some [(m,.map (es.set i (k,v,b)) c)]
    |none=>none
   |none=>none
  |_=>none
 |_,_=>none
def bytesOf:List TV→Option (List UInt8)
 | []=>some []
 |.t (.int .u8 n)::r=>match bytesOf r with
  |some bs=>some (UInt8.ofNat n.toNat::bs)
  |none=>none
 |_::_=>none
def qN (P:kK)(oy:Bool)(nm:Nm)(H:Heap)(src dst:TypeId)(x:TV):Option (TV×List (Nm×aQ)):=
 match bf P src,bf P dst with
 | some ts,some td=>
  match ts.desc,td.desc,x with
  |.string,.string,.t (.str s)=>some (.t (.str s),[])
  | .string,.slice e,.t (.str s)=>match bf P e with
   |some te=>match te.desc with
    |.int .u8=>if oy then some (.ref nm 0 s.length,[(nm,.arr (e,false) 1 false (s.map fun b=>.t (.int .u8 b.toNat)))]) else some (.t (.sl (s.map fun b=>.int .u8 b.toNat)),[])
    |_=>none
   |none=>none
  | .slice e,.string,x=>match bf P e with
   | some te=>match te.desc,eP H false 1 x with
    |.int .u8,some (_,cs)=>match bytesOf cs with
     |some bs=>(match x with|.t (.str _)=>none|_=>some (.t (.str bs),[]))
     |none=>none
    |_,_=>none
   |none=>none
  |.int _,.int _,.t (.int k n)=>match jM P (convert src dst (.int k n)) with
   |some r=>(valOf r).map fun v=>(v,[])
   |none=>none
  |_,_,_=>none
 |_,_=>none
def F5 (P:kK)(x:TV)(asserted:TypeId)(ok:Bool):Option TV:=
 match bf P asserted with
 | some ta=>match ta.desc,(match x with|.iface t v=>some (t,v)|.t (.iface t v)=>some (t,.t v)|_=>none) with
  |.interface _,_=>none
  |_,some (t,v)=>
   if t=asserted then some (if ok then p6 [v,.t (.bool true)] else v)
   else if ok then ta.zero.map fun z=>p6 [z,.t (.bool false)] else none
  |_,none=>none
 |none=>none
def xe:TV→Nat→Option TV
 |.bN vs,i=>vs[i]?
 |.t (.bN vs),i=>vs[i]?.map .t
 |_,_=>none
def Wv (f:Fn)(first captured:List TV):TV:=if first.isEmpty∧captured.isEmpty then .t (.fn f) else .fn f first captured
def EM:TV→Bool
 |.ptr _ _=>true
 |.jY _ _ _=>true
 |.jL _ _=>true
 |.t (.fn (.func _))=>true
 |.fn (.func _) _ _=>true
 |_=>false
def cZ (H:Heap)(ks:List Nm):List (Nm×aQ):=ks.filterMap fun k=>match H.get k with
 |some (.arr g e _ cs)=>some (k,.arr g e true cs)
 |_=>none
structure dh where
 P:kK
 iT:Nat→Option (List Tree)
 oy:FuncId→Tmp→Bool
def Ww (l:List TV):Nat→TV:=
 List.rec (motive:=fun _=>Nat→TV) (fun _=>b8) (fun x _ ih n=>Nat.rec (motive:=fun _=>TV) x (fun m _=>ih m) n) l
theorem F6:∀(l:List TV) (t:Nat),Ww l t=l.getD t b8:=by
 intro l
 induction l with
 |nil=>intro t;rfl
 |cons x r ih=>
  intro t
  cases t with
  |zero=>rfl
  |succ t=>exact(ih t).trans (by simp)
def cU (C:dh)(slots:List TV):Operand→Option TV
 |.tmp t=>some (Ww slots t)
 |.const v=>valOf v
 |.global g=>match C.iT g with
  |some cs=>some (.jL cs 0)
  |none=>none
 |.func f=>some (.t (.fn (.func f)))
def jx (C:dh)(slots:List TV):List Operand→Option (List TV)
 | []=>some []
 |x::r=>match cU C slots x,jx C slots r with
  |some v,some vs=>some (v::vs)
  |_,_=>none
def kA (C:dh)(slots:List TV):List (Nat×Operand)→Option (List (Nat×TV))
 | []=>some []
 |(i,x)::r=>match cU C slots x,kA C slots r with
  |some v,some vs=>some ((i,v)::vs)
  |_,_=>none
def rX (C:dh)(slots:List TV):Option Operand→Option (Option TV)
 |none=>some none
 |some x=>(cU C slots x).map some
def vQ (v:Option TV):Option (TV×List (Nm×aQ)):=v.map fun x=>(x,[])
def xg (u:Option (List (Nm×aQ))):Option (TV×List (Nm×aQ)):=u.map fun x=>(b8,x)
def iU.jy (k:IntKind):List TV→Option (List Int)
 | []=>some []
 |.t (.int k' y)::r=>match iU.jy k r with
  |some ys=>if k'=k then some (y::ys) else none
  |none=>none
 |_::_=>none
def iU (mx:Bool):List TV→Option TV
 |.t (.int k x)::r=>match iU.jy k r with
  |some ys=>some (.t (.int k (ys.foldl (fun x y=>if mx then(if y>x then y else x) else(if y<x then y else x)) x)))
  |none=>none
 |_=>none
def mU (C:dh)(nm:Nm)(H:Heap)(b:Builtin)(ats:List TypeId)(args:List TV):Option (TV×List (Nm×aQ)):=
 match b,ats,args with
 | .len,[t],[x]=>match bf C.P t with
  |some ti=>match ti.desc with
   |.array n _=>some (.t (.int .i64 n),[])
   |.string=>(match x with|.t (.str s)=>some (.t (.int .i64 s.length),[])|_=>none)
   |.slice _=>(match x with|.t (.str _)=>none|.t .gN=>none|.map _=>none|x=>(xb H x).map fun n=>(.t (.int .i64 n),[]))
   |.map _ _=>(match x with|.t .gN=>some (.t (.int .i64 0),[])|.map k=>(xb H (.map k)).map fun n=>(.t (.int .i64 n),[])|_=>none)
   |_=>none
  |none=>none
 |.append,[s,t],[x,y]=>kq C.P nm H s t x y
 |.copy,[s,_],[x,y]=>Q7 C.P H s x y
 |.min,_,xs=>vQ (iU false xs)
 |.max,_,xs=>vQ (iU true xs)
 |_,_,_=>none
def evalOp (C:dh)(f:FuncId)(nm:Nm)(H:Heap)(slots:List TV)(o:Oper):Option (TV×List (Nm×aQ)):=
 let ρ:=cU C slots
 match o.op with
 |.move x=>vQ (ρ x)
 |.assign x=>vQ (ρ x)
 |.pick c a b=>match ρ c,ρ a,ρ b with
  |some (.t (.bool c)),some a,some b=>some (if c then a else b,[])
  |_,_,_=>none
 | .alloc elem=>match bf C.P elem with
  |some ti=>match ti.zero with
   |some z=>if z.cells.all TV.leaf=true then some (.ptr nm 0,[(nm,.cells elem z.cells)]) else none
   |none=>none
  |none=>none
 |.box elem x=>match ρ x with
  |some v=>if v.cells.all TV.leaf=true then some (.ptr nm 0,[(nm,.cells elem v.cells)]) else none
  |none=>none
 |.build t parts=>match kA C slots parts.toList with
  |some ps=>vQ (F3 C.P t ps)
  |none=>none
 |.buildSlice t len parts=>match kA C slots parts.toList with
  |some ps=>mS C.P (o.dst.any (C.oy f)) nm t len ps
  |none=>none
 |.load t a=>match ρ a with
  |some a=>vQ (loadT C.P H t a)
  |none=>none
 |.store t a x=>match ρ a,ρ x with
  |some a,some x=>xg (storeT C.P H t a x)
  |_,_=>none
 |.nilCheck x=>match ρ x with
  |some v=>if EM v=true then some (v,[]) else none
  |none=>none
 |.binOp op t x y _=>match ρ x,ρ y with
  |some a,some b=>vQ (F4 C.P op t x y a b)
  |_,_=>none
 |.unOp op _ x=>match ρ x with
  |some a=>vQ (unT C.P op a)
  |none=>none
 |.convert s d x=>match ρ x with
  |some a=>qN C.P (o.dst.any (C.oy f)) nm H s d a
  |none=>none
 | .makeInterface t x=>match ρ x,bf C.P t with
  |some v,some ti=>match ti.desc with
   |.interface _=>none
   |_=>some ((match v with|.t x=>.t (.iface t x)|v=>.iface t v),[])
  |_,_=>none
 |.makeFunc fn first captured=>match jx C slots first.toList,jx C slots captured.toList with
  |some fs,some cs=>some (Wv fn fs cs,[])
  |_,_=>none
 |.makeMap t r=>match rX C slots r,bf C.P t with
  |some none,some _=>some (.map nm,[(nm,.map [] 0)])
  |_,_=>none
 |.makeSlice t l c=>match ρ l,ρ c with
  |some l,some c=>vP C.P nm t l c
  |_,_=>none
 | .slice t x lo hi mx=>match ρ x,rX C slots lo,rX C slots hi,rX C slots mx with
  |some v,some l,some h,some m=>match B1 C.P H t v l h m with
   |some (r,ks)=>some (r,cZ H ks)
   |none=>none
  |_,_,_,_=>none
 | .fieldAddr s x i=>match ρ x,bf C.P s with
  | some a,some ti=>match ti.desc with
   | .struct fs=>match fs[i]? with
    |some fd=>match bf C.P fd.type with
     |some tf=>if tf.size=0 then none else vQ (ov H a fd.offset)
     |none=>none
    |none=>none
   |_=>none
  |_,_=>none
 | .field t x i=>match ρ x,bf C.P t with
  | some v,some ti=>match ti.desc with
   | .struct fs=>match fs[i]? with
    |some fd=>match bf C.P fd.type with
     |some tf=>if zL v=true then vQ (partT tf.agg tf.size v.cells fd.offset) else none
     |none=>none
    |none=>none
   |_=>none
  |_,_=>none
 |.indexAddr t x i=>match ρ x,ρ i with
  |some v,some j=>vQ (eN C.P H t v j)
  |_,_=>none
 |.index t x i=>match ρ x,ρ i with
  |some v,some j=>vQ (ox C.P t v j)
  |_,_=>none
 |.lookup t x k ok=>match ρ x,ρ k with
  |some v,some j=>vQ (nO C.P H t v j ok)
  |_,_=>none
 |.mapUpdate t m k x=>match ρ m,ρ k,ρ x with
  |some m,some k,some x=>xg (iR C.P H t m k x)
  |_,_,_=>none
 |.insert t m k x=>match ρ m,ρ k,ρ x with
  |some m,some k,some x=>xg (iR C.P H t m k x)
  |_,_,_=>none
 |.mapEntry t m k=>match ρ m,ρ k with
  |some m,some k=>zM C.P H t m k
  |_,_=>none
 |.entryStore _ m s x=>match ρ m,ρ s,ρ x with
  |some m,some s,some x=>xg (tM H m s x)
  |_,_,_=>none
 |.typeAssert x _ asserted ok=>match ρ x with
  |some v=>vQ (F5 C.P v asserted ok)
  |none=>none
 |.extract t i=>match ρ t with
  |some v=>vQ (xe v i)
  |none=>none
 |.call {callee:=.builtin b,args,argTypes}=>match jx C slots args.toList with
  |some vs=>mU C nm H b argTypes.toList vs
  |none=>none
 |_=>none
end Go.Abs
end

noncomputable section
namespace Go.Abs
open Go
mutual
def TV.names:TV→List Nm
 |.t _=>[]
 |.any=>[]
 |.bl=>[]
 |.k5 _=>[]
 |.jL _ _=>[]
 |.ref k _ _=>[k]
 |.ptr k _=>[k]
 |.jY k _ _=>[k]
 |.map k=>[k]
 |.agg cs=>TV.jZ cs
 |.bN cs=>TV.jZ cs
 |.fn _ fs cs=>TV.jZ fs++TV.jZ cs
 |.iface _ v=>v.names
def TV.jZ:List TV→List Nm
 | []=>[]
 |v::r=>v.names++TV.jZ r
end
def Q8:List (TV×TV×Nat)→List Nm
 | []=>[]
 |(k,v,_)::r=>k.names++v.names++Q8 r
def aQ.names:aQ→List Nm
 |.cells _ cs=>TV.jZ cs
 |.arr _ _ _ cs=>TV.jZ cs
 |.map es _=>Q8 es
 |.dead=>[]
def reach (H:Heap):Nat→List Nm→List Nm→Option (List Nm)
 |_,done,[]=>some done
 |0,_,_=>none
 | n+1,done,k::todo=>
  if k∈done then reach H n done todo
  else match H.get k with
   |some o=>reach H n (done++[k]) (todo++o.names)
   |none=>none
def fD:Nat:=4000
def idxOf (k:Nm):List Nm→Nat→Option Nat
 | [],_=>none
 |k'::r,i=>if k'=k then some i else idxOf k r (i+1)
mutual
def TV.rn (σ:Nm→Option Nm):TV→Option TV
 |.t x=>some (.t x)
 |.any=>some .any
 |.bl=>some .bl
 |.k5 es=>some (.k5 es)
 |.jL cs o=>some (.jL cs o)
 |.ref k o l=>(σ k).map fun k=>.ref k o l
 |.ptr k o=>(σ k).map fun k=>.ptr k o
 |.jY k n o=>(σ k).map fun k=>.jY k n o
 |.map k=>(σ k).map .map
 |.agg cs=>(TV.vR σ cs).map .agg
 |.bN cs=>(TV.vR σ cs).map .bN
 |.fn f fs cs=>match TV.vR σ fs,TV.vR σ cs with
  |some fs,some cs=>some (.fn f fs cs)
  |_,_=>none
 |.iface ty v=>(v.rn σ).map (.iface ty)
def TV.vR (σ:Nm→Option Nm):List TV→Option (List TV)
 | []=>some []
 |v::r=>match v.rn σ,TV.vR σ r with
  |some v,some r=>some (v::r)
  |_,_=>none
end
def Wx (σ:Nm→Option Nm):List (TV×TV×Nat)→Option (List (TV×TV×Nat))
 | []=>some []
 |(k,v,b)::r=>match k.rn σ,v.rn σ,Wx σ r with
  |some k,some v,some r=>some ((k,v,b)::r)
  |_,_,_=>none
def aQ.rn (σ:Nm→Option Nm):aQ→Option aQ
 |.cells ty cs=>(TV.vR σ cs).map (.cells ty)
 |.arr g e fz cs=>(TV.vR σ cs).map (.arr g e fz)
 |.map es c=>(Wx σ es).map (.map · c)
 |.dead=>some .dead
def Nm.gy:Nm→Bool
 |.loc _=>true
 |.arg _=>false
inductive bG where
 |ret (v:TV) (aR:List aQ) (news:Heap)
 |panic (v:TV) (aR:List (Option aQ))
 deriving Inhabited
abbrev aS:=FuncId→List TV→List aQ→Option bG
structure St where
 slots:List TV
 H:Heap
 tick:Nat
 deriving Inhabited
inductive aV where
 |normal
 |exit (id:Nat)
 |ret
 |panic (v:TV)
 deriving Inhabited
def Wy (v:TV)(l:List TV):Nat→List TV:=
 List.rec (motive:=fun _=>Nat→List TV) (fun _=>[]) (fun x xs ih n=>Nat.rec (motive:=fun _=>List TV) (v::xs) (fun m _=>x::ih m) n) l
theorem uO (v:TV):∀(l:List TV) (t:Nat),Wy v l t=l.set t v:=by
 intro l
 induction l with
 |nil=>intro t;rfl
 |cons x r ih=>
  intro t
  cases t with
  |zero=>rfl
  |succ t=>exact congrArg (x:: ·) (ih t)
def eG (slots:List TV)(dst:Option Tmp)(v:TV):List TV:=
 match dst with
 |some d=>Wy v slots d
 |none=>slots
def iV (H:Heap):List TV→List TV×List Nm
 | []=>([],[])
 |v::r=>
  let(vs,ks):=iV H r
  match og H iO v with
  |some (x,k)=>(TV.t x::vs,k++ks)
  |none=>(v::vs,ks)
def QO (S:List Nm)(k:Nm):Option Nm:=(idxOf k S 0).map .arg
def kX (S:List Nm)(t:Nat):Nm→Option Nm
 |.arg i=>S[i]?
 |.loc p=>some (.loc (t::p))
def jf (H:Heap)(S:List Nm):List Nm→Option (List aQ)
 | []=>some []
 |k::r=>match H.get k,jf H S r with
  |some o,some os=>(o.rn (QO S)).map (· ::os)
  |_,_=>none
def iC (S:List Nm)(t:Nat):List Nm→List aQ→Option Heap
 | [],[]=>some []
 |k::r,o::os=>match o.rn (kX S t),iC S t r os with
  |some o,some h=>some ((k,o)::h)
  |_,_=>none
 |_,_=>none
def gJ (S:List Nm)(t:Nat):Heap→Option Heap
 | []=>some []
 |(k,o)::r=>match kX S t k,o.rn (kX S t),gJ S t r with
  |some k,some o,some h=>some ((k,o)::h)
  |_,_,_=>none
def k7 (S:List Nm)(t:Nat):List Nm→List (Option aQ)→Option (Heap×List Nm)
 | [],[]=>some ([],[])
 |k::r,some o::os=>match o.rn (kX S t),k7 S t r os with
  |some o,some (h,ks)=>some ((k,o)::h,ks)
  |_,_=>none
 |k::r,none::os=>match k7 S t r os with
  |some (h,ks)=>some (h,k::ks)
  |none=>none
 |_,_=>none
def Heap.tB (H:Heap)(ks:List Nm):Heap:=H.filter fun p=> !(ks.contains p.1)
inductive vS where
 |val (v:TV) (u:Heap)
 |panic (v:TV) (u:Heap) (lost:List Nm)
def oD (ev:aS)(H:Heap)(g:FuncId)(args:List TV)(t:Nat):Option vS:=
 let(args,ks):=iV H args
 let H1:=H.dJ (cZ H ks)
 match reach H1 fD [] (TV.jZ args) with
 |none=>none
 | some S=>
  if S.Nodup then
   match TV.vR (QO S) args,jf H1 S S with
   | some alS,some os=>
    match ev g alS os with
    |some (.ret v os' news)=>match v.rn (kX S t),iC S t S os',gJ S t news with
     |some v,some h,some h'=>some (.val v ((cZ H ks).filter (fun p=> !(S.contains p.1))++h++h'))
     |_,_,_=>none
    |some (.panic v os')=>match v.rn (kX S t),k7 S t S os' with
     |some v,some (h,lost)=>some (.panic v ((cZ H ks).filter (fun p=> !(S.contains p.1))++h) lost)
     |_,_=>none
    |none=>none
   |_,_=>none
  else none
def jm (C:dh)(slots:List TV)(c:Call):Option (FuncId×List TV):=
 match c.callee with
 |.value fo=>match cU C slots fo,jx C slots c.args.toList with
  |some (.t (.fn (.func g))),some alS=>some (g,alS)
  |some (.fn (.func g) fs cs),some alS=>some (g,fs++alS++cs)
  |_,_=>none
 |_=>none
def F7 (P:kK)(H:Heap)(t:TypeId)(v:TV)(name:String):Option (FuncId×TV):=
 match(P.prog.info? t).bind (fun i=>i.methods.find? (·.name==name)) with
 | some m=>match m.path.isEmpty,m.func,P.prog.underlying t with
  |true,some (f,true),some (.pointer _)=>some (f,v)
  |true,some (f,false),some (.pointer e)=>(match v with
   |.ptr k o=>(match loadT P H e (.ptr k o) with|some x=>some (f,x)|none=>none)
   |_=>none)
  |_,_,_=>none
 |none=>none
def BA (C:dh)(H:Heap)(slots:List TV)(recv:Operand)(name:String)(args:Array Operand):Option (FuncId×List TV):=
 match cU C slots recv,jx C slots args.toList with
 |some (.iface t v),some alS=>(match F7 C.P H t v name with|some (f,x)=>some (f,x::alS)|none=>none)
 |_,_=>none
def dF (ops:Array Oper)(slots:List TV)(o:Oper):Option Bool:=
 match o.guard with
 |none=>some true
 | some (j,want)=>match(ops[j]?).bind (·.dst) with
  |none=>some false
  |some d=>match slots[d]? with
   |some (.t (.bool b))=>some (b==want)
   |some (.t (.bN []))=>some false
   |none=>some false
   |_=>none
def F8:TV→Option TV
 |.iface t v=>some (.iface t v)
 |.t (.iface t v)=>some (.t (.iface t v))
 |_=>none
def aX (C:dh)(ev:aS)(f:FuncId)(H:Heap)(slots:List TV)(t:Nat)(o:Oper):Option vS:=
 match o.op with
 |.panic x=>match(cU C slots x).bind F8 with
  |some v=>some (.panic v [] [])
  |none=>none
 |.call {callee:=.value fo,args,argTypes}=>match jm C slots {callee:=.value fo,args,argTypes} with
  |some (g,alS)=>oD ev H g alS t
  |none=>none
 |.call {callee:=.invoke recv name,args,argTypes}=>match BA C H slots recv name args with
  |some (g,alS)=>oD ev H g alS t
  |none=>none
 |_=>match evalOp C f (.loc [t]) H slots o with
  |some (v,u)=>some (.val v u)
  |none=>none
def Bf (C:dh)(ev:aS)(f:FuncId)(ops:Array Oper):List Oper→St→Option (aV×St)
 | [],st=>some (.normal,st)
 | o::r,st=>
  match dF ops st.slots o with
  |none=>none
  |some false=>Bf C ev f ops r {st with slots:=eG st.slots o.dst b8,tick:=st.tick+1}
  |some true=>match aX C ev f st.H st.slots st.tick o with
   |none=>none
   |some (.val v u)=>Bf C ev f ops r {slots:=eG st.slots o.dst v,H:=st.H.dJ u,tick:=st.tick+1}
   |some (.panic v u l)=>some (.panic v,{st with H:=(st.H.tB l).dJ u,tick:=st.tick+1})
def O4 (C:dh)(H:Heap)(slots:List TV)(o:Oper):Option (List Nm):=
 match o.op with
 |.move _|.assign _|.pick .. |.alloc _|.box .. |.build .. |.buildSlice .. |.nilCheck _|.makeInterface .. |.makeFunc .. |.makeMap .. |.makeSlice .. |.field .. |.extract .. |.typeAssert .. |.panic _|.unOp .. |.binOp .. |.index ..=>some []
 |.fieldAddr _ x _=>match cU C slots x with
  |some (.jY k _ _)=>some [k]
  |_=>some []
 |.store _ p _=>match cU C slots p with
  |some v=>some v.names
  |none=>none
 |.call {callee:=.value fo,args,argTypes}=>match jm C slots {callee:=.value fo,args,argTypes} with
  |some (_,alS)=>reach H fD [] (TV.jZ alS)
  |none=>none
 |.call {callee:=.invoke recv name,args,argTypes}=>match cU C slots recv,jx C slots args.toList with
  |some v,some alS=>reach H fD [] (v.names++TV.jZ alS)
  |_,_=>none
 |op=>match jx C slots op.operands.toList with
  |some vs=>some (TV.jZ vs)
  |none=>none
inductive xo where
 |xq
 |unwanted
 |val (v:TV) (u:Heap)
 |panic (v:TV) (u:Heap) (lost:List Nm)
structure Rec where
 fp:List Nm
 res:xo
def xo.keys:xo→List Nm
 |.val _ u=>u.map (·.1)
 |.panic _ u l=>u.map (·.1)++l
 |_=>[]
structure vv where
 slots:List TV
 H:Heap
def vv.after (s:vv)(o:Oper):xo→vv
 |.xq=>s
 |.unwanted=>{s with slots:=eG s.slots o.dst b8}
 |.val v u=>{slots:=eG s.slots o.dst v,H:=s.H.dJ u}
 |.panic ..=>s
def jA (i:Nat)(pX:Option Nat):xo→Option Nat
 |.panic ..=>some i
 |_=>pX
def pY (ops:List Oper)(acc:List Nat):List Nat:=
 match ops with
 | []=>acc
 |o::r=>pY r (acc++[o.after.toList.foldl (fun s e=>if Region.binds .any e then s|||2 ^ e.on|||acc.getD e.on 0 else s) 0])
def tN:Nat→List Oper→Bool
 |_,[]=>true
 |i,o::r=>o.after.toList.all (fun e=> !Region.binds .any e||decide (e.on<i))&&tN (i+1) r
def iE (bs:List Nat)(i j:Nat):Bool:=(bs.getD j 0).testBit i
def j6 (L:List Nat):Nat→List TV→List TV
 |_,[]=>[]
 |i,v::r=>(if L.contains i then v else b8)::j6 L (i+1) r
def l5 (H:Heap)(fp:List Nm):Heap:=fp.filterMap fun k=>(H.get k).map (k, ·)
def Q9 (C:dh)(ev:aS)(f:FuncId)(ops:Array Oper)(bs:List Nat)(t0 i:Nat)(o:Oper)(s:vv)(pX:Option Nat):Option Rec:=
 match(match pX with|some j=>iE bs j i|none=>false) with
 |true=>some ⟨[],.xq⟩
 | false=>
  match dF ops (j6 (o.looksAt ops) 0 s.slots) o with
  |none=>none
  |some false=>some ⟨[],.unwanted⟩
  | some true=>
   match O4 C s.H s.slots o with
   |none=>none
   | some fp=>
    match aX C ev f (l5 s.H fp) (j6 (o.looksAt ops) 0 s.slots) (t0+i) o with
    |none=>none
    |some (.val v u)=>if pX.isSome=true&& !u.isEmpty then none else some ⟨fp,.val v u⟩
    |some (.panic v u l)=>match pX with
     |some _=>none
     |none=>some ⟨fp,.panic v u l⟩
def Bg (C:dh)(ev:aS)(f:FuncId)(ops:Array Oper)(bs:List Nat)(t0:Nat):Nat→List Oper→vv→Option Nat→Option (List Rec)
 |_,[],_,_=>some []
 | i,o::r,s,pX=>match Q9 C ev f ops bs t0 i o s pX with
  |none=>none
  |some rec=>match Bg C ev f ops bs t0 (i+1) r (s.after o rec.res) (jA i pX rec.res) with
   |some rs=>some (rec::rs)
   |none=>none
def F9 (a b:List Nm):Bool:=a.all fun k=> !(b.contains k)
def vU (ops:Array Oper)(x y:Oper):Bool:=
 (match x.dst with
  |some d=> !((y.looksAt ops).contains d)&&y.dst != some d
  |none=>true)&&
 (match y.dst with
  |some d=> !((x.looksAt ops).contains d)
  |none=>true)
def vV (ops:Array Oper)(x y:Oper)(rx ry:Rec):Bool:=
 vU ops x y&&F9 rx.res.keys ry.fp&&F9 rx.res.keys ry.res.keys&&F9 ry.res.keys rx.fp
def xu (ops:Array Oper)(b:Nat)(j:Oper)(rj:Rec):Nat→List Oper→List Rec→Bool
 |i,x::xs,r::rs=>(b.testBit i||vV ops x j r rj)&&xu ops b j rj (i+1) xs rs
 |_,_,_=>true
def kL (ops:Array Oper)(l:List Oper)(recs:List Rec):List Nat→List Oper→List Rec→Nat→Bool
 |b::bs,o::os,r::rs,n=>xu ops b o r 0 (l.take n) (recs.take n)&&kL ops l recs bs os rs (n+1)
 |_,_,_,_=>true
def jo:Nat→List Rec→Option (Nat×TV×Heap×List Nm)
 |_,[]=>none
 |i,r::rs=>match r.res with
  |.panic v u l=>some (i,v,u,l)
  |_=>jo (i+1) rs
def zN (b:Nat):Nat→List Rec→List Nm
 |_,[]=>[]
 |i,r::rs=>(if b.testBit i then [] else r.res.keys)++zN b (i+1) rs
def xw:List Oper→List Rec→vv→vv
 |o::os,r::rs,s=>xw os rs (s.after o r.res)
 |_,_,s=>s
def p7 (C:dh)(ev:aS)(f:FuncId)(ops:Array Oper)(st:St):Option (aV×St):=
 let l:=ops.toList
 let bs:=pY l []
 match Bg C ev f ops bs st.tick 0 l {slots:=st.slots,H:=st.H} none with
 |none=>none
 | some recs=>
  if kL ops l recs bs l recs 0=true∧tN 0 l=true then
   let s:=xw l recs {slots:=st.slots,H:=st.H}
   match jo 0 recs with
   |none=>some (.normal,{slots:=s.slots,H:=s.H,tick:=st.tick+ops.size})
   |some (j,v,u,lost)=>
    some (.panic v,{slots:=st.slots,H:=(s.H.tB (lost++zN (bs.getD j 0) 0 (recs.take j))).dJ u,tick:=st.tick+ops.size})
  else none
def B2 (body:St→Option (aV×St)):Nat→St→Option (aV×St)
 |0,_=>none
 |n+1,st=>match body st with
  |some (.normal,st')=>B2 body n st'
  |r=>r
def evalCode (C:dh)(ev:aS)(f:FuncId)(fuel:Nat):Code→St→Option (aV×St)
 |.skip,st=>some (.normal,st)
 |.label _,st=>some (.normal,st)
 |.region _ ops draw,st=>if draw then p7 C ev f ops st else Bf C ev f ops ops.toList st
 |.seq a b,st=>match evalCode C ev f fuel a st with
  |some (.normal,st')=>evalCode C ev f fuel b st'
  |r=>r
 |.cond c a b,st=>match cU C st.slots c with
  |some (.t (.bool true))=>evalCode C ev f fuel a st
  |some (.t (.bool false))=>evalCode C ev f fuel b st
  |_=>none
 |.block id body,st=>match evalCode C ev f fuel body st with
  |some (.exit id',st')=>if id'=id then some (.normal,st') else some (.exit id',st')
  |r=>r
 |.loop body,st=>B2 (evalCode C ev f fuel body) fuel st
 |.exit id,st=>some (.exit id,st)
 |.ret,st=>some (.ret,st)
 |_,_=>none
def iW (C:dh)(st:St):List ResultVar→Option (List TV)
 | []=>some []
 |.tmp t::r=>match iW C st r with
  |some vs=>some (st.slots.getD t b8::vs)
  |none=>none
 |.cell a t::r=>match loadT C.P st.H t (st.slots.getD a b8),iW C st r with
  |some v,some vs=>some (v::vs)
  |_,_=>none
def qO:List TV→TV
 | [v]=>v
 |vs=>p6 vs
def cH:Nat→List aQ→Heap
 |_,[]=>[]
 |i,o::r=>(.arg i,o)::cH (i+1) r
def nA (H:Heap):Nat→Nat→Option (List aQ)
 |_,0=>some []
 |i,n+1=>match H.get (.arg i),nA H (i+1) n with
  |some o,some os=>some (o::os)
  |_,_=>none
def p8 (H:Heap):Nat→Nat→List (Option aQ)
 |_,0=>[]
 | i,n+1=>(match H.get (.arg i) with
   |some o=>if o.names.any Nm.gy then none else some o
   |none=>none)::p8 H (i+1) n
def j3 (H:Heap):List Nm→Option Heap
 | []=>some []
 |k::r=>match j3 H r with
  |some h=>if k.gy then(H.get k).map fun o=>(k,o)::h else some h
  |none=>none
def finish (C:dh)(fn:Func)(n:Nat)(st:St):Option bG:=
 match iW C st fn.results.toList with
 |none=>none
 | some vs=>
  let v0:=qO vs
  let(v,ks):=match og st.H iO v0 with
   |some (x,ks)=>(TV.t x,ks)
   |none=>(v0,[])
  let H:=st.H.dJ (cZ st.H ks)
  match nA H 0 n with
  |none=>none
  |some os=>match reach H fD [] (v.names++os.flatMap aQ.names) with
   |none=>none
   |some R=>(j3 H R).map fun h=>.ret v os h
def Iu (C:dh)(ev:aS)(fuel:Nat)(f:FuncId)(args:List TV)(aR:List aQ):Option bG:=
 match C.P.fn f with
 |none=>none
 | some fn=>match fn.body with
  |none=>none
  |some body=>
   if fn.name= "runtime.NumGoroutine" then none else
   match evalCode C ev f fuel body {slots:=args++List.replicate (fn.ntmps - args.length) b8,H:=cH 0 aR,tick:=0} with
   |some (.normal,st)=>finish C fn aR.length st
   |some (.ret,st)=>finish C fn aR.length st
   |some (.panic v,st)=>if v.names.any Nm.gy then none else some (.panic v (p8 st.H 0 aR.length))
   |_=>none
abbrev Ext:=FuncId→Option (aS→List TV→List aQ→Option bG)
def B3 (C:dh)(X:Ext):Nat→aS
 |0,_,_,_=>none
 |n+1,f,args,aR=>match X f with
  |some s=>s (B3 C X n) args aR
  |none=>Iu C (B3 C X n) n f args aR
end Go.Abs

namespace Go.Abs
open Go
def Bh (F:tL)(cs:List Tree)(vs:List Value):Prop:=vs.length=cs.length∧∀(j:Nat) c v,cs[j]?=some c→vs[j]?=some v→VT F c v
theorem Bh.Iv {G:Gh}{cs:List Tree}{vs:List Value}(h:Bh G.F cs vs):cK G (cs.map .t) vs:=by
 refine⟨by simp[h.1],fun j c v hc hv=> ?_⟩
 rw[List.getElem?_map] at hc
 cases hx:cs[j]? with
 |none=>rw[hx] at hc;simp at hc
 |some x=>rw[hx] at hc;simp at hc;subst hc;exact .t x v (h.2 j x v hx hv)
theorem VR.tree {G:Gh}{x:Tree}{v:Value}(h:VR G (.t x) v):VT G.F x v:=by cases h;assumption
theorem cK.Ra {G:Gh}{cs:List Tree}{vs:List Value}(h:cK G (cs.map .t) vs):Bh G.F cs vs:=by
 refine⟨by have:=h.1;simpa using this,fun j c v hc hv=> ?_⟩
 exact(h.2 j (.t c) v (by rw[List.getElem?_map,hc];rfl) hv).tree
theorem zO {cs:List TV}{ts:List Tree}(h:allT cs=some ts):cs=ts.map .t:=by
 induction cs generalizing ts with
 |nil=>simp[allT] at h;subst h;rfl
 |cons c r ih=>
  cases c<;>simp only[allT] at h<;>try (simp at h;done)
  rename_i x
  cases hr:allT r with
  |none=>rw[hr] at h;simp at h
  |some xs=>rw[hr] at h;simp at h;subst h;simp[ih hr]
theorem Bh.agg {F:tL}{cs:List Tree}{vs:List Value}(h:Bh F cs vs):VT F (.agg cs) (.agg vs.toArray):=.agg cs vs h.1 h.2
theorem Bh.bN {F:tL}{cs:List Tree}{vs:List Value}(h:Bh F cs vs):VT F (.bN cs) (.tuple vs.toArray):=.bN cs vs h.1 h.2
theorem tO {G:Gh}{cs:List TV}{vs:List Value}(h:cK G cs vs):VR G (tK cs) (.agg vs.toArray):=by
 unfold tK
 cases ha:allT cs with
 |none=>exact .agg cs vs h.1 h.2
 |some ts=>have:=zO ha;subst this;exact .t _ _ h.Ra.agg
theorem k8 {G:Gh}{cs:List TV}{vs:List Value}(h:cK G cs vs):VR G (p6 cs) (.tuple vs.toArray):=by
 unfold p6
 cases ha:allT cs with
 |none=>exact .bN cs vs h.1 h.2
 |some ts=>have:=zO ha;subst this;exact .t _ _ h.Ra.bN
theorem VT.leaf {F:tL}{x:Tree}{v:Value}(h:VT F x v)(hx:x.leaf=true):one v=true:=by
 cases h<;>simp_all [Tree.leaf,one]
theorem VR.leaf {G:Gh}{x:TV}{v:Value}(h:VR G x v)(hx:x.leaf=true):one v=true:=by
 cases h with
 |t x v h=>exact h.leaf hx
 |ref k off len n bR cap v hd ha hle ho hv=>obtain⟨_,_,rfl⟩:=ho;rfl
 |jY k n off n' bR cap v hd ha hle ho hv=>obtain⟨_,rfl⟩:=ho;rfl
 |_=>simp_all [TV.leaf,one]
theorem EN {v:Value}(h:one v=true):v.cells= #[v]:=by cases v<;>simp_all [one,Value.cells]
theorem cK.one {G:Gh}{x:TV}{v:Value}(h:VR G x v):cK G [x] [v]:=cK.cons h (cK.nil G)
theorem VR.cells {G:Gh}{x:TV}{v:Value}(h:VR G x v)(hx:x≠ .any):cK G x.cells v.cells.toList:=by
 cases h with
 |any=>exact absurd rfl hx
 |t x v h=>
  cases h with
  |agg cs vs hl h=>exact Bh.Iv ⟨hl,h⟩
  |bN cs vs hl h=>exact cK.one (.t _ _ (.bN cs vs hl h))
  |bool=>exact cK.one (.t _ _ (.bool _))
  |int=>exact cK.one (.t _ _ (.int _ _))
  |str=>exact cK.one (.t _ _ (.str _))
  |vO=>exact cK.one (.t _ _ (.vO _ _))
  |sl e es b o cap vals h1 h2 h3 h4 h5=>exact cK.one (.t _ _ (.sl e es b o cap vals h1 h2 h3 h4 h5))
  |cg=>exact cK.one (.t _ _ .cg)
  |gN=>exact cK.one (.t _ _ .gN)
  |p5=>exact cK.one (.t _ _ .p5)
  |fn=>exact cK.one (.t _ _ (.fn _))
  |w6=>exact cK.one (.t _ _ .w6)
  |iface t x v h=>exact cK.one (.t _ _ (.iface t x v h))
 |bl=>exact cK.one .bl
 |k5 es a h=>exact cK.one (.k5 es a h)
 |ref k off len n bR cap v hd ha hle ho hv=>rw[EN (by obtain⟨_,_,rfl⟩:=ho;rfl)];exact cK.one (.ref k off len n bR cap v hd ha hle ho hv)
 |agg cs vs hl h=>exact⟨hl,h⟩
 |bN cs vs hl h=>exact cK.one (.bN cs vs hl h)
 |ptr k off hd hn=>exact cK.one (.ptr k off hd hn)
 |jY k n off n' bR cap v hd ha hle ho hv=>rw[EN (by obtain⟨_,rfl⟩:=ho;rfl)];exact cK.one (.jY k n off n' bR cap v hd ha hle ho hv)
 |jL cs off b o vals hF hv=>exact cK.one (.jL cs off b o vals hF hv)
 |map k hd hn=>exact cK.one (.map k hd hn)
 |fn f fs cs vs ws hl h hl' h'=>exact cK.one (.fn f fs cs vs ws hl h hl' h')
 |iface t x v h=>exact cK.one (.iface t x v h)
theorem Bh.nil (F:tL):Bh F [] []:=⟨rfl,by simp⟩
theorem Bh.cons {F:tL}{c:Tree}{v:Value}{cs:List Tree}{vs:List Value}(h:VT F c v)(hs:Bh F cs vs):Bh F (c::cs) (v::vs):=by
 refine⟨by simp[hs.1],fun j d u hd hu=> ?_⟩
 cases j with
 |zero=>simp at hd hu;subst hd;subst hu;exact h
 |succ j=>simp at hd hu;exact hs.2 j d u hd hu
theorem VT.cells {F:tL}{x:Tree}{v:Value}(h:VT F x v):Bh F x.cells v.cells.toList:=by
 cases h<;>first
  |(rename_i cs vs hl h;exact⟨hl,h⟩)
  |exact Bh.cons (by first|assumption|(constructor;done)|(constructor<;>assumption)) (Bh.nil F)
theorem EO {G:Gh}{v:Value}{x:TV}(h:vN v=some x):VR G x v:=by
  unfold vN at h
  split at h<;>simp at h<;>(try subst h)
  · exact .t _ _ (.bool _)
  · exact .t _ _ (.int _ _)
  · rename_i s
    have:(Value.string s)=.string ⟨s.data.toList.toArray⟩:=by simp
    rw[this];exact .t _ _ (.str _)
  · exact .bl
  · exact .t _ _ .cg
  · exact .t _ _ .gN
  · exact .t _ _ .p5
  · exact .t _ _ .w6
  · obtain⟨⟨h1,h2⟩,h3⟩:=h
    subst h3;subst h1;subst h2
    exact .t _ _ (.fn _)
theorem xy {G:Gh}{vs:List Value}{xs:List TV}(h:k6 vs=some xs):cK G xs vs:=by
 induction vs generalizing xs with
 |nil=>simp[k6] at h;subst h;exact cK.nil G
 |cons v r ih=>
  simp only[k6] at h
  cases h1:vN v<;>cases h2:k6 r<;>simp[h1,h2] at h
  subst h
  exact cK.cons (EO h1) (ih h2)
theorem tP {G:Gh}{v:Value}{x:TV}(h:valOf v=some x):VR G x v:=by
  unfold valOf at h
  split at h
  · rename_i cs
    cases h1:k6 cs.toList<;>simp[h1] at h
    subst h
    have:=tO (xy (G:=G) h1)
    simpa using this
  · rename_i cs
    cases h1:k6 cs.toList<;>simp[h1] at h
    subst h
    have:=k8 (xy (G:=G) h1)
    simpa using this
  · exact EO h
theorem Iw {G:Gh}{x:TV}{u v:Value}(h:BZ x=some u)(hr:VR G x v):v=u:=by
 cases hr with
 |t x v ht=>cases ht<;>simp[BZ] at h<;>exact h
 |bl=>simp[BZ] at h;exact h
 |_=>simp[BZ] at h
theorem B4 {G:Gh}{xs:List TV}{us vs:List Value}(h:nN xs=some us)(hr:cK G xs vs):vs=us:=by
 induction xs generalizing us vs with
 |nil=>simp[nN] at h;subst h;have:=hr.1;simpa using this
 |cons x r ih=>
  obtain⟨v,vs',rfl,h1,h2⟩:=hr.iN
  simp only[nN] at h
  cases h3:BZ x<;>cases h4:nN r<;>simp[h3,h4] at h
  subst h
  rw[Iw h3 h1,ih h4 h2]
theorem B5 {G:Gh}{x:TV}{u v:Value}(h:B0 x=some u)(hr:VR G x v):v=u:=by
  unfold B0 at h
  split at h
  · rename_i cs
    cases h1:nN (cs.map .t)<;>simp[h1] at h
    subst h
    cases hr with|t _ _ ht=>cases ht with|agg _ vs hl hh=>
      rw[B4 h1 (Bh.Iv (G:=G) ⟨hl,hh⟩)]
  · rename_i cs
    cases h1:nN cs<;>simp[h1] at h
    subst h
    cases hr with|agg _ vs hl hh=>rw[B4 h1 ⟨hl,hh⟩]
  · exact Iw h hr
theorem k9 {G:Gh}{x:TV}{u v:Value}(h:j4 x=some u)(hr:VR G x v):v=u:=by
  unfold j4 at h
  split at h
  · rename_i t x
    cases h1:B0 (.t x)<;>simp[h1] at h
    subst h
    cases hr with|t _ _ ht=>cases ht with|iface _ _ w hw=>rw[B5 (G:=G) h1 (.t _ _ hw)]
  · rename_i t x
    cases h1:B0 x<;>simp[h1] at h
    subst h
    cases hr with|iface _ _ w hw=>rw[B5 h1 hw]
  · exact B5 h hr
theorem mV {α:Type}{P:Program}{s:Sem α}{a:α}(h:jM P s=some a)(w:World):s.run P w=.ok a w:=by
 induction s with
 |pure x=>simp[jM] at h;subst h;rfl
 |program k ih=>simp only[jM] at h;exact ih P h
 |_=>simp[jM] at h
end Go.Abs

namespace Go.Abs
open Go
def qz (vs:Array Value)(fr:Nat×Nat):Prop:=∀o,o<vs.size→¬(fr.1≤o∧o<fr.2)
def MR (G:Gh):List (TV×TV×Nat)→List MapEntry→Prop
 | [],[]=>True
 |(k,v,b)::r,e::es=>VR G k e.key∧VR G v e.val∧e.born=b∧MR G r es
 |_,_=>False
def OR (G:Gh)(w:World)(k:Nm):aQ→Prop
 |.cells ei cs=>G.arr k=none∧∃vs ty fr,w.heap[G.mu k]?=some (.cells vs ty fr)∧(qz vs fr∧ty=ei)∧cK G cs vs.toList∧∀o,G.F (G.mu k) o=none
 | .arr g bR fz cs=>0<bR∧∃cap vs ty fr,G.arr k=some (cs.length,bR,cap)∧w.heap[G.mu k]?=some (.cells vs ty fr)∧(qz vs fr∧ty=g.1)∧vs.size=cap*bR∧cs.length≤vs.size∧
   cK G cs (vs.toList.take cs.length)∧∀o,(fz=false∨cs.length≤o)→G.F (G.mu k) o=none
 |.map es c=>G.arr k=none∧∃bz,w.heap[G.mu k]?=some (.map bz c)∧MR G es bz.toList∧∀o,G.F (G.mu k) o=none
 |.dead=>True
structure WF (G:Gh)(w:World):Prop where
 F:∀b o v,G.F b o=some v→∃vs ty fr,w.heap[b]?=some (.cells vs ty fr)∧vs[o]?=some v
 inj:∀k k',G.dom k→G.dom k'→G.mu k=G.mu k'→k=k'
 lt:∀k,G.dom k→G.mu k<w.heap.size
def HR (G:Gh)(w:World)(H:Heap):Prop:=∀k o,H.get k=some o→G.dom k∧OR G w k o
structure Step (W N:Nm→Prop)(G:Gh)(w:World)(G':Gh)(w':World):Prop where
 le:G.le G'
 wf:WF G' w'
 same:∀k,G.dom k→¬W k→G'.mu k=G.mu k∧G'.arr k=G.arr k
 blocks:∀b,b<w.heap.size→(∀k,W k→G.dom k→G.mu k≠b)→w'.heap[b]?=w.heap[b]?∧∀o,G'.F b o=G.F b o
 news:∀k,G'.dom k→G.dom k∨N k
 fresh:∀k,G'.dom k→(G.dom k∧G'.mu k=G.mu k)∨w.heap.size≤G'.mu k
 size:w.heap.size≤w'.heap.size
 os:w'.os=w.os
 tape:w'.tape=w.tape
 output:w'.output=w.output
theorem Step.refl {G:Gh}{w:World}(hw:WF G w)(W N:Nm→Prop):Step W N G w G w:=
 ⟨.refl G,hw,fun _ _ _=>⟨rfl,rfl⟩,fun _ _ _=>⟨rfl,fun _=>rfl⟩,fun _ h=>.inl h,fun _ h=>.inl ⟨h,rfl⟩,Nat.le_refl _,rfl,rfl,rfl⟩
theorem Step.mono {W N W' N':Nm→Prop}{G G':Gh}{w w':World}(h:Step W N G w G' w')(hW:∀k,G.dom k→W k→W' k)(hN:∀k,N k→N' k):Step W' N' G w G' w':=
 ⟨h.le,h.wf,fun k d n=>h.same k d (fun x=>n (hW k d x)),fun b hb hn=>h.blocks b hb (fun k hk d=>hn k (hW k d hk) d),fun k d=>(h.news k d).imp id (hN k),h.fresh,h.size,h.os,h.tape,h.output⟩
theorem Step.trans {W N W' N':Nm→Prop}{A B C:Gh}{u v w:World}(h:Step W N A u B v)(k:Step W' N' B v C w):
    Step (fun x=>W x∨W' x) (fun x=>N x∨N' x) A u C w:=by
  refine⟨h.le.trans k.le,k.wf,fun x d n=> ?_,fun b hb hn=> ?_,fun x d=> ?_,fun x d=> ?_,Nat.le_trans h.size k.size,k.os.trans h.os,k.tape.trans h.tape,k.output.trans h.output⟩
  · obtain⟨a1,a2⟩:=h.same x d (fun y=>n (.inl y))
    obtain⟨b1,b2⟩:=k.same x (h.le.dom _ d) (fun y=>n (.inr y))
    exact⟨b1.trans a1,b2.trans a2⟩
  · obtain⟨a1,a2⟩:=h.blocks b hb (fun x hx d=>hn x (.inl hx) d)
    obtain⟨b1,b2⟩:=k.blocks b (Nat.lt_of_lt_of_le hb h.size) (fun x hx d=>by
      rcases h.fresh x d with ⟨d0,e⟩|e
      · rw[e];exact hn x (.inr hx) d0
      · omega)
    exact⟨b1.trans a1,fun o=>(b2 o).trans (a2 o)⟩
  · rcases k.news x d with d|d
    · exact(h.news x d).imp id .inl
    · exact .inr (.inr d)
  · rcases k.fresh x d with ⟨d1,e1⟩|e1
    · rcases h.fresh x d1 with ⟨d0,e0⟩|e0
      · exact .inl ⟨d0,e1.trans e0⟩
      · exact .inr (by rw[e1];exact e0)
    · exact .inr (Nat.le_trans h.size e1)
theorem MR.mono {G G':Gh}(hG:G.le G'){es:List (TV×TV×Nat)}{bz:List MapEntry}(h:MR G es bz):MR G' es bz:=by
 induction es generalizing bz with
 |nil=>cases bz<;>simp_all [MR]
 | cons e r ih=>
  obtain⟨k,v,b⟩:=e
  cases bz with
  |nil=>simp[MR] at h
  |cons x xs=>
   simp only[MR] at h ⊢
   exact⟨h.1.mono hG,h.2.1.mono hG,h.2.2.1,ih h.2.2.2⟩
theorem Step.keeps {W N:Nm→Prop}{G G':Gh}{w w':World}(h:Step W N G w G' w')(hw:WF G w){k:Nm}(hk:G.dom k)(hn:¬W k){o:aQ}(ho:OR G w k o):OR G' w' k o:=by
 obtain⟨em,ea⟩:=h.same k hk hn
 obtain⟨hb,hF⟩:=h.blocks (G.mu k) (hw.lt k hk) (fun x hx dx e=>hn (by rw[← hw.inj x k dx hk e];exact hx))
 cases o with
 |cells ei cs=>
  obtain⟨ha,vs,ty,fr,hh,ht,hv,hf⟩:=ho
  exact⟨by rw[ea];exact ha,vs,ty,fr,by rw[em,hb];exact hh,ht,hv.mono h.le,fun o=>by rw[em,hF];exact hf o⟩
 |arr g bR fz cs=>
  obtain⟨he,cap,vs,ty,fr,ha,hh,ht,hs,hl,hv,hf⟩:=ho
  exact⟨he,cap,vs,ty,fr,by rw[ea];exact ha,by rw[em,hb];exact hh,ht,hs,hl,hv.mono h.le,fun o ho=>by rw[em,hF];exact hf o ho⟩
 |map es c=>
  obtain⟨ha,bz,hh,hv,hf⟩:=ho
  exact⟨by rw[ea];exact ha,bz,by rw[em,hb];exact hh,hv.mono h.le,fun o=>by rw[em,hF];exact hf o⟩
 |dead=>trivial
theorem Heap.BB (H:Heap)(k k':Nm)(o:aQ):(H.put k o).get k'=if k=k' then some o else H.get k':=by
  induction H with
  |nil=>simp only[Heap.put,Heap.get]
  | cons p r ih=>
    obtain⟨k0,o0⟩:=p
    simp only[Heap.put]
    by_cases h:k0=k
    · subst h
      simp only[if_true,Heap.get]
      split<;>rfl
    · simp only[if_neg h,Heap.get,ih]
      by_cases h2:k0=k'
      · subst h2
        rw[if_pos rfl,if_neg (fun e=>h e.symm),if_pos rfl]
      · rw[if_neg h2,if_neg h2]
theorem Heap.qP (H:Heap)(u:List (Nm×aQ))(k:Nm)(o:aQ)(h:(H.dJ u).get k=some o):
    (k,o)∈u∨(H.get k=some o∧k∉u.map (·.1)):=by
  unfold Heap.dJ at h
  induction u generalizing H with
  |nil=>exact .inr ⟨h,by simp⟩
  | cons p r ih=>
    simp only[List.foldl_cons] at h
    rcases ih (H.put p.1 p.2) h with h|⟨h,hn⟩
    · exact .inl (List.mem_cons_of_mem _ h)
    · rw[Heap.BB] at h
      split at h
      · rename_i e;simp at h;subst h;subst e;exact .inl List.mem_cons_self
      · rename_i e;exact .inr ⟨h,by simp only[List.map_cons,List.mem_cons,not_or];exact⟨fun x=>e x.symm,hn⟩⟩
theorem Heap.get_filter (H:Heap)(q:Nm→Bool)(k:Nm):Heap.get (H.filter fun p=>q p.1) k=if q k=true then H.get k else none:=by
  induction H with
  |nil=>simp[Heap.get]
  | cons p r ih=>
    obtain⟨k0,o0⟩:=p
    simp only[List.filter_cons]
    by_cases h:q k0=true
    · simp only[h,if_true,Heap.get,ih]
      by_cases e:k0=k
      · subst e;simp[h]
      · simp[e]
    · simp only[h,Heap.get]
      by_cases e:k0=k
      · subst e;simp[ih,h]
      · simp[e,ih]
theorem Heap.tQ (H:Heap)(ks:List Nm)(k:Nm):(H.tB ks).get k=if k∈ks then none else H.get k:=by
 unfold Heap.tB
 rw[Heap.get_filter H (fun k=> !(ks.contains k)) k]
 by_cases h:k∈ks<;>simp[h]
theorem HR.dJ {W N:Nm→Prop}{G G':Gh}{w w':World}{H:Heap}{u:List (Nm×aQ)}(h:Step W N G w G' w')(hw:WF G w)(hH:HR G w H)
    (hu:∀k o,(k,o)∈u→G'.dom k∧OR G' w' k o)(hW:∀k,G.dom k→W k→k∈u.map (·.1)):HR G' w' (H.dJ u):=by
  intro k o hk
  rcases Heap.qP H u k o hk with h1|⟨h1,hn⟩
  · exact hu k o h1
  · obtain⟨d,ho⟩:=hH k o h1
    exact⟨h.le.dom _ d,h.keeps hw d (fun x=>hn (hW k d x)) ho⟩
end Go.Abs

namespace Go.Abs
open Go
theorem tR {α β:Type}{P:Program}{s:Sem α}{f:α→Sem β}{w w':World}{a:α}(h:s.run P w=.ok a w'):(s.bind f).run P w=(f a).run P w':=by
  induction s generalizing w with
  |pure x=>simp[Sem.run] at h;obtain⟨rfl,rfl⟩:=h;rfl
  | load m x k ih=>
    simp only[Sem.bind,Sem.run] at h ⊢
    split at h
    · exact ih _ h
    · split at h
      · exact ih _ h
      · simp at h
  | store m x v k ih=>
    cases v<;>simp only[Sem.bind,Sem.run] at h ⊢<;>first
      |(simp at h;done)
      |( split at h
         · split at h
           · simp at h
           · rename_i hf;rw[if_neg hf];exact ih h
         · split at h
           · exact ih h
           · simp at h)
  |new o k ih=>exact ih _ h
  |shape r k ih=>exact ih _ h
  |freeze x n k ih=>exact ih h
  |frozen x k ih=>exact ih _ h
  | getObj r k ih=>
    simp only[Sem.bind,Sem.run] at h ⊢
    split at h
    · simp at h
    · exact ih _ h
    · simp at h
  | setObj r o k ih=>
    simp only[Sem.bind,Sem.run] at h ⊢
    split at h
    · simp at h
    · exact ih h
    · simp at h
  | choose q k ih=>
    simp only[Sem.bind,Sem.run] at h ⊢
    split at h
    · rename_i hf;rw[if_pos hf];exact ih _ h
    · rename_i hf;rw[if_neg hf];exact ih _ h
  |sys c k ih=>exact ih _ h
  |program k ih=>exact ih _ h
  |mark m k ih=>exact ih h
  |halt x=>simp[Sem.run] at h
theorem fK {α β:Type}{P:Program}{s:Sem α}{f:α→Sem β}{w w':World}{a:α}(h:s.run P w=.ok a w'):(s>>=f).run P w=(f a).run P w':=tR h
theorem mW (b o n:Nat):(Addr.add ⟨b,o,none⟩ n)=⟨b,o+n,none⟩:=by
 unfold Addr.add
 split
 · rename_i h;subst h;rfl
 · rfl
theorem cell_of {w:World}{b:Nat}{vs:Array Value}{ty:TypeId}{fr:Nat×Nat}(h:w.heap[b]?=some (.cells vs ty fr))(o:Nat):w.cell? ⟨b,o,none⟩=vs[o]?:=by
 simp[World.cell?,h]
theorem EP {w:World}{b:Nat}{vs:Array Value}{ty:TypeId}{fr:Nat×Nat}(h:w.heap[b]?=some (.cells vs ty fr))(o:Nat):w.frozen? ⟨b,o,none⟩=(decide (fr.1≤o)&&decide (o<fr.2)):=by
 simp[World.frozen?,h]
theorem Iy {P:Program}{w:World}{a:Addr}{v:Value}(h:w.cell? a=some v):(load a).run P w=.ok v w:=by
 simp[load,Sem.run,h]
theorem xA {P:Program}{w:World}{b o:Nat}(vs:List Value):∀(i:Nat) (acc:Array Value),(∀j v,vs[j]?=some v→w.cell? ⟨b,o+i+j,none⟩=some v)→
  (loadCellsFrom ⟨b,o,none⟩ i vs.length acc).run P w=.ok (acc++vs.toArray) w:=by
 induction vs with
 |nil=>intro i acc _;simp[loadCellsFrom]
 |cons v r ih=>
  intro i acc h
  simp only[List.length_cons,loadCellsFrom,mW]
  rw[fK (Iy (by simpa using h 0 v rfl))]
  rw[ih (i+1) (acc.push v) (fun j u hu=>by have:=h (j+1) u (by simpa using hu);rw[← this];congr 2;omega)]
  simp
theorem mN {P:Program}{w:World}{b o:Nat}(vs:List Value)(h:∀j v,vs[j]?=some v→w.cell? ⟨b,o+j,none⟩=some v):
  (loadCells ⟨b,o,none⟩ vs.length).run P w=.ok vs.toArray w:=by
 unfold loadCells
 have:=xA (P:=P) vs 0 #[] (by simpa using h)
 simpa using this
def World.cF (w:World)(b:Nat)(vs:Array Value)(ty:TypeId)(fr:Nat×Nat):World:={w with heap:=w.heap.setIfInBounds b (.cells vs ty fr)}
theorem lg {w:World}{b:Nat}{vs:Array Value}{ty:TypeId}{fr:Nat×Nat}(h:w.heap[b]?=some (.cells vs ty fr))(o:Nat)(v:Value):
    w.setCell ⟨b,o,none⟩ v=World.cF w b (vs.setIfInBounds o v) ty fr:=by
  unfold World.setCell World.cF
  congr 1
  apply Array.ext_getElem?
  intro i
  rw[Array.getElem?_modify,Array.getElem?_setIfInBounds]
  by_cases e:b=i
  · subst e
    have hb:b<w.heap.size:=(Array.getElem?_eq_some_iff.1 h).1
    rw[h];simp[hb]
  · simp[e]
theorem fL {w:World}{b:Nat}(hb:b<w.heap.size)(vs:Array Value)(ty:TypeId)(fr:Nat×Nat):(World.cF w b vs ty fr).heap[b]?=some (.cells vs ty fr):=by
 simp[World.cF,hb]
theorem ku {w:World}{b c:Nat}(h:b≠c)(vs:Array Value)(ty:TypeId)(fr:Nat×Nat):(World.cF w b vs ty fr).heap[c]?=w.heap[c]?:=by
 simp[World.cF,Array.getElem?_setIfInBounds,h]
theorem Bi (w:World)(b:Nat)(vs us:Array Value)(ty ty':TypeId)(fr fr':Nat×Nat):World.cF (World.cF w b vs ty fr) b us ty' fr'=World.cF w b us ty' fr':=by
 simp[World.cF]
theorem oJ {w:World}{b:Nat}{vs:Array Value}{ty:TypeId}{fr:Nat×Nat}(h:w.heap[b]?=some (.cells vs ty fr)):World.cF w b vs ty fr=w:=by
  unfold World.cF
  have:w.heap.setIfInBounds b (.cells vs ty fr)=w.heap:=by
    apply Array.ext_getElem?
    intro i
    rw[Array.getElem?_setIfInBounds]
    by_cases e:b=i
    · subst e
      obtain⟨hb,he⟩:=Array.getElem?_eq_some_iff.1 h
      simp[hb,he]
    · simp[e]
  rw[this]
theorem lp (w:World)(b:Nat)(vs:Array Value)(ty:TypeId)(fr:Nat×Nat):(World.cF w b vs ty fr).heap.size=w.heap.size:=by
 simp[World.cF]
def over (vs:List Value)(o:Nat)(xs:List Value):List Value:=vs.take o++xs++vs.drop (o+xs.length)
theorem xB (vs:List Value)(o:Nat):over vs o []=vs:=by simp[over]
theorem ER {vs:List Value}{o:Nat}{x:Value}{xs:List Value}(h:o+(x::xs).length≤vs.length):over (vs.set o x) (o+1) xs=over vs o (x::xs):=by
  unfold over
  simp only[List.length_cons] at h
  apply List.ext_getElem?
  intro i
  simp only[List.getElem?_append,List.length_append,List.length_take,List.length_set,List.getElem?_take,List.getElem?_drop,List.getElem?_set,List.length_cons]
  have e1:min (o+1) vs.length=o+1:=by omega
  have e2:min o vs.length=o:=by omega
  rw[e1,e2]
  by_cases c1:i<o
  · simp[show i<o+1+xs.length by omega,show i<o+1 by omega,show i<o+(xs.length+1) by omega,c1,show ¬o=i by omega]
  · by_cases c2:i=o
    · subst c2
      simp[show i<i+1+xs.length by omega,show i<vs.length by omega]
    · by_cases c3:i<o+1+xs.length
      · simp[c3,show ¬i<o+1 by omega,show i<o+(xs.length+1) by omega,c1]
        rw[show i - o=(i - (o+1))+1 by omega];simp
      · simp[c3,show ¬i<o+(xs.length+1) by omega]
        rw[if_neg (by omega)]
        congr 1;omega
theorem O5 {P:Program}{w:World}{a:Addr}{u v:Value}(ho:one v=true)(h:w.cell? a=some u)(hf:w.frozen? a=false):(store a v).run P w=.ok () (w.setCell a v):=by
 cases v<;>simp_all [store,Sem.run,one]
theorem oL {P:Program}{b o:Nat}{ty:TypeId}{fr:Nat×Nat}(xs:List Value):∀(w:World) (i:Nat) (vs:List Value),(∀x∈xs,one x=true)→w.heap[b]?=some (.cells vs.toArray ty fr)→qz vs.toArray fr→
  o+i+xs.length≤vs.length→(storeCells ⟨b,o,none⟩ xs i).run P w=.ok () (World.cF w b (over vs (o+i) xs).toArray ty fr):=by
 induction xs with
 |nil=>
  intro w i vs _ h _ _
  simp only[storeCells,xB]
  rw[oJ h];rfl
 | cons x r ih=>
  intro w i vs ho h ht hl
  have hl':o+i<vs.length:=by simp at hl;omega
  simp only[storeCells,mW]
  have hc:w.cell? ⟨b,o+i,none⟩=some vs[o+i]:=by rw[cell_of h];simp[hl']
  have hf:w.frozen? ⟨b,o+i,none⟩=false:=by
   rw[EP h]
   have:=ht (o+i) (by simpa using hl')
   simp only[Bool.and_eq_false_iff,decide_eq_false_iff_not]
   by_cases h1:fr.1≤o+i
   · right;exact fun h2=>this ⟨h1,h2⟩
   · left;exact h1
  rw[fK (O5 (ho x List.mem_cons_self) hc hf),lg h]
  have hb:b<w.heap.size:=(Array.getElem?_eq_some_iff.1 h).1
  have air:vs.toArray.setIfInBounds (o+i) x=(vs.set (o+i) x).toArray:=by simp
  rw[air,ih _ (i+1) (vs.set (o+i) x) (fun y hy=>ho y (List.mem_cons_of_mem _ hy)) (fL hb _ _ _) (by simpa [qz] using ht) (by simp at hl ⊢;omega)]
  rw[Bi,← Nat.add_assoc,ER (by simpa [Nat.add_assoc] using hl)]
theorem iX {P:Program}{w:World}(elem:TypeId)(cells:Array Value):(newRow elem cells).run P w=.ok ⟨w.heap.size,0,none⟩ {w with heap:=w.heap.push (.cells cells elem)}:=by
 rfl
theorem bC {P:kK}{t:TypeId}{ti:TI}(h:bf P t=some ti):
  ∃i,P.prog.info? t=some i∧P.prog.underlying t=some ti.desc∧i.size=ti.size∧i.bytes=ti.bytes∧i.zero.bind valOf=ti.zero∧ti.agg=(match ti.desc with|.struct _|.array _ _=>true|_=>false):=by
 have h:=P.adp _ _ h
 unfold Q0 at h
 cases h1:P.prog.info? t<;>cases h2:P.prog.underlying t<;>simp[h1,h2] at h
 subst h
 exact⟨_,rfl,rfl,rfl,rfl,rfl,rfl⟩
theorem aK {P:Program}{t:TypeId}{d:TypeDesc}(h:P.underlying t=some d)(w:World):(underlying t).run P w=.ok d w:=by
 unfold underlying program
 simp only[bind,Sem.bind,Sem.run,h]
 rfl
theorem nP {P:Program}{t:TypeId}{i:TypeInfo}(h:P.info? t=some i)(w:World):(typeInfo t).run P w=.ok i w:=by
 unfold typeInfo program
 simp only[bind,Sem.bind,Sem.run,h]
 rfl
theorem dX {P:kK}{t:TypeId}{ti:TI}(h:bf P t=some ti)(w:World):(sizeOf t).run P w=.ok ti.size w:=by
 obtain⟨i,hi,_,hs,_⟩:=bC h
 unfold sizeOf
 rw[fK (nP hi w),hs];rfl
theorem ES {P:kK}{t:TypeId}{ti:TI}(h:bf P t=some ti)(w:World):(isAgg t).run P w=.ok ti.agg w:=by
 obtain⟨i,hi,hu,_,_,_,ha⟩:=bC h
 unfold isAgg
 rw[fK (aK hu w),ha]
 cases ti.desc<;>rfl
theorem fI {P:kK}{t:TypeId}{ti:TI}{z:TV}(h:bf P t=some ti)(hz:ti.zero=some z)(w:World)(G:Gh):∃v,(zeroValue t).run P w=.ok v w∧VR G z v:=by
 obtain⟨i,hi,_,_,_,h0,_⟩:=bC h
 rw[hz] at h0
 cases hv:i.zero with
 |none=>rw[hv] at h0;simp at h0
 |some v=>
  rw[hv] at h0
  simp only[Option.bind_some] at h0
  refine⟨v, ?_,tP h0⟩
  unfold zeroValue
  rw[fK (nP hi w),hv];rfl
theorem O6 {v:Value}{x:TV}(h:vN v=some x):x≠ .any:=by
 rintro rfl
 unfold vN at h
 split at h<;>simp at h
theorem Rb (l:List TV):tK l≠ .any:=by
 unfold tK
 split<;>simp
theorem Rc (l:List TV):p6 l≠ .any:=by
 unfold p6
 split<;>simp
theorem Rf {v:Value}{x:TV}(h:valOf v=some x):x≠ .any:=by
  unfold valOf at h
  split at h
  · split at h<;>simp at h
    subst h
    exact Rb _
  · split at h<;>simp at h
    subst h
    exact Rc _
  · exact O6 h
theorem rY {P:kK}{t:TypeId}{ti:TI}{z:TV}(h:bf P t=some ti)(hz:ti.zero=some z):z≠ .any:=by
 obtain⟨i,hi,_,_,_,h0,_⟩:=bC h
 rw[hz] at h0
 cases hv:i.zero with
 |none=>rw[hv] at h0;simp at h0
 |some v=>
  rw[hv] at h0
  simp only[Option.bind_some] at h0
  exact Rf h0
theorem BD {x:TV}(h:x.cells.all TV.leaf=true):x≠ .any:=by
 rintro rfl
 simp[TV.cells,TV.leaf] at h
end Go.Abs

namespace Go.Abs
open Go
def jq (C:dh)(G:Gh):Prop:=∀g cs,C.iT g=some cs→∃vals:Nat→Value,(∀(j:Nat) c,cs[j]?=some c→G.F g (0+j)=some (vals j))∧∀(j:Nat) c,cs[j]?=some c→VT G.F c (vals j)
theorem jq.mono {C:dh}{G G':Gh}(h:jq C G)(hG:G.le G'):jq C G':=fun g cs hg=>
 let⟨vals,h1,h2⟩:=h g cs hg
 ⟨vals,fun j c hc=>hG.F _ _ _ (h1 j c hc),fun j c hc=>(h2 j c hc).mono hG.F⟩
def SR (G:Gh)(slots:List TV)(a:Act):Prop:=cK G slots a.tmps.toList
theorem mX (G:Gh):VR G b8 undef:=.t _ _ (.bN [] [] rfl (by simp))
theorem SR.getD {G:Gh}{slots:List TV}{a:Act}(h:SR G slots a)(t:Nat):VR G (slots.getD t b8) (a.tmps.getD t undef):=by
  by_cases ht:t<slots.length
  · have ht':t<a.tmps.size:=by have:=h.1;simp at this;omega
    have e1:slots[t]?=some slots[t]:=List.getElem?_eq_getElem ht
    have e2:a.tmps.toList[t]?=some a.tmps[t]:=by simp[ht']
    have:=h.2 t _ _ e1 e2
    simpa [List.getD,e1,ht'] using this
  · have ht':¬t<a.tmps.size:=by have:=h.1;simp at this;omega
    have e1:slots[t]?=none:=List.getElem?_eq_none (by omega)
    simpa [List.getD,e1,ht'] using mX G
theorem bK {C:dh}{G:Gh}{slots:List TV}{a:Act}(hs:SR G slots a)(hg:jq C G){x:Operand}{v:TV}(h:cU C slots x=some v):VR G v (a.eval x):=by
 cases x with
 |tmp t=>simp[cU,F6] at h;subst h;exact hs.getD t
 |const c=>exact tP h
 |global g=>
  simp only[cU] at h
  cases hc:C.iT g<;>simp[hc] at h
  subst h
  obtain⟨vals,h1,h2⟩:=hg g _ hc
  exact .jL _ 0 g 0 vals h1 h2
 |func f=>simp[cU] at h;subst h;exact .t _ _ (.fn _)
theorem uP {C:dh}{G:Gh}{slots:List TV}{a:Act}(hs:SR G slots a)(hg:jq C G){xs:List Operand}{vs:List TV}(h:jx C slots xs=some vs):cK G vs (xs.map a.eval):=by
 induction xs generalizing vs with
 |nil=>simp[jx] at h;subst h;exact cK.nil G
 |cons x r ih=>
  simp only[jx] at h
  cases h1:cU C slots x<;>cases h2:jx C slots r<;>simp[h1,h2] at h
  subst h
  exact cK.cons (bK hs hg h1) (ih h2)
def cW (P:Program)(nm:Nm)(o:Oper)(a:Act)(w:World)(G:Gh)(v:TV)(u:List (Nm×aQ)):Prop:=
 ∃x w' G',((execOp a.eval o).run P w=.ok (.value x) w'∨((execOp a.eval o).run P w=.ok .skip w'∧x=undef))∧Step (fun k=>k∈u.map (·.1)) (fun k=>k=nm) G w G' w'∧
  (∀k ob,(k,ob)∈u→G'.dom k∧OR G' w' k ob)∧VR G' v x
theorem cW.fM {P:Program}{nm:Nm}{o:Oper}{a:Act}{w w':World}{G G':Gh}{v:TV}{u:List (Nm×aQ)}{x:Value}
  (hr:(execOp a.eval o).run P w=.ok (.value x) w')(hs:Step (fun k=>k∈u.map (·.1)) (fun k=>k=nm) G w G' w')
  (hu:∀k ob,(k,ob)∈u→G'.dom k∧OR G' w' k ob)(hv:VR G' v x):cW P nm o a w G v u:=
 ⟨x,w',G',.inl hr,hs,hu,hv⟩
theorem cW.BF {P:Program}{nm:Nm}{o:Oper}{a:Act}{w w':World}{G G':Gh}{u:List (Nm×aQ)}
  (hr:(execOp a.eval o).run P w=.ok .skip w')(hs:Step (fun k=>k∈u.map (·.1)) (fun k=>k=nm) G w G' w')
  (hu:∀k ob,(k,ob)∈u→G'.dom k∧OR G' w' k ob):cW P nm o a w G b8 u:=
 ⟨undef,w',G',.inr ⟨hr,rfl⟩,hs,hu,mX G'⟩
theorem cW.quiet {P:Program}{nm:Nm}{o:Oper}{a:Act}{w:World}{G:Gh}{v:TV}{x:Value}(hw:WF G w)
  (hr:(execOp a.eval o).run P w=.ok (.value x) w)(hv:VR G v x):cW P nm o a w G v []:=
 cW.fM hr (Step.refl hw _ _) (fun _ _ h=>by simp at h) hv
theorem VR.bool {G:Gh}{b:Bool}{v:Value}(h:VR G (.t (.bool b)) v):v=.bool b:=by cases h with|t _ _ h=>cases h;rfl
theorem VR.int {G:Gh}{k:IntKind}{n:Int}{v:Value}(h:VR G (.t (.int k n)) v):v=.int k n:=by cases h with|t _ _ h=>cases h;rfl
theorem VR.str {G:Gh}{s:List UInt8}{v:Value}(h:VR G (.t (.str s)) v):v=.string ⟨s.toArray⟩:=by cases h with|t _ _ h=>cases h;rfl
theorem bytesLess_eq:∀(a b:List UInt8),Op.bytesLess a b=iP a b
 |_,[]=>by cases ‹List UInt8›<;>rfl
 | [],_::_=>rfl
 |a::x,b::y=>by simp only[Op.bytesLess,iP,bytesLess_eq x y]
theorem toList_mk (s:List UInt8):(ByteArray.mk s.toArray).toList=s:=by
 rw[Go.ByteArray.toList_eq]
theorem Rh {P:Program}{G:Gh}{op:BinOp}{s u:List UInt8}{v:TV}(h:Wu op s u=some v)(w:World):
    ∃x,(Op.stringOp op ⟨s.toArray⟩ ⟨u.toArray⟩).run P w=.ok x w∧VR G v x:=by
  cases op<;>simp only[Wu] at h<;>(try (simp at h;done))<;>
    simp only[Op.stringOp,toList_mk,bytesLess_eq]
  case add=>
    split at h
    · rename_i hle
      simp at h;subst h
      rw[if_neg]
      · refine⟨_,rfl, ?_⟩
        have e:(ByteArray.mk s.toArray++ByteArray.mk u.toArray)=⟨(s++u).toArray⟩:=by
          apply Go.WideShapes.bytes_inj
          simp
        rw[e];exact .t _ _ (.str _)
      · have e:IntKind.i64.max=9223372036854775807:=by decide
        rw[e]
        simp only[ByteArray.size,Q6,List.size_toArray] at hle ⊢
        omega
    · simp at h
  all_goals
    simp only[Option.some.injEq] at h;subst h
    exact⟨_,rfl,.t _ _ (.bool _)⟩
section quiet
variable {C:dh}{f:FuncId}{nm:Nm}{H:Heap}{slots:List TV}{o:Oper}{a:Act}{w:World}{G:Gh}{v:TV}{u:List (Nm×aQ)}
theorem gH {x:Option TV}(h:vQ x=some (v,u)):x=some v∧u=[]:=by
 cases x<;>simp[vQ] at h
 exact⟨by rw[h.1],h.2⟩
theorem tS {op:BinOp}{t:TypeId}{x y:Operand}{b c:TV}{p q:Value}(hb:VR G b p)(hc:VR G c q)(h:w9 C.P op t x y b c=some v):
  ∃r,(do eqGuard op t x y p q;binOp op t p q:Sem Value).run C.P w=.ok r w∧VR G v r:=by
 unfold w9 at h
 cases h1:j4 b<;>cases h2:j4 c<;>simp[h1,h2] at h
 rename_i p' q'
 have e1:=k9 h1 hb
 have e2:=k9 h2 hc
 subst e1;subst e2
 cases h3:jM C.P (do eqGuard op t x y p q;binOp op t p q)<;>simp[h3] at h
 exact⟨_,mV h3 w,tP h⟩
theorem p9 {op:BinOp}{t:TypeId}{x y:Operand}{p q:Value}(h:∀z,q≠ .agg z)(h':q≠ .nilIface):eqGuard op t x y p q=pure ():=by
 unfold eqGuard
 cases q<;>first
  |(exact absurd rfl (h _))
  |(exact absurd rfl h')
  |(cases op<;>cases p<;>rfl)
theorem eV {t:TypeId}{x y:Operand}{p q:Value}{r:Bool}(hq:∀z,q≠ .agg z)(hq':q≠ .nilIface)(hp1:binOp .eql t p q=do pure (.bool (← Op.equal t p q)))(hp2:binOp .neq t p q=do pure (.bool (!(← Op.equal t p q))))
    (he:(Op.equalIn (9999+1) t p q).run C.P w=.ok r w):
    (do eqGuard .eql t x y p q;binOp .eql t p q:Sem Value).run C.P w=.ok (.bool r) w∧(do eqGuard .neq t x y p q;binOp .neq t p q:Sem Value).run C.P w=.ok (.bool (!r)) w:=by
  have he:(Op.equal t p q).run C.P w=.ok r w:=he
  rw[p9 hq hq',p9 hq hq',hp1,hp2]
  constructor
  · show(Sem.bind (Op.equal t p q) _).run C.P w=_
    rw[tR he];rfl
  · show(Sem.bind (Op.equal t p q) _).run C.P w=_
    rw[tR he];rfl
section eqs
variable {t e k:TypeId}{ps rs:Array TypeId}{va:Bool}{d:Nat}
theorem xC (hu:C.P.prog.underlying t=some (.slice e))(b:Option Addr)(n m l c:Nat):(Op.equalIn (d+1) t (.slice b n m) (.slice none l c)).run C.P w=.ok b.isNone w:=by
 simp only[Op.equalIn];rw[fK (aK hu w)];cases b<;>rfl
theorem ET (hu:C.P.prog.underlying t=some (.map k e))(b:Option Nat):(Op.equalIn (d+1) t (.map b) (.map none)).run C.P w=.ok b.isNone w:=by
 simp only[Op.equalIn];rw[fK (aK hu w)];cases b<;>rfl
theorem Ri (hu:C.P.prog.underlying t=some (.func ps rs va)):(Op.equalIn (d+1) t .nilFunc .nilFunc).run C.P w=.ok true w:=by
 simp only[Op.equalIn];rw[fK (aK hu w)];rfl
theorem Iz (hu:C.P.prog.underlying t=some (.func ps rs va))(f:Fn)(a b:Array Value):(Op.equalIn (d+1) t (.func f a b) .nilFunc).run C.P w=.ok false w:=by
 simp only[Op.equalIn];rw[fK (aK hu w)];rfl
theorem zP (hu:C.P.prog.underlying t=some (.pointer e))(b:Option Addr):(Op.equalIn (d+1) t (.pointer b) (.pointer none)).run C.P w=.ok b.isNone w:=by
 simp only[Op.equalIn];rw[fK (aK hu w)];cases b<;>rfl
end eqs
theorem EU {t:TypeId}{x y:Operand}{b c:TV}{p q:Value}{ti:TI}{r:Bool}(ht:bf C.P t=some ti)(hb:VR G b p)(hc:VR G c q)(h:EL ti.desc b c=some r)(w:World):
    (do eqGuard .eql t x y p q;binOp .eql t p q:Sem Value).run C.P w=.ok (.bool r) w∧(do eqGuard .neq t x y p q;binOp .neq t p q:Sem Value).run C.P w=.ok (.bool (!r)) w:=by
  obtain⟨i,hi,hu,_⟩:=bC ht
  unfold EL at h
  split at h<;>simp only[Option.some.injEq,reduceCtorEq] at h<;>subst h<;>rename_i hd<;>rw[hd] at hu
  · cases hb;cases hc
    exact eV (by intro z;simp) (by simp) rfl rfl (xC hu none 0 0 0 0)
  · cases hb with|t _ _ hb=>cases hb with|sl=>cases hc;exact eV (by intro z;simp) (by simp) rfl rfl (xC hu (some _) _ _ 0 0)
  · cases hb with|k5 _ _ hb=>cases hb with|sl=>cases hc;exact eV (by intro z;simp) (by simp) rfl rfl (xC hu (some _) _ _ 0 0)
  · cases hb with|t _ _ hb=>cases hb;cases hc with|t _ _ hc=>cases hc;exact eV (by intro z;simp) (by simp) rfl rfl (ET hu none)
  · cases hb;cases hc with|t _ _ hc=>cases hc;exact eV (by intro z;simp) (by simp) rfl rfl (ET hu (some _))
  · cases hb with|t _ _ hb=>cases hb;cases hc with|t _ _ hc=>cases hc;exact eV (by intro z;simp) (by simp) rfl rfl (Ri hu)
  · cases hb;cases hc with|t _ _ hc=>cases hc;exact eV (by intro z;simp) (by simp) rfl rfl (Iz hu _ _ _)
  · cases hb with|t _ _ hb=>cases hb;cases hc with|t _ _ hc=>cases hc;exact eV (by intro z;simp) (by simp) rfl rfl (Iz hu _ _ _)
  · cases hb with|t _ _ hb=>cases hb;cases hc with|t _ _ hc=>cases hc;exact eV (by intro z;simp) (by simp) rfl rfl (zP hu none)
  · cases hb;cases hc with|t _ _ hc=>cases hc;exact eV (by intro z;simp) (by simp) rfl rfl (zP hu (some _))
  · cases hb;cases hc with|t _ _ hc=>cases hc;exact eV (by intro z;simp) (by simp) rfl rfl (zP hu (some _))
end quiet
end Go.Abs

namespace Go.Abs
open Go
section
variable {C:dh}{f:FuncId}{nm:Nm}{H:Heap}{slots:List TV}{a:Act}{w:World}{G:Gh}{v:TV}
theorem Rj {P:Program}{op:BinOp}{k:IntKind}{n m:Int}(h:O2 op k n m=some v)(t:TypeId)(w:World):
    ∃r,(binOp op t (.int k n) (.int k m)).run P w=.ok r w∧VR G v r:=by
  cases op<;>simp only[O2] at h<;>first
    |(simp at h;done)
    |(simp only[Option.some.injEq] at h;subst h;exact⟨_,by simp[binOp,Op.intArith,Op.intCmp]<;>rfl,.t _ _ (by first|exact .int _ _|exact .bool _)⟩)
    |( split at h
       · simp at h
       · rename_i h0
         simp only[Option.some.injEq] at h;subst h;exact⟨_,by simp[binOp,Op.intDiv,h0]<;>rfl,.t _ _ (.int _ _)⟩)
theorem Rk {op:BinOp}{t:TypeId}{x y:Operand}{b c:TV}{p q:Value}(hb:VR G b p)(hc:VR G c q)(h:F4 C.P op t x y b c=some v)(w:World):
    ∃r,(do eqGuard op t x y p q;binOp op t p q:Sem Value).run C.P w=.ok r w∧VR G v r:=by
  unfold F4 at h
  split at h
  · rename_i s u
    have e1:=hb.str
    have e2:=hc.str
    subst e1;subst e2
    obtain⟨r,h1,h2⟩:=Rh h w (P:=C.P) (G:=G)
    refine⟨r, ?_,h2⟩
    rw[p9 (by intro z;simp) (by simp)]
    cases op<;>first|exact h1|(simp[Wu] at h)
  · rename_i k n k' m
    split at h
    case isFalse=>exact tS hb hc h
    rename_i hk
    subst hk
    split at h
    · rename_i v' hv
      simp only[Option.some.injEq] at h
      subst h
      have e1:=hb.int
      have e2:=hc.int
      subst e1;subst e2
      obtain⟨r,h1,h2⟩:=Rj (P:=C.P) (G:=G) hv t w
      refine⟨r, ?_,h2⟩
      rw[p9 (by intro z;simp) (by simp)]
      exact h1
    · exact tS hb hc h
  · split at h
    · split at h
      · rename_i ti ht
        cases hn:EL ti.desc b c<;>simp[hn] at h
        subst h
        exact⟨_,(EU ht hb hc hn w).1,.t _ _ (.bool _)⟩
      · rename_i ti ht
        cases hn:EL ti.desc b c<;>simp[hn] at h
        subst h
        exact⟨_,(EU ht hb hc hn w).2,.t _ _ (.bool _)⟩
      · simp at h
    · exact tS hb hc h
theorem Wz {op:UnOp}{b:TV}{p:Value}(hb:VR G b p)(h:unT C.P op b=some v)(w:World):∃r,(Op.unary op p).run C.P w=.ok r w∧VR G v r:=by
 unfold unT at h
 cases h1:j4 b<;>simp[h1] at h
 have e:=k9 h1 hb
 subst e
 cases h2:jM C.P (Op.unary op p)<;>simp[h2] at h
 exact⟨_,mV h2 w,tP h⟩
theorem AE {p:TV}{x:Value}{cs:List TV}{off:Nat}(hH:HR G w H)(hw:WF G w)(hp:VR G p x)(h:rW H p=some (cs,off)):
    ∃b o vs,x=.pointer (some ⟨b,o+off,none⟩)∧cK G cs vs∧∀(j:Nat) u,vs[j]?=some u→w.cell? ⟨b,o+j,none⟩=some u:=by
  unfold rW at h
  split at h
  · rename_i k o
    split at h<;>simp at h
    rename_i cs' hk
    obtain⟨rfl,rfl⟩:=h
    obtain⟨hd,ha,vs,ty,fr,hh,ht,hv,hf⟩:=hH k _ hk
    cases hp with|ptr _ _ _ _=>
      refine⟨G.mu k,0,vs.toList,by simp,hv,fun j u hu=> ?_⟩
      rw[cell_of hh];simpa using hu
  · rename_i k n o
    split at h
    · rename_i g bR fz cs' hk
      split at h<;>simp at h
      rename_i hn
      obtain⟨rfl,rfl⟩:=h
      obtain⟨hd,he,cap,vs,ty,fr,ha,hh,ht,hs,hl,hv,hf⟩:=hH k _ hk
      cases hp with|jY _ _ _ n' Rl cap' _ hd' ha' hle ho hv'=>
        rw[ha] at ha'
        simp at ha'
        obtain⟨e1,e2,e3⟩:=ha'
        have hx:=hv' (by omega)
        refine⟨G.mu k,0,vs.toList.take cs'.length,by simpa using hx,hv,fun j u hu=> ?_⟩
        rw[cell_of hh]
        rw[List.getElem?_take] at hu
        split at hu
        · simpa using hu
        · simp at hu
    · simp at h
  · rename_i cs' o
    simp at h
    obtain⟨rfl,rfl⟩:=h
    cases hp with|jL _ _ b o' vals hF hv=>
      refine⟨b,o',(List.range cs'.length).map vals,rfl,⟨by simp,fun j c u hc hu=> ?_⟩,fun j u hu=> ?_⟩
      · rw[List.getElem?_map] at hc hu
        cases hj:cs'[j]? with
        |none=>rw[hj] at hc;simp at hc
        | some t=>
          rw[hj] at hc;simp at hc;subst hc
          have hlt:j<cs'.length:=(List.getElem?_eq_some_iff.1 hj).1
          simp[hlt] at hu
          subst hu
          exact .t _ _ (hv j t hj)
      · rw[List.getElem?_map] at hu
        by_cases hlt:j<cs'.length
        · simp[hlt] at hu
          subst hu
          obtain⟨vs,ty,fr,h1,h2⟩:=hw.F _ _ _ (hF j cs'[j] (List.getElem?_eq_getElem hlt))
          rw[cell_of h1];exact h2
        · rw[List.getElem?_eq_none (by simpa using hlt)] at hu;simp at hu
  · simp at h
theorem B6 {t:TypeId}{ti:TI}{cs:List TV}{vs:List Value}{b o off:Nat}(ht:bf C.P t=some ti)(hv:cK G cs vs)(hc:∀(j:Nat) u,vs[j]?=some u→w.cell? ⟨b,o+j,none⟩=some u)
    (h:partT ti.agg ti.size cs off=some v):∃r,(loadVar t ⟨b,o+off,none⟩).run C.P w=.ok r w∧VR G v r:=by
  unfold partT at h
  unfold loadVar
  rw[fK (ES ht w)]
  cases hag:ti.agg<;>rw[hag] at h<;>simp only[Bool.false_eq_true,if_true,if_false] at h ⊢
  · obtain⟨u,hu,hvu⟩:=hv.at h
    refine⟨u, ?_,hvu⟩
    exact Iy (hc off u hu)
  · split at h<;>simp at h
    rename_i hle
    subst h
    have hlen:((vs.drop off).take ti.size).length=ti.size:=by have:=hv.1;simp;omega
    refine⟨.agg ((vs.drop off).take ti.size).toArray, ?_,tO ((hv.drop off).take ti.size)⟩
    rw[fK (dX ht w)]
    have hl:=mN (P:=C.P) (w:=w) (b:=b) (o:=o+off) ((vs.drop off).take ti.size) (fun j u hu=>by
      rw[List.getElem?_take] at hu
      split at hu
      · rw[List.getElem?_drop] at hu
        rw[Nat.add_assoc];exact hc _ u hu
      · simp at hu)
    rw[hlen] at hl
    rw[fK hl];rfl
theorem O7 {t:TypeId}{p:TV}{x:Value}(hH:HR G w H)(hw:WF G w)(hp:VR G p x)(h:loadT C.P H t p=some v):∃r,(Instr.loadAt t x).run C.P w=.ok r w∧VR G v r:=by
 unfold loadT at h
 cases ht:bf C.P t<;>cases hc:rW H p<;>simp[ht,hc] at h
 rename_i ti co
 obtain⟨cs,off⟩:=co
 obtain⟨b,o,vs,rfl,hv,hcell⟩:=AE hH hw hp hc
 exact B6 ht hv hcell h
theorem B7 {t:TypeId}{ti:TI}{cs:List TV}{vs:List Value}{off:Nat}(ht:bf C.P t=some ti)(hv:cK G cs vs)
    (h:partT ti.agg ti.size cs off=some v)(w:World):∃r,(part t vs.toArray off).run C.P w=.ok r w∧VR G v r:=by
  unfold partT at h
  unfold part
  rw[fK (ES ht w)]
  cases hag:ti.agg<;>rw[hag] at h<;>simp only[Bool.false_eq_true,if_true,if_false] at h ⊢
  · obtain⟨u,hu,hvu⟩:=hv.at h
    refine⟨u, ?_,hvu⟩
    have:vs.toArray[off]?=some u:=by simpa using hu
    rw[this];rfl
  · split at h<;>simp at h
    rename_i hle
    subst h
    refine⟨.agg ((vs.drop off).take ti.size).toArray, ?_,tO ((hv.drop off).take ti.size)⟩
    rw[fK (dX ht w)]
    have:vs.toArray.extract off (off+ti.size)=((vs.drop off).take ti.size).toArray:=by
      simp[List.extract_eq_take_drop]
    rw[this];rfl
theorem VR.Rm {p:TV}{x:Value}(hp:VR G p x)(hx:zL p=true):∃vs:List Value,x=.agg vs.toArray∧cK G p.cells vs:=by
 cases hp with
 |t y v h=>
  cases h with
  |agg cs vs hl h=>exact⟨vs,rfl,Bh.Iv ⟨hl,h⟩⟩
  |_=>simp[zL] at hx
 |agg cs vs hl h=>exact⟨vs,rfl,hl,h⟩
 |_=>simp[zL] at hx
theorem EW {p:TV}{x:Value}{n:Nat}(hH:HR G w H)(hp:VR G p x)(h:ov H p n=some v):
    ∃b o,x=.pointer (some ⟨b,o,none⟩)∧VR G v (.pointer (some ⟨b,o+n,none⟩)):=by
  unfold ov at h
  split at h
  · simp at h;subst h
    cases hp with|ptr k o hd hn=>exact⟨_,_,rfl,.ptr _ _ hd hn⟩
  · rename_i k m o
    split at h
    · rename_i g bR fz cs hk
      split at h<;>simp at h
      rename_i hm
      subst h
      obtain⟨hd,he,cap,vs,ty,fr,ha,hh,ht,hs,hl,hv,hf⟩:=hH k _ hk
      cases hp with|jY _ _ _ n' Rl cap' _ hd' ha' hle ho hv'=>
        rw[ha] at ha'
        simp at ha'
        obtain⟨e1,e2,e3⟩:=ha'
        have hx:=hv' (by omega)
        exact⟨_,_,hx,.jY k m _ cs.length bR cap _ hd ha (by omega) ⟨_,rfl⟩ (fun _=>rfl)⟩
    · simp at h
  · simp at h;subst h
    cases hp with|jL cs o b o' vals hF hv=>exact⟨b,_,rfl,by rw[Nat.add_assoc];exact .jL _ _ b o' vals hF hv⟩
  · simp at h
theorem B8 {fd:Field}{ti:TI}{b o:Nat}(ht:bf C.P fd.type=some ti)(hs:ti.size≠0)(w:World):(fieldPlace ⟨b,o,none⟩ fd).run C.P w=.ok ⟨b,o+fd.offset,none⟩ w:=by
 unfold fieldPlace
 rw[fK (dX ht w),if_neg hs,mW];rfl
theorem Eo {s:TypeId}{x:Value}{p:TV}{i:Nat}{ti tf:TI}{fs:Array Field}{fd:Field}(hH:HR G w H)(hp:VR G p x)(ht:bf C.P s=some ti)(hd:ti.desc=.struct fs)(hi:fs[i]?=some fd)
  (Rn:bf C.P fd.type=some tf)(hs:tf.size≠0)(h:ov H p fd.offset=some v):∃r,(Instr.fieldAt s x i).run C.P w=.ok r w∧VR G v r:=by
 obtain⟨b,o,rfl,hv⟩:=EW hH hp h
 refine⟨_, ?_,hv⟩
 obtain⟨_,_,hu,_⟩:=bC ht
 rw[hd] at hu
 simp[Instr.fieldAt,aK hu w,hi,Instr.sureAddr,B8 Rn hs w]
theorem O8 {t:TypeId}{x:Value}{p:TV}{i:Nat}{ti tf:TI}{fs:Array Field}{fd:Field}(hp:VR G p x)(ht:bf C.P t=some ti)(hd:ti.desc=.struct fs)(hi:fs[i]?=some fd)
  (Rn:bf C.P fd.type=some tf)(hagg:zL p=true)(h:partT tf.agg tf.size p.cells fd.offset=some v)(w:World):∃r,(Instr.field t x i).run C.P w=.ok r w∧VR G v r:=by
 obtain⟨vs,rfl,hv⟩:=hp.Rm hagg
 obtain⟨r,h1,h2⟩:=B7 Rn hv h w
 refine⟨r, ?_,h2⟩
 obtain⟨_,_,hu,_⟩:=bC ht
 rw[hd] at hu
 simp[Instr.field,aK hu w,hi,asAgg,h1]
theorem oP {p:TV}{x:Value}{n:Nat}(hp:VR G p x)(h:fh p=some n):∃k,x=.int k (n:Int):=by
  unfold fh at h
  split at h
  · rename_i k m
    split at h<;>simp at h
    subst h
    have:=hp.int
    subst this
    exact⟨k,by rw[Int.toNat_of_nonneg (by assumption)]⟩
  · simp at h
theorem O9 {t:TypeId}{x y:Value}{p q:TV}(hp:VR G p x)(hq:VR G q y)(h:ox C.P t p q=some v)(w:World):∃r,(Instr.index t x y).run C.P w=.ok r w∧VR G v r:=by
  unfold ox at h
  cases ht:bf C.P t<;>cases hi:fh q<;>simp only[ht,hi,reduceCtorEq] at h
  rename_i ti i
  obtain⟨k,rfl⟩:=oP hq hi
  obtain⟨_,_,hu,_⟩:=bC ht
  split at h
  · rename_i s hd
    have:=hp.str
    subst this
    rw[hd] at hu
    cases hb:s[i]? <;>simp[hb] at h
    subst h
    refine⟨_, ?_,.t _ _ (.int _ _)⟩
    have hs:(ByteArray.mk s.toArray)[i]?=some ‹UInt8›:=by
      obtain⟨h1,h2⟩:=List.getElem?_eq_some_iff.1 hb
      rw[getElem?_pos _ _ (by simpa [ByteArray.size] using h1)]
      have e:(ByteArray.mk s.toArray)[i]'(by simpa [ByteArray.size] using h1)=s[i]:=rfl
      rw[e,h2]
    simp[Instr.index,asIntOf,aK hu w,hs]
  · rename_i len elem hd
    cases hte:bf C.P elem<;>simp only[hte,reduceCtorEq] at h
    rename_i te
    split at h
    · rename_i hc
      obtain⟨h1,h2,h3⟩:=hc
      obtain⟨vs,rfl,hv⟩:=hp.Rm h3
      obtain⟨r,h4,h5⟩:=B7 hte hv h w
      refine⟨r, ?_,h5⟩
      rw[hd] at hu
      simp[Instr.index,asIntOf,aK hu w,h1,dX hte w,h4]
    · simp at h
  · simp at h
theorem IA {x:Value}{p:TV}{i:Nat}(hp:VR G p x)(h:xe p i=some v)(w:World):∃r,(Instr.extract x i).run C.P w=.ok r w∧VR G v r:=by
  unfold xe at h
  split at h
  · cases hp with|bN _ vs hl hh=>
      obtain⟨u,h1,h2⟩:=cK.at ⟨hl,hh⟩ h
      refine⟨u, ?_,h2⟩
      have:vs.toArray[i]?=some u:=by simpa using h1
      simp[Instr.extract,this]
  · rename_i cs
    cases hp with|t _ _ ht=>cases ht with|bN _ vs hl hh=>
      obtain⟨u,h1,h2⟩:=cK.at (Bh.Iv (G:=G) ⟨hl,hh⟩) (by simpa using h)
      refine⟨u, ?_,h2⟩
      have:vs.toArray[i]?=some u:=by simpa using h1
      simp[Instr.extract,this]
  · simp at h
theorem KV {x:Value}{p:TV}{xt t:TypeId}{ok:Bool}(hp:VR G p x)(h:F5 C.P p t ok=some v)(w:World):∃r,(Instr.typeAssert x xt t ok).run C.P w=.ok r w∧VR G v r:=by
  unfold F5 at h
  cases ht:bf C.P t<;>simp only[ht,reduceCtorEq] at h
  rename_i ta
  obtain⟨_,_,hu,_⟩:=bC ht
  have hx:∀t' v',(match p with|.iface t v=>some (t,v)|.t (.iface t v)=>some (t,.t v)|_=>none)=some (t',v')→∃y,x=.iface t' y∧VR G v' y:=by
    intro t' v' he
    split at he<;>simp at he
    · obtain⟨rfl,rfl⟩:=he
      cases hp with|iface _ _ y hy=>exact⟨y,rfl,hy⟩
    · obtain⟨rfl,rfl⟩:=he
      cases hp with|t _ _ hy=>cases hy with|iface _ _ y hy=>exact⟨y,rfl,.t _ _ hy⟩
  split at h
  · simp at h
  · rename_i t' v' he hni
    obtain⟨y,rfl,hy⟩:=hx t' v' he
    split at h
    · rename_i Ro
      subst Ro
      simp at h
      subst h
      refine⟨if ok then .tuple #[y,.bool true] else y, ?_, ?_⟩
      · unfold Instr.typeAssert
        rw[fK (aK hu w)]
        cases hdd:ta.desc<;>first
          |(exact absurd hdd (hni _))
          |(cases ok<;>simp)
      · cases ok
        · exact hy
        · exact k8 (cK.cons hy (cK.one (.t _ _ (.bool true))))
    · rename_i Ro
      split at h
      · rename_i hok
        subst hok
        cases hz:ta.zero<;>simp[hz] at h
        subst h
        obtain⟨z,hz1,QS⟩:=fI ht hz w G
        refine⟨.tuple #[z,.bool false], ?_,k8 (cK.cons QS (cK.one (.t _ _ (.bool false))))⟩
        unfold Instr.typeAssert
        rw[fK (aK hu w)]
        cases hdd:ta.desc<;>first
          |(exact absurd hdd (hni _))
          |simp[Ro,hz1]
      · simp at h
  · simp at h
def sure:Value→Prop
 |.pointer (some _)=>True
 |.func (.func _) _ _=>True
 |_=>False
theorem IB {x:Value}{p:TV}(hp:VR G p x)(h:EM p=true):sure x:=by
 unfold EM at h
 split at h<;>simp at h
 · cases hp;trivial
 · cases hp with|jY _ _ _ _ _ _ _ _ _ _ ho _=>obtain⟨_,rfl⟩:=ho;trivial
 · cases hp;trivial
 · cases hp with|t _ _ hp=>cases hp;trivial
 · cases hp;trivial
end
end Go.Abs

namespace Go.Abs
open Go
theorem Tree.B9 {x:Tree}(h:x.leaf=true):x.cells=[x]:=by cases x<;>simp_all [Tree.leaf,Tree.cells]
theorem rZ {g:Bool}{size:Nat}:∀{n:Nat} {cs es:List Tree},chunk g size n cs=some es→es.length=n∧flat es=cs∧∀e∈es,e.cells.length=size:=by
  intro n
  induction n with
  | zero=>
    intro cs es h
    simp only[chunk] at h
    split at h<;>simp at h
    rename_i hc
    subst h
    simp at hc
    subst hc
    simp[flat]
  | succ n ih =>
    intro cs es h
    simp only[chunk] at h
    split at h
    · rename_i hle
      cases hr:chunk g size n (cs.drop size) with
      |none=>rw[hr] at h;simp at h
      | some r=>
        rw[hr] at h
        simp only at h
        obtain⟨h1,h2,h3⟩:=ih hr
        split at h
        · simp at h;subst h
          refine⟨by simp[h1], ?_,fun e he=> ?_⟩
          · simp only[flat,List.flatMap_cons,Tree.cells] at h2 ⊢
            rw[h2,List.take_append_drop]
          · rcases List.mem_cons.1 he with rfl|he
            · simp[Tree.cells,hle]
            · exact h3 e he
        · split at h
          · rename_i c rest
            split at h<;>simp at h
            rename_i hc
            obtain⟨rfl,hl⟩:=hc
            subst h
            refine⟨by simp[h1], ?_,fun e he=> ?_⟩
            · simp only[flat,List.flatMap_cons,Tree.B9 hl] at h2 ⊢
              rw[h2];simp
            · rcases List.mem_cons.1 he with rfl|he
              · simp[Tree.B9 hl]
              · exact h3 e he
          · simp at h
    · simp at h
section
variable {G:Gh}{w:World}{H:Heap}
open Classical in
noncomputable def Ga (G:Gh)(w:World)(H:Heap)(ks:List Nm):tL:=fun b o=>
 if ∃k,k∈ks∧G.dom k∧∃g e fz cs,H.get k=some (.arr g e fz cs)∧G.mu k=b∧o<cs.length then w.cell? ⟨b,o,none⟩ else G.F b o
noncomputable def Gh.frozen (G:Gh)(w:World)(H:Heap)(ks:List Nm):Gh:={G with F:=Ga G w H ks}
theorem tT (hw:WF G w)(ks:List Nm):∀b o v,G.F b o=some v→Ga G w H ks b o=some v:=by
  intro b o v h
  unfold Ga
  split
  · obtain⟨vs,ty,fr,h1,h2⟩:=hw.F b o v h
    rw[cell_of h1];exact h2
  · exact h
theorem zQ (    hw:WF G w)(hH:HR G w H)(ks:List Nm):∀(n:Nat) (v:TV) (x:Tree) (k0:List Nm) (val:Value),og H n v=some (x,k0)→(∀k∈k0,k∈ks)→VR G v val→VT (Ga G w H ks) x val:=by
  intro n
  induction n with
  | zero=>
    intro v x k0 val h hk hv
    cases v<;>simp only[og] at h<;>try (simp at h;done)
    · simp at h;obtain⟨rfl,rfl⟩:=h;exact hv.tree.mono (tT hw ks)
    · simp at h;obtain⟨rfl,rfl⟩:=h;cases hv;exact .vO _ _
    · simp at h;obtain⟨rfl,rfl⟩:=h;cases hv with|k5 _ _ hv=>exact hv.mono (tT hw ks)
  | succ n ih =>
    have ihs:∀(vs:List TV) (xs:List Tree) (k0:List Nm) (vals:List Value),w8 (og H n) vs=some (xs,k0)→(∀k∈k0,k∈ks)→cK G vs vals→Bh (Ga G w H ks) xs vals:=by
      intro vs
      induction vs with
      |nil=>intro xs k0 vals h _ hv;simp[w8] at h;obtain⟨rfl,rfl⟩:=h;have:=hv.1;simp at this;subst this;exact Bh.nil _
      | cons v r ihr=>
        intro xs k0 vals h hk hv
        obtain⟨u,us,rfl,h1,h2⟩:=hv.iN
        simp only[w8] at h
        cases h3:og H n v<;>cases h4:w8 (og H n) r<;>simp[h3,h4] at h
        rename_i p q
        obtain⟨rfl,rfl⟩:=h
        exact Bh.cons (ih v p.1 p.2 u (by rw[h3]) (fun k hk'=>hk k (List.mem_append.2 (.inl hk'))) h1)
          (ihr q.1 q.2 us (by rw[h4]) (fun k hk'=>hk k (List.mem_append.2 (.inr hk'))) h2)
    intro v x k0 val h hk hv
    cases v with
    |any=>simp[og] at h
    |t y=>simp only[og] at h;simp at h;obtain⟨rfl,rfl⟩:=h;exact hv.tree.mono (tT hw ks)
    |bl=>simp only[og] at h;simp at h;obtain⟨rfl,rfl⟩:=h;cases hv;exact .vO _ _
    |k5 es=>simp only[og] at h;simp at h;obtain⟨rfl,rfl⟩:=h;cases hv with|k5 _ _ hv=>exact hv.mono (tT hw ks)
    | ref k off len =>
      simp only[og] at h
      split at h
      · rename_i g bR fz cs hk'
        split at h
        · rename_i hc
          obtain⟨hpos,hlen⟩:=hc
          split at h
          · rename_i ts ks' hts
            split at h
            · rename_i es hes
              simp at h
              obtain⟨rfl,rfl⟩:=h
              obtain⟨hd,he,cap,vs,ty,fr,ha,hh,ht,hs,hl,hvs,hf⟩:=hH k _ hk'
              cases hv with|ref _ _ _ n' Rl cap' _ hd' ha' hle ho hv'=>
                rw[ha] at ha'
                simp at ha'
                obtain⟨e1,e2,e3⟩:=ha'
                subst e2;subst e3
                obtain⟨a,rfl,adq⟩:=hv' (by rw[hlen];exact e1)
                obtain⟨c1,c2,c3⟩:=rZ hes
                by_cases hne:es=[]
                · subst hne
                  simp at c1
                  subst c1
                  exact .vO _ _
                · have Ng:len≠0:=by intro e;subst e;exact hne (List.length_eq_zero_iff.1 c1)
                  have hcap:off+len≤cap:=by
                    have:(off+len) *bR≤cap*bR:=by rw[hlen,← hs];exact hl
                    exact Nat.le_of_mul_le_mul_right this hpos
                  rw[adq (by omega),← c1]
                  have hsub:=(hvs.drop (off*bR)).take (len*bR)
                  have hVT:=ihs _ ts ks' _ hts (fun k hk2=>hk k (List.mem_cons_of_mem _ hk2)) hsub
                  have htl:ts.length=len*bR:=by
                    have:=hVT.1
                    have h2:=hsub.1
                    simp at h2 this
                    rw[← this,h2]
                    have:(off+len) *bR=off*bR+len*bR:=Nat.add_mul _ _ _
                    omega
                  have hmul:(off+len) *bR=off*bR+len*bR:=Nat.add_mul _ _ _
                  refine .sl bR es (G.mu k) (off*bR) (cap - off) (fun j=>vs.toList.getD (off*bR+j) undef) hne (by omega) c3 ?_ ?_
                  · intro j c hj
                    rw[c2] at hj
                    have hjl:j<ts.length:=(List.getElem?_eq_some_iff.1 hj).1
                    have hbound:off*bR+j<cs.length:=by omega
                    unfold Ga
                    rw[if_pos ⟨k,hk k List.mem_cons_self,hd,g,bR,fz,cs,hk',rfl,hbound⟩,cell_of hh]
                    have:off*bR+j<vs.size:=by omega
                    simp[List.getD,this]
                  · intro j c hj
                    rw[c2] at hj
                    have hjl:j<ts.length:=(List.getElem?_eq_some_iff.1 hj).1
                    have hbound:off*bR+j<cs.length:=by omega
                    have hvl:off*bR+j<vs.size:=by omega
                    refine hVT.2 j c _ hj ?_
                    rw[List.getElem?_take,if_pos (by omega),List.getElem?_drop,List.getElem?_take,if_pos hbound]
                    simp[List.getD,hvl]
            · simp at h
          · simp at h
        · simp at h
      · simp at h
    | agg cs=>
      simp only[og] at h
      cases h1:w8 (og H n) cs<;>simp[h1] at h
      obtain⟨rfl,rfl⟩:=h
      cases hv with|agg _ vs hl hh=>exact(ihs cs _ _ vs (by rw[h1]) hk ⟨hl,hh⟩).agg
    | bN cs=>
      simp only[og] at h
      cases h1:w8 (og H n) cs<;>simp[h1] at h
      obtain⟨rfl,rfl⟩:=h
      cases hv with|bN _ vs hl hh=>exact(ihs cs _ _ vs (by rw[h1]) hk ⟨hl,hh⟩).bN
    | iface ty y=>
      simp only[og] at h
      cases h1:og H n y<;>simp[h1] at h
      obtain⟨rfl,rfl⟩:=h
      cases hv with|iface _ _ u hu=>exact .iface _ _ _ (ih y _ _ u (by rw[h1]) hk hu)
    | fn f fs cs=>
      cases fs<;>cases cs<;>simp only[og] at h<;>simp at h
      obtain⟨rfl,rfl⟩:=h
      cases hv with|fn _ _ _ vs ws hl _ hl' _=>simp at hl hl';subst hl;subst hl';exact .fn f
    |ptr=>simp[og] at h
    |jY=>simp[og] at h
    |jL=>simp[og] at h
    |map=>simp[og] at h
theorem gY (hw:WF G w)(hH:HR G w H)(ks:List Nm):Step (fun k=>k∈ks∧∃g e fz cs,H.get k=some (.arr g e fz cs)) (fun _=>False) G w (G.frozen w H ks) w:=by
  refine⟨⟨tT hw ks,fun _ d=>d,fun _ _ a=>⟨a,rfl⟩,fun _ n _ c _ a=>⟨n,c,a,Nat.le_refl _,fun _=>⟨rfl,rfl⟩⟩⟩,⟨fun b o v h=> ?_,hw.inj,hw.lt⟩,fun _ _ _=>⟨rfl,rfl⟩,fun b hb hn=>⟨rfl,fun o=> ?_⟩,fun _ d=>.inl d,fun _ d=>.inl ⟨d,rfl⟩,Nat.le_refl _,rfl,rfl,rfl⟩
  · simp only[Gh.frozen,Ga] at h
    split at h
    · unfold World.cell? at h
      split at h
      · rename_i c ty fr hb
        simp at h
        exact⟨c,ty,fr,hb,h⟩
      · simp at h
    · exact hw.F b o v h
  · simp only[Gh.frozen,Ga]
    rw[if_neg]
    rintro ⟨k,hk,hd,g,e,fz,cs,h1,h2,h3⟩
    exact hn k ⟨hk,g,e,fz,cs,h1⟩ hd h2
theorem IC {H:Heap}{ks:List Nm}{k:Nm}{ob:aQ}(h:(k,ob)∈cZ H ks):k∈ks∧∃g e fz cs,H.get k=some (.arr g e fz cs)∧ob=.arr g e true cs:=by
  unfold cZ at h
  rw[List.mem_filterMap] at h
  obtain⟨k',hk',h⟩:=h
  split at h
  · rename_i g e fz cs hg
    simp at h
    obtain⟨rfl,rfl⟩:=h
    exact⟨hk',g,e,fz,cs,hg,rfl⟩
  · simp at h
theorem jN {H:Heap}{ks:List Nm}{k:Nm}(hk:k∈ks)(h:∃g e fz cs,H.get k=some (.arr g e fz cs)):k∈(cZ H ks).map (·.1):=by
 obtain⟨g,e,fz,cs,hg⟩:=h
 rw[List.mem_map]
 refine⟨(k,.arr g e true cs), ?_,rfl⟩
 unfold cZ
 rw[List.mem_filterMap]
 exact⟨k,hk,by rw[hg]⟩
theorem oh (hw:WF G w)(hH:HR G w H){ks:List Nm}{k:Nm}{ob:aQ}(h:(k,ob)∈cZ H ks):(G.frozen w H ks).dom k∧OR (G.frozen w H ks) w k ob:=by
  obtain⟨hk,g,e,fz,cs,hg,rfl⟩:=IC h
  obtain⟨hd,he,cap,vs,ty,fr,ha,hh,ht,hs,hl,hv,hf⟩:=hH k _ hg
  refine⟨hd,he,cap,vs,ty,fr,ha,hh,ht,hs,hl,hv.mono (gY hw hH ks).le,fun o ho=> ?_⟩
  rcases ho with ho|ho
  · simp at ho
  · simp only[Gh.frozen,Ga]
    rw[if_neg]
    · exact hf o (.inr ho)
    · rintro ⟨k',hk',hd',g',e',fz',cs',h1,h2,h3⟩
      have:=hw.inj k' k hd' hd h2
      subst this
      rw[hg] at h1
      simp at h1
      obtain⟨_,_,_,rfl⟩:=h1
      omega
end
end Go.Abs
