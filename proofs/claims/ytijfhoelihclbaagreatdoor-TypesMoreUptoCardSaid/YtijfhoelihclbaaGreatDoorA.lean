/- The abstract interpreter: trees and abstract values, the heap of a call, the operations on them. Program-independent. -/
import Derived.WalkKit
namespace Go.Abs
open Go
inductive Nm where
 |arg (i:Nat)
 |loc (p:List Nat)
 deriving DecidableEq,Repr,Inhabited
inductive Tree where
 |bool (b:Bool)
 |int (k:IntKind) (n:Int)
 |str (s:List UInt8)
 |sl (es:List Tree)
 |agg (cs:List Tree)
 |bX (vs:List Tree)
 |cG
 |iJ
 |q7
 |fn (f:Fn)
 |yg
 |iface (t:TypeId) (v:Tree)
 deriving Inhabited
inductive TV where
 |t (x:Tree)
 |aL
 |l7 (es:List Tree)
 |ref (k:Nm) (off len:Nat)
 |agg (cs:List TV)
 |bX (vs:List TV)
 |ptr (k:Nm) (off:Nat)
 |kR (k:Nm) (n off:Nat)
 |kD (cs:List Tree) (off:Nat)
 |map (k:Nm)
 |fn (f:Fn) (first captured:List TV)
 |iface (t:TypeId) (v:TV)
 |any
 deriving Inhabited
inductive aV where
 |cells (ty:TypeId) (cs:List TV)
 |arr (g:TypeId×Bool) (b8:Nat) (fz:Bool) (cs:List TV)
 |map (es:List (TV×TV×Nat)) (clock:Nat)
 |dead
 deriving Inhabited
abbrev Heap:=List (Nm×aV)
def Heap.get (H:Heap)(k:Nm):Option aV:=
 match H with
 | []=>none
 |(k',o)::r=>if k'=k then some o else Heap.get r k
def Heap.put (H:Heap)(k:Nm)(o:aV):Heap:=
 match H with
 | []=>[(k,o)]
 |(k',o')::r=>if k'=k then(k,o)::r else(k',o')::Heap.put r k o
def Heap.ei (H:Heap)(u:List (Nm×aV)):Heap:=u.foldl (fun h p=>h.put p.1 p.2) H
def Tree.cells:Tree→List Tree
 |.agg cs=>cs
 |x=>[x]
def TV.cells:TV→List TV
 |.t (.agg cs)=>cs.map .t
 |.agg cs=>cs
 |v=>[v]
def Tree.leaf:Tree→Bool
 |.agg _=>false
 |.bX _=>false
 |_=>true
def TV.leaf:TV→Bool
 |.t x=>x.leaf
 |.any=>false
 |.agg _=>false
 |.bX _=>false
 |_=>true
def AH:TV→Bool
 |.t (.agg _)=>true
 |.agg _=>true
 |_=>false
def allT:List TV→Option (List Tree)
 | []=>some []
 |.t x::r=>match allT r with
  |some xs=>some (x::xs)
  |none=>none
 |_::_=>none
def uS (cs:List TV):TV:=
 match allT cs with
 |some ts=>.t (.agg ts)
 |none=>.agg cs
def q8 (cs:List TV):TV:=
 match allT cs with
 |some ts=>.t (.bX ts)
 |none=>.bX cs
def cz:TV:=.t (.bX [])
def flat (es:List Tree):List Tree:=es.flatMap Tree.cells
def xe:Value→Option TV
 |.bool b=>some (.t (.bool b))
 |.int k n=>some (.t (.int k n))
 |.string s=>some (.t (.str s.data.toList))
 |.slice none 0 0=>some .aL
 |.pointer none=>some (.t .cG)
 |.map none=>some (.t .iJ)
 |.nilFunc=>some (.t .q7)
 |.nilIface=>some (.t .yg)
 |.func f fs cs=>if fs.isEmpty&&cs.isEmpty then some (.t (.fn f)) else none
 |_=>none
def l8:List Value→Option (List TV)
 | []=>some []
 |v::r=>match xe v,l8 r with
  |some x,some xs=>some (x::xs)
  |_,_=>none
def valOf:Value→Option TV
 |.agg cs=>match l8 cs.toList with
  |some xs=>some (uS xs)
  |none=>none
 |.tuple cs=>match l8 cs.toList with
  |some xs=>some (q8 xs)
  |none=>none
 |v=>xe v
def CI:TV→Option Value
 |.t (.bool b)=>some (.bool b)
 |.t (.int k n)=>some (.int k n)
 |.t (.str s)=>some (.string ⟨s.toArray⟩)
 |.aL=>some (.slice none 0 0)
 |.t .cG=>some (.pointer none)
 |.t .iJ=>some (.map none)
 |.t .q7=>some .nilFunc
 |.t .yg=>some .nilIface
 |_=>none
def pE:List TV→Option (List Value)
 | []=>some []
 |v::r=>match CI v,pE r with
  |some x,some xs=>some (x::xs)
  |_,_=>none
def CJ:TV→Option Value
 |.t (.agg cs)=>match pE (cs.map .t) with
  |some vs=>some (.agg vs.toArray)
  |none=>none
 |.agg cs=>match pE cs with
  |some vs=>some (.agg vs.toArray)
  |none=>none
 |v=>CI v
def kV:TV→Option Value
 |.t (.iface t x)=>match CJ (.t x) with
  |some v=>some (.iface t v)
  |none=>none
 |.iface t x=>match CJ x with
  |some v=>some (.iface t v)
  |none=>none
 |v=>CJ v
def kE {α:Type}(P:Program):Sem α→Option α
 |.pure a=>some a
 |.program k=>kE P (k P)
 |_=>none
structure TI where
 size:Nat
 bytes:Nat
 agg:Bool
 zero:Option TV
 desc:TypeDesc
def RO (P:Program)(t:TypeId):Option TI:=
 match P.info? t,P.underlying t with
 |some i,some d=>some {size:=i.size,bytes:=i.bytes,agg:=(match d with|.struct _|.array _ _=>true|_=>false),zero:=i.zero.bind valOf,desc:=d}
 |_,_=>none
structure lI where
 prog:Program
 ty:TypeId→Option TI
 fn:FuncId→Option Func
 aey:∀t i,ty t=some i→RO prog t=some i
 RP:∀f g,fn f=some g→prog.funcs[f]?=some g
instance:Coe lI Program:=⟨lI.prog⟩
def bn (P:lI)(t:TypeId):Option TI:=P.ty t
def partT (agg:Bool)(size:Nat)(cs:List TV)(off:Nat):Option TV:=
 if agg then(if off+size≤cs.length then some (uS ((cs.drop off).take size)) else none) else cs[off]?
def s6 (H:Heap):TV→Option (List TV×Nat)
 |.ptr k off=>match H.get k with
  |some (.cells _ cs)=>some (cs,off)
  |_=>none
 |.kR k n off=>match H.get k with
  |some (.arr _ _ _ cs)=>if cs.length=n then some (cs,off) else none
  |_=>none
 |.kD cs off=>some (cs.map .t,off)
 |_=>none
def loadT (P:lI)(H:Heap)(t:TypeId)(a:TV):Option TV:=
 match bn P t,s6 H a with
 |some ti,some (cs,off)=>partT ti.agg ti.size cs off
 |_,_=>none
def ez (cs:List TV)(off:Nat)(vs:List TV):List TV:=cs.take off++vs++cs.drop (off+vs.length)
def storeT (P:lI)(H:Heap)(t:TypeId)(a x:TV):Option (List (Nm×aV)):=
 match bn P t with
 |none=>none
 | some ti=>
  if x.cells.length=ti.size∧x.cells.all TV.leaf=true then
   match a with
   |.ptr k off=>match H.get k with
    |some (.cells ty cs)=>if off+ti.size≤cs.length then some [(k,.cells ty (ez cs off x.cells))] else none
    |_=>none
   |.kR k n off=>match H.get k with
    |some (.arr g b8 false cs)=>if cs.length=n∧off+ti.size≤cs.length then some [(k,.arr g b8 false (ez cs off x.cells))] else none
    |_=>none
   |_=>none
  else none
def p8 (H:Heap)(a:TV)(n:Nat):Option TV:=
 match a with
 |.ptr k o=>some (.ptr k (o+n))
 |.kR k m o=>match H.get k with
  |some (.arr _ _ _ cs)=>if cs.length=m then some (.kR k m (o+n)) else none
  |_=>none
 |.kD cs o=>some (.kD cs (o+n))
 |_=>none
def pz (place:Nat→Option (Nat×Nat))(cells:List TV):List (Nat×TV)→Option (List TV)
 | []=>some cells
 |(i,v)::rest=>
  match place i with
  |none=>none
  |some (off,size)=>if v.cells.length=size∧off+size≤cells.length∧v.cells.all TV.leaf=true then pz place (ez cells off v.cells) rest else none
def jo (P:lI)(fs:List Field):Option (List (Nat×Nat)):=
 match fs with
 | []=>some []
 |f::r=>match bn P f.type,jo P r with
  |some ti,some ps=>some ((f.offset,ti.size)::ps)
  |_,_=>none
def GK (P:lI)(t:TypeId)(parts:List (Nat×TV)):Option TV:=
 match bn P t with
 |none=>none
 | some ti=>
  match ti.zero,ti.desc with
  | some z,.struct fs=>match jo P fs.toList with
   |some ps=>match pz (fun i=>ps[i]?) z.cells parts with
    |some cs=>some (uS cs)
    |none=>none
   |none=>none
  | some z,.array _ elem=>match bn P elem with
   |some te=>match pz (fun i=>some (i*te.size,te.size)) z.cells parts with
    |some cs=>some (uS cs)
    |none=>none
   |none=>none
  |_,_=>none
def chunk (agg:Bool)(size:Nat):Nat→List Tree→Option (List Tree)
 |0,cs=>if cs.isEmpty then some [] else none
 | n+1,cs=>
  if size≤cs.length then
   match chunk agg size n (cs.drop size) with
   |some r=>if agg then some (.agg (cs.take size)::r) else match cs with
    |c::_=>if size=1∧c.leaf=true then some (c::r) else none
    | []=>none
   |none=>none
  else none
def r8 (n:Nat)(z:List TV):List TV:=match n with
 |0=>[]
 |n+1=>z++r8 n z
def fU:TV→Option Nat
 |.t (.int _ n)=>if 0≤n then some n.toNat else none
 |_=>none
end Go.Abs

namespace Go.Abs
open Go
abbrev uT:=Nat→Nat→Option Value
inductive VT (F:uT):Tree→Value→Prop
 |bool (b):VT F (.bool b) (.bool b)
 |int (k n):VT F (.int k n) (.int k n)
 |str (s):VT F (.str s) (.string ⟨s.toArray⟩)
 |xg (a cap):VT F (.sl []) (.slice a 0 cap)
 | sl (b8 es b o cap) (vals:Nat→Value) (hne:es≠ []) (hc:es.length≤cap)
   (hu:∀e∈es,e.cells.length=b8) (hF:∀j c,(flat es)[j]?=some c→F b (o+j)=some (vals j))
   (hv:∀j c,(flat es)[j]?=some c→VT F c (vals j)):VT F (.sl es) (.slice (some ⟨b,o,none⟩) es.length cap)
 |agg (cs) (vs:List Value) (hl:vs.length=cs.length) (h:∀(j:Nat) c v,cs[j]?=some c→vs[j]?=some v→VT F c v):VT F (.agg cs) (.agg vs.toArray)
 |bX (cs) (vs:List Value) (hl:vs.length=cs.length) (h:∀(j:Nat) c v,cs[j]?=some c→vs[j]?=some v→VT F c v):VT F (.bX cs) (.tuple vs.toArray)
 |cG:VT F .cG (.pointer none)
 |iJ:VT F .iJ (.map none)
 |q7:VT F .q7 .nilFunc
 |fn (f):VT F (.fn f) (.func f #[] #[])
 |yg:VT F .yg .nilIface
 |iface (t x v) (h:VT F x v):VT F (.iface t x) (.iface t v)
theorem VT.mono {F F':uT}(hF:∀b o v,F b o=some v→F' b o=some v){x:Tree}{v:Value}(h:VT F x v):VT F' x v:=by
 induction h with
 |bool=>exact .bool _
 |int=>exact .int _ _
 |str=>exact .str _
 |xg a c=>exact .xg a c
 |sl e es b o cap vals hne hc hu hf hv ih=>exact .sl e es b o cap vals hne hc hu (fun j c h=>hF _ _ _ (hf j c h)) ih
 |agg cs vs hl h ih=>exact .agg cs vs hl ih
 |bX cs vs hl h ih=>exact .bX cs vs hl ih
 |cG=>exact .cG
 |iJ=>exact .iJ
 |q7=>exact .q7
 |fn=>exact .fn _
 |yg=>exact .yg
 |iface t x v h ih=>exact .iface t x v ih
structure Gh where
 F:uT
 mu:Nm→Nat
 arr:Nm→Option (Nat×Nat×Nat)
 dom:Nm→Prop
def one:Value→Bool
 |.agg _=>false
 |.tuple _=>false
 |_=>true
inductive VR (G:Gh):TV→Value→Prop
 |t (x v) (h:VT G.F x v):VR G (.t x) v
 |aL:VR G .aL (.slice none 0 0)
 |l7 (es a) (h:VT G.F (.sl es) (.slice a es.length es.length)):VR G (.l7 es) (.slice a es.length es.length)
 | ref (k off len n b8 cap v) (hd:G.dom k) (ha:G.arr k=some (n,b8,cap)) (hle:(off+len) *b8≤n) (ho:∃a c,v=.slice a len c)
   (hv:(off+len) *b8=n→∃a,v=.slice a len (cap - off)∧(off<cap→a=some ⟨G.mu k,off*b8,none⟩)):VR G (.ref k off len) v
 |agg (cs) (vs:List Value) (hl:vs.length=cs.length) (h:∀(j:Nat) c v,cs[j]?=some c→vs[j]?=some v→VR G c v):VR G (.agg cs) (.agg vs.toArray)
 |bX (cs) (vs:List Value) (hl:vs.length=cs.length) (h:∀(j:Nat) c v,cs[j]?=some c→vs[j]?=some v→VR G c v):VR G (.bX cs) (.tuple vs.toArray)
 |ptr (k off) (hd:G.dom k) (hn:G.arr k=none):VR G (.ptr k off) (.pointer (some ⟨G.mu k,off,none⟩))
 |kR (k n off n' b8 cap v) (hd:G.dom k) (ha:G.arr k=some (n',b8,cap)) (hle:n≤n') (ho:∃ad,v=.pointer (some ad)) (hv:n=n'→v=.pointer (some ⟨G.mu k,off,none⟩)):VR G (.kR k n off) v
 | kD (cs off b o) (vals:Nat→Value) (hF:∀j c,cs[j]?=some c→G.F b (o+j)=some (vals j)) (hv:∀j c,cs[j]?=some c→VT G.F c (vals j)):
   VR G (.kD cs off) (.pointer (some ⟨b,o+off,none⟩))
 |map (k) (hd:G.dom k) (hn:G.arr k=none):VR G (.map k) (.map (some (G.mu k)))
 | fn (f fs cs) (vs ws:List Value) (hl:vs.length=fs.length) (h:∀(j:Nat) c v,fs[j]?=some c→vs[j]?=some v→VR G c v)
   (hl':ws.length=cs.length) (h':∀(j:Nat) c v,cs[j]?=some c→ws[j]?=some v→VR G c v):VR G (.fn f fs cs) (.func f vs.toArray ws.toArray)
 |iface (t x v) (h:VR G x v):VR G (.iface t x) (.iface t v)
 |any (v):VR G .any v
structure Gh.le (G G':Gh):Prop where
 F:∀b o v,G.F b o=some v→G'.F b o=some v
 dom:∀k,G.dom k→G'.dom k
 plain:∀k,G.dom k→G.arr k=none→G'.arr k=none∧G'.mu k=G.mu k
 arr:∀k n e c,G.dom k→G.arr k=some (n,e,c)→∃n' c',G'.arr k=some (n',e,c')∧n≤n'∧(n=n'→c'=c∧G'.mu k=G.mu k)
theorem Gh.le.refl (G:Gh):G.le G:=⟨fun _ _ _ h=>h,fun _ h=>h,fun _ _ h=>⟨h,rfl⟩,fun _ n _ c _ h=>⟨n,c,h,Nat.le_refl _,fun _=>⟨rfl,rfl⟩⟩⟩
theorem Gh.le.trans {A B C:Gh}(h:A.le B)(k:B.le C):A.le C:=by
  refine⟨fun b o v x=>k.F _ _ _ (h.F _ _ _ x),fun x d=>k.dom _ (h.dom _ d),fun x d a=> ?_,fun x n e c d a=> ?_⟩
  · obtain⟨a1,m1⟩:=h.plain x d a
    obtain⟨a2,m2⟩:=k.plain x (h.dom _ d) a1
    exact⟨a2,m2.trans m1⟩
  · obtain⟨n1,c1,a1,l1,e1⟩:=h.arr x n e c d a
    obtain⟨n2,c2,a2,l2,e2⟩:=k.arr x n1 e c1 (h.dom _ d) a1
    refine⟨n2,c2,a2,Nat.le_trans l1 l2,fun e=> ?_⟩
    obtain⟨p1,q1⟩:=e1 (by omega)
    obtain⟨p2,q2⟩:=e2 (by omega)
    exact⟨p2.trans p1,q2.trans q1⟩
theorem VR.mono {G G':Gh}(hG:G.le G'){x:TV}{v:Value}(h:VR G x v):VR G' x v:=by
 induction h with
 |t x v h=>exact .t x v (h.mono hG.F)
 |aL=>exact .aL
 |l7 es a h=>exact .l7 es a (h.mono hG.F)
 |ref k off len n b8 cap v hd ha hle ho hv=>
  obtain⟨n',c',a',l',e'⟩:=hG.arr k n b8 cap hd ha
  refine .ref k off len n' b8 c' v (hG.dom _ hd) a' (Nat.le_trans hle l') ho fun hh=> ?_
  obtain⟨p,q⟩:=e' (by omega)
  obtain⟨a,hva,hb⟩:=hv (by omega)
  rw[p,q]
  exact⟨a,hva,hb⟩
 |agg cs vs hl h ih=>exact .agg cs vs hl ih
 |bX cs vs hl h ih=>exact .bX cs vs hl ih
 |ptr k off hd hn=>
  obtain⟨a,m⟩:=hG.plain k hd hn
  rw[← m]
  exact .ptr k off (hG.dom _ hd) a
 |kR k n off n' b8 cap v hd ha hle ho hv=>
  obtain⟨n2,c',a',l',e'⟩:=hG.arr k n' b8 cap hd ha
  refine .kR k n off n2 b8 c' v (hG.dom _ hd) a' (Nat.le_trans hle l') ho fun hh=> ?_
  obtain⟨p,q⟩:=e' (by omega)
  rw[hv (by omega),q]
 |kD cs off b o vals hF hv=>exact .kD cs off b o vals (fun j c h=>hG.F _ _ _ (hF j c h)) (fun j c h=>(hv j c h).mono hG.F)
 |map k hd hn=>
  obtain⟨a,m⟩:=hG.plain k hd hn
  rw[← m]
  exact .map k (hG.dom _ hd) a
 |fn f fs cs vs ws hl h hl' h' ih Jb=>exact .fn f fs cs vs ws hl ih hl' Jb
 |iface t x v h ih=>exact .iface t x v ih
 |any v=>exact .any v
def cZ (G:Gh)(cs:List TV)(vs:List Value):Prop:=vs.length=cs.length∧∀(j:Nat) c v,cs[j]?=some c→vs[j]?=some v→VR G c v
theorem cZ.mono {G G':Gh}(hG:G.le G'){cs:List TV}{vs:List Value}(h:cZ G cs vs):cZ G' cs vs:=⟨h.1,fun j c v a b=>(h.2 j c v a b).mono hG⟩
theorem cZ.nil (G:Gh):cZ G [] []:=⟨rfl,by simp⟩
theorem cZ.cons {G:Gh}{c:TV}{v:Value}{cs:List TV}{vs:List Value}(h:VR G c v)(hs:cZ G cs vs):cZ G (c::cs) (v::vs):=by
 refine⟨by simp[hs.1],fun j d u hd hu=> ?_⟩
 cases j with
 |zero=>simp at hd hu;subst hd;subst hu;exact h
 |succ j=>simp at hd hu;exact hs.2 j d u hd hu
theorem cZ.jt {G:Gh}{c:TV}{cs:List TV}{vs:List Value}(h:cZ G (c::cs) vs):∃v vs',vs=v::vs'∧VR G c v∧cZ G cs vs':=by
 obtain⟨hl,hp⟩:=h
 cases vs with
 |nil=>simp at hl
 |cons v vs'=>
  refine⟨v,vs',rfl,hp 0 c v rfl rfl,by simpa using hl,fun j d u hd hu=>hp (j+1) d u (by simpa using hd) (by simpa using hu)⟩
theorem cZ.at {G:Gh}{cs:List TV}{vs:List Value}(h:cZ G cs vs){j:Nat}{c:TV}(hc:cs[j]?=some c):∃v,vs[j]?=some v∧VR G c v:=by
 have hj:j<cs.length:=(List.getElem?_eq_some_iff.1 hc).1
 have hj':j<vs.length:=by rw[h.1];exact hj
 exact⟨vs[j],List.getElem?_eq_getElem hj',h.2 j c _ hc (List.getElem?_eq_getElem hj')⟩
theorem cZ.append {G:Gh}{cs ds:List TV}{vs ws:List Value}(h:cZ G cs vs)(k:cZ G ds ws):cZ G (cs++ds) (vs++ws):=by
  refine⟨by simp[h.1,k.1],fun j c v hc hv=> ?_⟩
  by_cases hj:j<cs.length
  · rw[List.getElem?_append_left hj] at hc
    rw[List.getElem?_append_left (by rw[h.1];exact hj)] at hv
    exact h.2 j c v hc hv
  · rw[List.getElem?_append_right (by omega)] at hc
    rw[List.getElem?_append_right (by rw[h.1];omega),h.1] at hv
    exact k.2 _ c v hc hv
theorem cZ.drop {G:Gh}{cs:List TV}{vs:List Value}(h:cZ G cs vs)(n:Nat):cZ G (cs.drop n) (vs.drop n):=
 ⟨by simp[h.1],fun j c v hc hv=>by rw[List.getElem?_drop] at hc hv;exact h.2 _ c v hc hv⟩
theorem cZ.take {G:Gh}{cs:List TV}{vs:List Value}(h:cZ G cs vs)(n:Nat):cZ G (cs.take n) (vs.take n):=
 ⟨by simp[h.1],fun j c v hc hv=>by
  rw[List.getElem?_take] at hc hv
  split at hc
  · rename_i hlt;rw[if_pos hlt] at hv;exact h.2 _ c v hc hv
  · simp at hc⟩
end Go.Abs

noncomputable section
namespace Go.Abs
open Go
def yh (g:TV→Option (Tree×List Nm)):List TV→Option (List Tree×List Nm)
 | []=>some ([],[])
 |v::r=>match g v,yh g r with
  |some (x,ks),some (xs,ks')=>some (x::xs,ks++ks')
  |_,_=>none
def pV (H:Heap):Nat→TV→Option (Tree×List Nm)
 |_,.t x=>some (x,[])
 |_,.aL=>some (.sl [],[])
 |_,.l7 es=>some (.sl es,[])
 |0,_=>none
 | n +1,.ref k off len=>match H.get k with
  | some (.arr g b8 _ cs)=>
   if 0<b8∧(off+len) *b8=cs.length then
    match yh (pV H n) ((cs.drop (off*b8)).take (len*b8)) with
    |some (ts,ks)=>match chunk g.2 b8 len ts with
     |some es=>some (.sl es,k::ks)
     |none=>none
    |none=>none
   else none
  |_=>none
 |n+1,.agg cs=>match yh (pV H n) cs with
  |some (ts,ks)=>some (.agg ts,ks)
  |none=>none
 |n+1,.bX cs=>match yh (pV H n) cs with
  |some (ts,ks)=>some (.bX ts,ks)
  |none=>none
 |n+1,.iface t v=>match pV H n v with
  |some (x,ks)=>some (.iface t x,ks)
  |none=>none
 |_+1,.fn f [] []=>some (.fn f,[])
 |_+1,_=>none
def jv:Nat:=24
def Heap.freeze (H:Heap):List Nm→Heap
 | []=>H
 |k::ks=>match H.get k with
  |some (.arr g b8 _ cs)=>Heap.freeze (H.put k (.arr g b8 true cs)) ks
  |_=>Heap.freeze H ks
def jw:List UInt8→List UInt8→Bool
 |_,[]=>false
 | [],_::_=>true
 |a::x,b::y=>a<b||(a==b&&jw x y)
def RQ:Nat:=4611686018427387904
def Xz (op:BinOp)(x y:List UInt8):Option TV:=
 match op with
 |.add=>if x.length+y.length≤RQ then some (.t (.str (x++y))) else none
 |.eql=>some (.t (.bool (x==y)))
 |.neq=>some (.t (.bool (!(x==y))))
 |.lss=>some (.t (.bool (jw x y)))
 |.leq=>some (.t (.bool (jw x y||x==y)))
 |.gtr=>some (.t (.bool (!(jw x y||x==y))))
 |.geq=>some (.t (.bool (!(jw x y))))
 |_=>none
def Fm (d:TypeDesc)(a b:TV):Option Bool:=
 match d,a,b with
 |.slice _,.aL,.aL=>some true
 |.slice _,.t (.sl (_::_)),.aL=>some false
 |.slice _,.l7 (_::_),.aL=>some false
 |.slice _,.ref _ _ _,.aL=>none
 |.map _ _,.t .iJ,.t .iJ=>some true
 |.map _ _,.map _,.t .iJ=>some false
 |.func _ _ _,.t .q7,.t .q7=>some true
 |.func _ _ _,.fn _ _ _,.t .q7=>some false
 |.func _ _ _,.t (.fn _),.t .q7=>some false
 |.pointer _,.t .cG,.t .cG=>some true
 |.pointer _,.ptr _ _,.t .cG=>some false
 |.pointer _,.kD _ _,.t .cG=>some false
 |_,_,_=>none
def yj (P:lI)(op:BinOp)(t:TypeId)(x y:Operand)(a b:TV):Option TV:=
 match kV a,kV b with
 |some u,some v=>match kE P (do eqGuard op t x y u v;binOp op t u v) with
  |some r=>valOf r
  |none=>none
 |_,_=>none
def isNil:TV→Bool
 |.aL=>true
 |.t .iJ=>true
 |.t .q7=>true
 |.t .cG=>true
 |_=>false
def PV (op:BinOp)(k:IntKind)(a b:Int):Option TV:=
 match op with
 |.add=>some (.t (.int k (k.wrap (a+b))))
 |.sub=>some (.t (.int k (k.wrap (a - b))))
 |.mul=>some (.t (.int k (k.wrap (a*b))))
 |.quo=>if b=0 then none else some (.t (.int k (k.wrap (a.tdiv b))))
 |.rem=>if b=0 then none else some (.t (.int k (a.tmod b)))
 |.eql=>some (.t (.bool (a==b)))
 |.neq=>some (.t (.bool (a != b)))
 |.lss=>some (.t (.bool (decide (a<b))))
 |.leq=>some (.t (.bool (decide (a≤b))))
 |.gtr=>some (.t (.bool (decide (a>b))))
 |.geq=>some (.t (.bool (decide (a≥b))))
 |_=>none
def GL (P:lI)(op:BinOp)(t:TypeId)(x y:Operand)(a b:TV):Option TV:=
 match a,b with
 |.t (.str s),.t (.str u)=>Xz op s u
 |.t (.int k n),.t (.int k' m)=>if k=k' then(match PV op k n m with|some v=>some v|none=>yj P op t x y (.t (.int k n)) (.t (.int k' m))) else yj P op t x y (.t (.int k n)) (.t (.int k' m))
 | a,b=>
  if isNil b then
   match op,bn P t with
   |.eql,some ti=>(Fm ti.desc a b).map fun r=>.t (.bool r)
   |.neq,some ti=>(Fm ti.desc a b).map fun r=>.t (.bool (!r))
   |_,_=>none
  else yj P op t x y a b
def unT (P:lI)(op:UnOp)(a:TV):Option TV:=
 match kV a with
 |some u=>match kE P (Op.unary op u) with
  |some r=>valOf r
  |none=>none
 |none=>none
def yl (H:Heap):TV→Option Nat
 |.t (.str s)=>some s.length
 |.t (.sl es)=>some es.length
 |.aL=>some 0
 |.l7 es=>some es.length
 |.ref _ _ len=>some len
 |.t .iJ=>some 0
 |.map k=>match H.get k with
  |some (.map es _)=>some es.length
  |_=>none
 |_=>none
def nZ (H:Heap)(k:Nm)(off len:Nat):Option ((TypeId×Bool)×Nat×Bool×List TV):=
 match H.get k with
 |some (.arr g b8 fz cs)=>if 0<b8∧(off+len) *b8=cs.length then some (g,b8,fz,cs) else none
 |_=>none
def fE (P:lI)(H:Heap)(t:TypeId)(x i:TV):Option TV:=
 match bn P t,fU i with
 | some ti,some i=>
  match ti.desc,x with
  |.slice elem,.t (.sl es)=>match bn P elem,es[i]? with
   |some te,some e=>if e.cells.length=te.size then some (.kD e.cells 0) else none
   |_,_=>none
  |.slice elem,.l7 es=>match bn P elem,es[i]? with
   |some te,some e=>if e.cells.length=te.size then some (.kD e.cells 0) else none
   |_,_=>none
  |.slice elem,.ref k off len=>match bn P elem,nZ H k off len with
   |some te,some (_,b8,_,cs)=>if te.size=b8∧i<len then some (.kR k cs.length ((off+i) *b8)) else none
   |_,_=>none
  |.array len elem,x=>match bn P elem with
   |some te=>if i<len then p8 H x (i*te.size) else none
   |none=>none
  |_,_=>none
 |_,_=>none
def p9 (P:lI)(t:TypeId)(x i:TV):Option TV:=
 match bn P t,fU i with
 | some ti,some i=>
  match ti.desc,x with
  |.string,.t (.str s)=>match s[i]? with
   |some b=>some (.t (.int .u8 b.toNat))
   |none=>none
  |.array len elem,x=>match bn P elem with
   |some te=>if i<len∧te.size≠0∧AH x=true then partT te.agg te.size x.cells (i*te.size) else none
   |none=>none
  |_,_=>none
 |_,_=>none
def fF (o:Option TV)(d:Nat):Option Nat:=
 match o with
 |none=>some d
 |some v=>fU v
def jx (size:Nat):List Tree→Bool
 | []=>true
 |e::_=>e.cells.length==size
def PW (tight:Bool)(es:List Tree)(l h:Nat):TV:=if tight then .l7 ((es.take h).drop l) else .t (.sl ((es.take h).drop l))
def CK (P:lI)(H:Heap)(t:TypeId)(x:TV)(lo hi mx:Option TV):Option (TV×List Nm):=
 match bn P t with
 |none=>none
 | some ti=>
  match ti.desc with
  | .string=>match x with
   |.t (.str s)=>match fF lo 0,fF hi s.length,mx with
    |some l,some h,none=>if l≤h∧h≤s.length then some (.t (.str ((s.take h).drop l)),[]) else none
    |_,_,_=>none
   |_=>none
  | .slice elem=>match bn P elem,yl H x with
   | some te,some n=>
    match fF lo 0,fF hi n,fF mx n,(mx.isNone||hi.isSome) with
    | some l,some h,some m,true=>
     if l≤h∧h≤m∧m≤n then
      match x with
      |.aL=>some (.aL,[])
      |.t (.sl es)=>if jx te.size es=true then some (PW (mx.isSome&&m==h) es l h,[]) else none
      |.l7 es=>if jx te.size es=true then some (PW ((mx.isSome&&m==h)||(mx.isNone&&h==n)) es l h,[]) else none
      | .ref k off len=>
       if h=len∧mx.isNone=true then(match nZ H k off len with
        |some (_,b8,_,_)=>if b8=te.size then some (.ref k (off+l) (h - l),[]) else none
        |none=>none)
       else match pV H jv (.ref k off len) with
        |some (.sl es,ks)=>if jx te.size es=true then some (PW (mx.isSome&&m==h) es l h,ks) else none
        |_=>none
      |_=>none
     else none
    |_,_,_,_=>none
   |_,_=>none
  |_=>none
def fG (H:Heap)(g:Bool)(b8:Nat):TV→Option (Nat×List TV)
 |.aL=>some (0,[])
 |.t (.sl es)=>if jx b8 es=true then some (es.length,(flat es).map .t) else none
 |.l7 es=>if jx b8 es=true then some (es.length,(flat es).map .t) else none
 |.ref k off len=>match nZ H k off len with
  |some (_,e,_,cs)=>if e=b8 then some (len,cs.drop (off*b8)) else none
  |none=>none
 |.t (.str s)=>if b8=1∧g=false then some (s.length,s.map fun b=>.t (.int .u8 b.toNat)) else none
 |_=>none
def dQ:Nat:=70368744177664
def jS (P:lI)(nm:Nm)(H:Heap)(st xt:TypeId)(s x:TV):Option (TV×List (Nm×aV)):=
 match bn P st,bn P xt with
 | some ti,some tx=>
  match ti.desc,(match tx.desc with|.slice _=>true|.string=>true|_=>false) with
  | .slice elem,true=>match bn P elem with
   | some te=>match te.zero with
    |none=>none
    | some z=>
     if te.size=0∨z.cells.length≠te.size∨te.bytes=0 then none else
     match fG H te.agg te.size x with
     | some (m,cs)=>
      if m=0 then(match s with
       |.aL=>some (.aL,[])
       |.t (.sl es)=>some (.t (.sl es),[])
       |.l7 es=>some (.l7 es,[])
       |.ref k off len=>if(nZ H k off len).isSome=true then some (.ref k off len,[]) else none
       |_=>none)
      else if cs.all TV.leaf=true then
       match s with
       |.aL=>if m*te.bytes≤dQ then some (.ref nm 0 m,[(nm,.arr (elem,te.agg) te.size false cs)]) else none
       |.l7 es=>match fG H te.agg te.size (.l7 es) with
        |some (n,old)=>if(n+m) *te.bytes≤dQ then some (.ref nm 0 (n+m),[(nm,.arr (elem,te.agg) te.size false (old++cs))]) else none
        |none=>none
       |.ref k 0 len=>match nZ H k 0 len with
        |some (g,e,fz,old)=>if e=te.size∧g.1=elem∧(len+m) *te.bytes≤dQ then some (.ref k 0 (len+m),[(k,.arr g e fz (old++cs))]) else none
        |none=>none
       |_=>none
      else none
     |none=>none
   |none=>none
  |_,_=>none
 |_,_=>none
def RR (P:lI)(H:Heap)(dt:TypeId)(d x:TV):Option (TV×List (Nm×aV)):=
 match bn P dt with
 | some ti=>match ti.desc with
  | .slice elem=>match bn P elem with
   | some te=>match d,fG H te.agg te.size x with
    |.aL,some _=>some (.t (.int .i64 0),[])
    |.ref k off len,some (m,cs)=>match nZ H k off len with
     |some (g,e,false,old)=>if e=te.size∧cs.all TV.leaf=true then some (.t (.int .i64 ((min m len:Nat):Int)),[(k,.arr g e false (ez old (off*e) (cs.take ((min m len) *e))))]) else none
     |_=>none
    |_,_=>none
   |none=>none
  |_=>none
 |none=>none
def xo (P:lI)(nm:Nm)(t:TypeId)(len cap:TV):Option (TV×List (Nm×aV)):=
 match bn P t,fU len,fU cap with
 | some ti,some l,some c=>match ti.desc with
  | .slice elem=>match bn P elem with
   |some te=>match te.zero with
    |some z=>if l≤c∧c*te.bytes≤dQ∧c≤dQ∧0<te.size∧z.cells.length=te.size∧z.cells.all TV.leaf=true then some (.ref nm 0 l,[(nm,.arr (elem,te.agg) te.size false (r8 l z.cells))]) else none
    |none=>none
   |none=>none
  |_=>none
 |_,_,_=>none
def oc (P:lI)(qb:Bool)(nm:Nm)(t:TypeId)(len:Nat)(parts:List (Nat×TV)):Option (TV×List (Nm×aV)):=
 match bn P t with
 | some ti=>match ti.desc with
  | .slice elem=>match bn P elem with
   | some te=>match te.zero with
    | some z=>
     if 0<te.size∧len*te.size≤16777216∧z.cells.length=te.size∧z.cells.all TV.leaf=true then
      match pz (fun i=>some (i*te.size,te.size)) (r8 len z.cells) parts with
      |some cs=>match qb,(allT cs).bind (chunk te.agg te.size len) with
       |false,some es=>some (.l7 es,[])
       |_,_=>some (.ref nm 0 len,[(nm,.arr (elem,te.agg) te.size false cs)])
      |none=>none
     else none
    |none=>none
   |none=>none
  |_=>none
 |none=>none
def Jc (P:lI)(kt:TypeId)(d:TypeDesc)(k k':TV):Option Bool:=
 match kV k,kV k' with
 | some u,some u'=>
  match d with
  |.struct _=>match u,u' with
   |.agg _,.agg _=>kE P (Op.equal kt u u')
   |_,_=>none
  |d=>Instr.sameNow d u u'
 |_,_=>none
def kW (P:lI)(kt:TypeId)(d:TypeDesc)(k:TV):List (TV×TV×Nat)→Nat→Option (Option (Nat×TV×Nat))
 | [],_=>some none
 | (k',v,b)::r,i=>match Jc P kt d k k' with
  |some true=>match kV k,kV k' with
   |some u,some u'=>if Instr.sameBits 10000 u' u=true then some (some (i,v,b)) else none
   |_,_=>none
  |some false=>kW P kt d k r (i+1)
  |none=>none
def uw (P:lI)(empty:Bool)(kt:TypeId)(k:TV):Bool:=
 match kV k with
 |some u=>(kE P (Instr.checkKey empty 10000 kt u)).isSome
 |none=>false
def mapOf (H:Heap):TV→Option (List (TV×TV×Nat)×Nat)
 |.map k=>match H.get k with
  |some (.map es c)=>some (es,c)
  |_=>none
 |_=>none
def pF (P:lI)(H:Heap)(t:TypeId)(x k:TV)(ok:Bool):Option TV:=
 match bn P t with
 | some ti=>match ti.desc with
  | .map kt et=>match bn P kt,bn P et,(match x with|.t .iJ=>some ([],0)|x=>mapOf H x) with
   | some tk,some te,some (es,_)=>
    if uw P es.isEmpty kt k=true then
     match kW P kt tk.desc k es 0,te.zero with
     |some (some (_,v,_)),_=>some (if ok then q8 [v,.t (.bool true)] else v)
     |some none,some z=>some (if ok then q8 [z,.t (.bool false)] else z)
     |_,_=>none
    else none
   |_,_,_=>none
  |_=>none
 |none=>none
def jy (P:lI)(H:Heap)(t:TypeId)(x k v:TV):Option (List (Nm×aV)):=
 match bn P t,x with
 | some ti,.map m=>match ti.desc,H.get m with
  | .map kt _,some (.map es c)=>match bn P kt with
   | some tk=>
    if uw P false kt k=true then
     match kW P kt tk.desc k es 0 with
     |some (some (i,_,b))=>some [(m,.map (es.set i (k,v,b)) c)]
     |some none=>some [(m,.map (es++[(k,v,c)]) (c+1))]
     |none=>none
    else none
   |none=>none
  |_,_=>none
 |_,_=>none
def AJ (P:lI)(H:Heap)(t:TypeId)(x k:TV):Option (TV×List (Nm×aV)):=
 match bn P t,x with
 | some ti,.map m=>match ti.desc,H.get m with
  | .map kt et,some (.map es c)=>match bn P kt,bn P et with
   | some tk,some te=>
    if uw P false kt k=true then
     match kW P kt tk.desc k es 0,te.zero with
     |some (some (i,v,b)),_=>some (q8 [v,.t (.int .i64 b)],[(m,.map (es.set i (k,v,b)) c)])
     |some none,some z=>some (q8 [z,.t (.int .i64 c)],[(m,.map (es++[(k,z,c)]) (c+1))])
     |_,_=>none
    else none
   |_,_=>none
  |_,_=>none
 |_,_=>none
def ym:List (TV×TV×Nat)→Int→Nat→Option Nat
 | [],_,_=>none
 |(_,_,b)::r,n,i=>if(b:Int)=n then some i else ym r n (i+1)
def uU (H:Heap)(x s v:TV):Option (List (Nm×aV)):=
 match x,s with
 | .map m,.t (.int _ n)=>match H.get m with
  | some (.map es c)=>match ym es n 0 with
   |some i=>match es[i]? with
    |some (k,_,b)=>some [(m,.map (es.set i (k,v,b)) c)]
    |none=>none
   |none=>none
  |_=>none
 |_,_=>none
def bytesOf:List TV→Option (List UInt8)
 | []=>some []
 |.t (.int .u8 n)::r=>match bytesOf r with
  |some bs=>some (UInt8.ofNat n.toNat::bs)
  |none=>none
 |_::_=>none
def r9 (P:lI)(qb:Bool)(nm:Nm)(H:Heap)(src dst:TypeId)(x:TV):Option (TV×List (Nm×aV)):=
 match bn P src,bn P dst with
 | some ts,some td=>
  match ts.desc,td.desc,x with
  |.string,.string,.t (.str s)=>some (.t (.str s),[])
  | .string,.slice e,.t (.str s)=>match bn P e with
   |some te=>match te.desc with
    |.int .u8=>if qb then some (.ref nm 0 s.length,[(nm,.arr (e,false) 1 false (s.map fun b=>.t (.int .u8 b.toNat)))]) else some (.t (.sl (s.map fun b=>.int .u8 b.toNat)),[])
    |_=>none
   |none=>none
  | .slice e,.string,x=>match bn P e with
   | some te=>match te.desc,fG H false 1 x with
    |.int .u8,some (_,cs)=>match bytesOf cs with
     |some bs=>(match x with|.t (.str _)=>none|_=>some (.t (.str bs),[]))
     |none=>none
    |_,_=>none
   |none=>none
  |.int _,.int _,.t (.int k n)=>match kE P (convert src dst (.int k n)) with
   |some r=>(valOf r).map fun v=>(v,[])
   |none=>none
  |_,_,_=>none
 |_,_=>none
def GM (P:lI)(x:TV)(asserted:TypeId)(ok:Bool):Option TV:=
 match bn P asserted with
 | some ta=>match ta.desc,(match x with|.iface t v=>some (t,v)|.t (.iface t v)=>some (t,.t v)|_=>none) with
  |.interface _,_=>none
  |_,some (t,v)=>
   if t=asserted then some (if ok then q8 [v,.t (.bool true)] else v)
   else if ok then ta.zero.map fun z=>q8 [z,.t (.bool false)] else none
  |_,none=>none
 |none=>none
def yo:TV→Nat→Option TV
 |.bX vs,i=>vs[i]?
 |.t (.bX vs),i=>vs[i]?.map .t
 |_,_=>none
def XA (f:Fn)(first captured:List TV):TV:=if first.isEmpty∧captured.isEmpty then .t (.fn f) else .fn f first captured
def Fo:TV→Bool
 |.ptr _ _=>true
 |.kR _ _ _=>true
 |.kD _ _=>true
 |.t (.fn (.func _))=>true
 |.fn (.func _) _ _=>true
 |_=>false
def dF (H:Heap)(ks:List Nm):List (Nm×aV):=ks.filterMap fun k=>match H.get k with
 |some (.arr g e _ cs)=>some (k,.arr g e true cs)
 |_=>none
structure dI where
 P:lI
 jA:Nat→Option (List Tree)
 qb:FuncId→Tmp→Bool
def XB (l:List TV):Nat→TV:=
 List.rec (motive:=fun _=>Nat→TV) (fun _=>cz) (fun x _ ih n=>Nat.rec (motive:=fun _=>TV) x (fun m _=>ih m) n) l
theorem GN:∀(l:List TV) (t:Nat),XB l t=l.getD t cz:=by
 intro l
 induction l with
 |nil=>intro t;rfl
 |cons x r ih=>
  intro t
  cases t with
  |zero=>rfl
  |succ t=>exact(ih t).trans (by simp)
def dB (C:dI)(slots:List TV):Operand→Option TV
 |.tmp t=>some (XB slots t)
 |.const v=>valOf v
 |.global g=>match C.jA g with
  |some cs=>some (.kD cs 0)
  |none=>none
 |.func f=>some (.t (.fn (.func f)))
def j4 (C:dI)(slots:List TV):List Operand→Option (List TV)
 | []=>some []
 |x::r=>match dB C slots x,j4 C slots r with
  |some v,some vs=>some (v::vs)
  |_,_=>none
def lq (C:dI)(slots:List TV):List (Nat×Operand)→Option (List (Nat×TV))
 | []=>some []
 |(i,x)::r=>match dB C slots x,lq C slots r with
  |some v,some vs=>some ((i,v)::vs)
  |_,_=>none
def s7 (C:dI)(slots:List TV):Option Operand→Option (Option TV)
 |none=>some none
 |some x=>(dB C slots x).map some
def xq (v:Option TV):Option (TV×List (Nm×aV)):=v.map fun x=>(x,[])
def yp (u:Option (List (Nm×aV))):Option (TV×List (Nm×aV)):=u.map fun x=>(cz,x)
def jB.j5 (k:IntKind):List TV→Option (List Int)
 | []=>some []
 |.t (.int k' y)::r=>match jB.j5 k r with
  |some ys=>if k'=k then some (y::ys) else none
  |none=>none
 |_::_=>none
def jB (mx:Bool):List TV→Option TV
 |.t (.int k x)::r=>match jB.j5 k r with
  |some ys=>some (.t (.int k (ys.foldl (fun x y=>if mx then(if y>x then y else x) else(if y<x then y else x)) x)))
  |none=>none
 |_=>none
def od (C:dI)(nm:Nm)(H:Heap)(b:Builtin)(ats:List TypeId)(args:List TV):Option (TV×List (Nm×aV)):=
 match b,ats,args with
 | .len,[t],[x]=>match bn C.P t with
  |some ti=>match ti.desc with
   |.array n _=>some (.t (.int .i64 n),[])
   |.string=>(match x with|.t (.str s)=>some (.t (.int .i64 s.length),[])|_=>none)
   |.slice _=>(match x with|.t (.str _)=>none|.t .iJ=>none|.map _=>none|x=>(yl H x).map fun n=>(.t (.int .i64 n),[]))
   |.map _ _=>(match x with|.t .iJ=>some (.t (.int .i64 0),[])|.map k=>(yl H (.map k)).map fun n=>(.t (.int .i64 n),[])|_=>none)
   |_=>none
  |none=>none
 |.append,[s,t],[x,y]=>jS C.P nm H s t x y
 |.copy,[s,_],[x,y]=>RR C.P H s x y
 |.min,_,xs=>xq (jB false xs)
 |.max,_,xs=>xq (jB true xs)
 |_,_,_=>none
def evalOp (C:dI)(f:FuncId)(nm:Nm)(H:Heap)(slots:List TV)(o:Oper):Option (TV×List (Nm×aV)):=
 let ρ:=dB C slots
 match o.op with
 |.move x=>xq (ρ x)
 |.assign x=>xq (ρ x)
 |.pick c a b=>match ρ c,ρ a,ρ b with
  |some (.t (.bool c)),some a,some b=>some (if c then a else b,[])
  |_,_,_=>none
 | .alloc elem=>match bn C.P elem with
  |some ti=>match ti.zero with
   |some z=>if z.cells.all TV.leaf=true then some (.ptr nm 0,[(nm,.cells elem z.cells)]) else none
   |none=>none
  |none=>none
 |.box elem x=>match ρ x with
  |some v=>if v.cells.all TV.leaf=true then some (.ptr nm 0,[(nm,.cells elem v.cells)]) else none
  |none=>none
 |.build t parts=>match lq C slots parts.toList with
  |some ps=>xq (GK C.P t ps)
  |none=>none
 |.buildSlice t len parts=>match lq C slots parts.toList with
  |some ps=>oc C.P (o.dst.any (C.qb f)) nm t len ps
  |none=>none
 |.load t a=>match ρ a with
  |some a=>xq (loadT C.P H t a)
  |none=>none
 |.store t a x=>match ρ a,ρ x with
  |some a,some x=>yp (storeT C.P H t a x)
  |_,_=>none
 |.nilCheck x=>match ρ x with
  |some v=>if Fo v=true then some (v,[]) else none
  |none=>none
 |.binOp op t x y _=>match ρ x,ρ y with
  |some a,some b=>xq (GL C.P op t x y a b)
  |_,_=>none
 |.unOp op _ x=>match ρ x with
  |some a=>xq (unT C.P op a)
  |none=>none
 |.convert s d x=>match ρ x with
  |some a=>r9 C.P (o.dst.any (C.qb f)) nm H s d a
  |none=>none
 | .makeInterface t x=>match ρ x,bn C.P t with
  |some v,some ti=>match ti.desc with
   |.interface _=>none
   |_=>some ((match v with|.t x=>.t (.iface t x)|v=>.iface t v),[])
  |_,_=>none
 |.makeFunc fn first captured=>match j4 C slots first.toList,j4 C slots captured.toList with
  |some fs,some cs=>some (XA fn fs cs,[])
  |_,_=>none
 |.makeMap t r=>match s7 C slots r,bn C.P t with
  |some none,some _=>some (.map nm,[(nm,.map [] 0)])
  |_,_=>none
 |.makeSlice t l c=>match ρ l,ρ c with
  |some l,some c=>xo C.P nm t l c
  |_,_=>none
 | .slice t x lo hi mx=>match ρ x,s7 C slots lo,s7 C slots hi,s7 C slots mx with
  |some v,some l,some h,some m=>match CK C.P H t v l h m with
   |some (r,ks)=>some (r,dF H ks)
   |none=>none
  |_,_,_,_=>none
 | .fieldAddr s x i=>match ρ x,bn C.P s with
  | some a,some ti=>match ti.desc with
   | .struct fs=>match fs[i]? with
    |some fd=>match bn C.P fd.type with
     |some tf=>if tf.size=0 then none else xq (p8 H a fd.offset)
     |none=>none
    |none=>none
   |_=>none
  |_,_=>none
 | .field t x i=>match ρ x,bn C.P t with
  | some v,some ti=>match ti.desc with
   | .struct fs=>match fs[i]? with
    |some fd=>match bn C.P fd.type with
     |some tf=>if AH v=true then xq (partT tf.agg tf.size v.cells fd.offset) else none
     |none=>none
    |none=>none
   |_=>none
  |_,_=>none
 |.indexAddr t x i=>match ρ x,ρ i with
  |some v,some j=>xq (fE C.P H t v j)
  |_,_=>none
 |.index t x i=>match ρ x,ρ i with
  |some v,some j=>xq (p9 C.P t v j)
  |_,_=>none
 |.lookup t x k ok=>match ρ x,ρ k with
  |some v,some j=>xq (pF C.P H t v j ok)
  |_,_=>none
 |.mapUpdate t m k x=>match ρ m,ρ k,ρ x with
  |some m,some k,some x=>yp (jy C.P H t m k x)
  |_,_,_=>none
 |.insert t m k x=>match ρ m,ρ k,ρ x with
  |some m,some k,some x=>yp (jy C.P H t m k x)
  |_,_,_=>none
 |.mapEntry t m k=>match ρ m,ρ k with
  |some m,some k=>AJ C.P H t m k
  |_,_=>none
 |.entryStore _ m s x=>match ρ m,ρ s,ρ x with
  |some m,some s,some x=>yp (uU H m s x)
  |_,_,_=>none
 |.typeAssert x _ asserted ok=>match ρ x with
  |some v=>xq (GM C.P v asserted ok)
  |none=>none
 |.extract t i=>match ρ t with
  |some v=>xq (yo v i)
  |none=>none
 |.call {callee:=.builtin b,args,argTypes}=>match j4 C slots args.toList with
  |some vs=>od C nm H b argTypes.toList vs
  |none=>none
 |_=>none
end Go.Abs
end

noncomputable section
namespace Go.Abs
open Go
mutual
def TV.names:TV→List Nm
 |.t _=>[]
 |.any=>[]
 |.aL=>[]
 |.l7 _=>[]
 |.kD _ _=>[]
 |.ref k _ _=>[k]
 |.ptr k _=>[k]
 |.kR k _ _=>[k]
 |.map k=>[k]
 |.agg cs=>TV.kS cs
 |.bX cs=>TV.kS cs
 |.fn _ fs cs=>TV.kS fs++TV.kS cs
 |.iface _ v=>v.names
def TV.kS:List TV→List Nm
 | []=>[]
 |v::r=>v.names++TV.kS r
end
def RS:List (TV×TV×Nat)→List Nm
 | []=>[]
 |(k,v,_)::r=>k.names++v.names++RS r
def aV.names:aV→List Nm
 |.cells _ cs=>TV.kS cs
 |.arr _ _ _ cs=>TV.kS cs
 |.map es _=>RS es
 |.dead=>[]
def reach (H:Heap):Nat→List Nm→List Nm→Option (List Nm)
 |_,done,[]=>some done
 |0,_,_=>none
 | n+1,done,k::todo=>
  if k∈done then reach H n done todo
  else match H.get k with
   |some o=>reach H n (done++[k]) (todo++o.names)
   |none=>none
def fL:Nat:=4000
def idxOf (k:Nm):List Nm→Nat→Option Nat
 | [],_=>none
 |k'::r,i=>if k'=k then some i else idxOf k r (i+1)
mutual
def TV.rn (σ:Nm→Option Nm):TV→Option TV
 |.t x=>some (.t x)
 |.any=>some .any
 |.aL=>some .aL
 |.l7 es=>some (.l7 es)
 |.kD cs o=>some (.kD cs o)
 |.ref k o l=>(σ k).map fun k=>.ref k o l
 |.ptr k o=>(σ k).map fun k=>.ptr k o
 |.kR k n o=>(σ k).map fun k=>.kR k n o
 |.map k=>(σ k).map .map
 |.agg cs=>(TV.xu σ cs).map .agg
 |.bX cs=>(TV.xu σ cs).map .bX
 |.fn f fs cs=>match TV.xu σ fs,TV.xu σ cs with
  |some fs,some cs=>some (.fn f fs cs)
  |_,_=>none
 |.iface ty v=>(v.rn σ).map (.iface ty)
def TV.xu (σ:Nm→Option Nm):List TV→Option (List TV)
 | []=>some []
 |v::r=>match v.rn σ,TV.xu σ r with
  |some v,some r=>some (v::r)
  |_,_=>none
end
def XC (σ:Nm→Option Nm):List (TV×TV×Nat)→Option (List (TV×TV×Nat))
 | []=>some []
 |(k,v,b)::r=>match k.rn σ,v.rn σ,XC σ r with
  |some k,some v,some r=>some ((k,v,b)::r)
  |_,_,_=>none
def aV.rn (σ:Nm→Option Nm):aV→Option aV
 |.cells ty cs=>(TV.xu σ cs).map (.cells ty)
 |.arr g e fz cs=>(TV.xu σ cs).map (.arr g e fz)
 |.map es c=>(XC σ es).map (.map · c)
 |.dead=>some .dead
def Nm.gZ:Nm→Bool
 |.loc _=>true
 |.arg _=>false
inductive bG where
 |ret (v:TV) (aX:List aV) (news:Heap)
 |panic (v:TV) (aX:List (Option aV))
 deriving Inhabited
abbrev aW:=FuncId→List TV→List aV→Option bG
structure St where
 slots:List TV
 H:Heap
 tick:Nat
 deriving Inhabited
inductive aP where
 |normal
 |exit (id:Nat)
 |ret
 |panic (v:TV)
 deriving Inhabited
def XD (v:TV)(l:List TV):Nat→List TV:=
 List.rec (motive:=fun _=>Nat→List TV) (fun _=>[]) (fun x xs ih n=>Nat.rec (motive:=fun _=>List TV) (v::xs) (fun m _=>x::ih m) n) l
theorem wo (v:TV):∀(l:List TV) (t:Nat),XD v l t=l.set t v:=by
 intro l
 induction l with
 |nil=>intro t;rfl
 |cons x r ih=>
  intro t
  cases t with
  |zero=>rfl
  |succ t=>exact congrArg (x:: ·) (ih t)
def fB (slots:List TV)(dst:Option Tmp)(v:TV):List TV:=
 match dst with
 |some d=>XD v slots d
 |none=>slots
def jC (H:Heap):List TV→List TV×List Nm
 | []=>([],[])
 |v::r=>
  let(vs,ks):=jC H r
  match pV H jv v with
  |some (x,k)=>(TV.t x::vs,k++ks)
  |none=>(v::vs,ks)
def RF (S:List Nm)(k:Nm):Option Nm:=(idxOf k S 0).map .arg
def lY (S:List Nm)(t:Nat):Nm→Option Nm
 |.arg i=>S[i]?
 |.loc p=>some (.loc (t::p))
def jN (H:Heap)(S:List Nm):List Nm→Option (List aV)
 | []=>some []
 |k::r=>match H.get k,jN H S r with
  |some o,some os=>(o.rn (RF S)).map (· ::os)
  |_,_=>none
def jf (S:List Nm)(t:Nat):List Nm→List aV→Option Heap
 | [],[]=>some []
 |k::r,o::os=>match o.rn (lY S t),jf S t r os with
  |some o,some h=>some ((k,o)::h)
  |_,_=>none
 |_,_=>none
def iG (S:List Nm)(t:Nat):Heap→Option Heap
 | []=>some []
 |(k,o)::r=>match lY S t k,o.rn (lY S t),iG S t r with
  |some k,some o,some h=>some ((k,o)::h)
  |_,_,_=>none
def l9 (S:List Nm)(t:Nat):List Nm→List (Option aV)→Option (Heap×List Nm)
 | [],[]=>some ([],[])
 |k::r,some o::os=>match o.rn (lY S t),l9 S t r os with
  |some o,some (h,ks)=>some ((k,o)::h,ks)
  |_,_=>none
 |k::r,none::os=>match l9 S t r os with
  |some (h,ks)=>some (h,k::ks)
  |none=>none
 |_,_=>none
def Heap.uH (H:Heap)(ks:List Nm):Heap:=H.filter fun p=> !(ks.contains p.1)
inductive xw where
 |val (v:TV) (u:Heap)
 |panic (v:TV) (u:Heap) (lost:List Nm)
def qc (ev:aW)(H:Heap)(g:FuncId)(args:List TV)(t:Nat):Option xw:=
 let(args,ks):=jC H args
 let H1:=H.ei (dF H ks)
 match reach H1 fL [] (TV.kS args) with
 |none=>none
 | some S=>
  if S.Nodup then
   match TV.xu (RF S) args,jN H1 S S with
   | some amC,some os=>
    match ev g amC os with
    |some (.ret v os' news)=>match v.rn (lY S t),jf S t S os',iG S t news with
     |some v,some h,some h'=>some (.val v ((dF H ks).filter (fun p=> !(S.contains p.1))++h++h'))
     |_,_,_=>none
    |some (.panic v os')=>match v.rn (lY S t),l9 S t S os' with
     |some v,some (h,lost)=>some (.panic v ((dF H ks).filter (fun p=> !(S.contains p.1))++h) lost)
     |_,_=>none
    |none=>none
   |_,_=>none
  else none
def jT (C:dI)(slots:List TV)(c:Call):Option (FuncId×List TV):=
 match c.callee with
 |.value fo=>match dB C slots fo,j4 C slots c.args.toList with
  |some (.t (.fn (.func g))),some amC=>some (g,amC)
  |some (.fn (.func g) fs cs),some amC=>some (g,fs++amC++cs)
  |_,_=>none
 |_=>none
def GP (P:lI)(H:Heap)(t:TypeId)(v:TV)(name:String):Option (FuncId×TV):=
 match(P.prog.info? t).bind (fun i=>i.methods.find? (·.name==name)) with
 | some m=>match m.path.isEmpty,m.func,P.prog.underlying t with
  |true,some (f,true),some (.pointer _)=>some (f,v)
  |true,some (f,false),some (.pointer e)=>(match v with
   |.ptr k o=>(match loadT P H e (.ptr k o) with|some x=>some (f,x)|none=>none)
   |_=>none)
  |_,_,_=>none
 |none=>none
def Cj (C:dI)(H:Heap)(slots:List TV)(recv:Operand)(name:String)(args:Array Operand):Option (FuncId×List TV):=
 match dB C slots recv,j4 C slots args.toList with
 |some (.iface t v),some amC=>(match GP C.P H t v name with|some (f,x)=>some (f,x::amC)|none=>none)
 |_,_=>none
def dR (ops:Array Oper)(slots:List TV)(o:Oper):Option Bool:=
 match o.guard with
 |none=>some true
 | some (j,want)=>match(ops[j]?).bind (·.dst) with
  |none=>some false
  |some d=>match slots[d]? with
   |some (.t (.bool b))=>some (b==want)
   |some (.t (.bX []))=>some false
   |none=>some false
   |_=>none
def GQ:TV→Option TV
 |.iface t v=>some (.iface t v)
 |.t (.iface t v)=>some (.t (.iface t v))
 |_=>none
def bk (C:dI)(ev:aW)(f:FuncId)(H:Heap)(slots:List TV)(t:Nat)(o:Oper):Option xw:=
 match o.op with
 |.panic x=>match(dB C slots x).bind GQ with
  |some v=>some (.panic v [] [])
  |none=>none
 |.call {callee:=.value fo,args,argTypes}=>match jT C slots {callee:=.value fo,args,argTypes} with
  |some (g,amC)=>qc ev H g amC t
  |none=>none
 |.call {callee:=.invoke recv name,args,argTypes}=>match Cj C H slots recv name args with
  |some (g,amC)=>qc ev H g amC t
  |none=>none
 |_=>match evalOp C f (.loc [t]) H slots o with
  |some (v,u)=>some (.val v u)
  |none=>none
def B1 (C:dI)(ev:aW)(f:FuncId)(ops:Array Oper):List Oper→St→Option (aP×St)
 | [],st=>some (.normal,st)
 | o::r,st=>
  match dR ops st.slots o with
  |none=>none
  |some false=>B1 C ev f ops r {st with slots:=fB st.slots o.dst cz,tick:=st.tick+1}
  |some true=>match bk C ev f st.H st.slots st.tick o with
   |none=>none
   |some (.val v u)=>B1 C ev f ops r {slots:=fB st.slots o.dst v,H:=st.H.ei u,tick:=st.tick+1}
   |some (.panic v u l)=>some (.panic v,{st with H:=(st.H.uH l).ei u,tick:=st.tick+1})
def PX (C:dI)(H:Heap)(slots:List TV)(o:Oper):Option (List Nm):=
 match o.op with
 |.move _|.assign _|.pick .. |.alloc _|.box .. |.build .. |.buildSlice .. |.nilCheck _|.makeInterface .. |.makeFunc .. |.makeMap .. |.makeSlice .. |.field .. |.extract .. |.typeAssert .. |.panic _|.unOp .. |.binOp .. |.index ..=>some []
 |.fieldAddr _ x _=>match dB C slots x with
  |some (.kR k _ _)=>some [k]
  |_=>some []
 |.store _ p _=>match dB C slots p with
  |some v=>some v.names
  |none=>none
 |.call {callee:=.value fo,args,argTypes}=>match jT C slots {callee:=.value fo,args,argTypes} with
  |some (_,amC)=>reach H fL [] (TV.kS amC)
  |none=>none
 |.call {callee:=.invoke recv name,args,argTypes}=>match dB C slots recv,j4 C slots args.toList with
  |some v,some amC=>reach H fL [] (v.names++TV.kS amC)
  |_,_=>none
 |op=>match j4 C slots op.operands.toList with
  |some vs=>some (TV.kS vs)
  |none=>none
inductive yq where
 |yu
 |unwanted
 |val (v:TV) (u:Heap)
 |panic (v:TV) (u:Heap) (lost:List Nm)
structure Rec where
 fp:List Nm
 res:yq
def yq.keys:yq→List Nm
 |.val _ u=>u.map (·.1)
 |.panic _ u l=>u.map (·.1)++l
 |_=>[]
structure wQ where
 slots:List TV
 H:Heap
def wQ.after (s:wQ)(o:Oper):yq→wQ
 |.yu=>s
 |.unwanted=>{s with slots:=fB s.slots o.dst cz}
 |.val v u=>{slots:=fB s.slots o.dst v,H:=s.H.ei u}
 |.panic ..=>s
def j6 (i:Nat)(qV:Option Nat):yq→Option Nat
 |.panic ..=>some i
 |_=>qV
def qW (ops:List Oper)(acc:List Nat):List Nat:=
 match ops with
 | []=>acc
 |o::r=>qW r (acc++[o.after.toList.foldl (fun s e=>if Region.binds .any e then s|||2 ^ e.on|||acc.getD e.on 0 else s) 0])
def uV:Nat→List Oper→Bool
 |_,[]=>true
 |i,o::r=>o.after.toList.all (fun e=> !Region.binds .any e||decide (e.on<i))&&uV (i+1) r
def jg (bs:List Nat)(i j:Nat):Bool:=(bs.getD j 0).testBit i
def kX (L:List Nat):Nat→List TV→List TV
 |_,[]=>[]
 |i,v::r=>(if L.contains i then v else cz)::kX L (i+1) r
def ni (H:Heap)(fp:List Nm):Heap:=fp.filterMap fun k=>(H.get k).map (k, ·)
def RT (C:dI)(ev:aW)(f:FuncId)(ops:Array Oper)(bs:List Nat)(t0 i:Nat)(o:Oper)(s:wQ)(qV:Option Nat):Option Rec:=
 match(match qV with|some j=>jg bs j i|none=>false) with
 |true=>some ⟨[],.yu⟩
 | false=>
  match dR ops (kX (o.looksAt ops) 0 s.slots) o with
  |none=>none
  |some false=>some ⟨[],.unwanted⟩
  | some true=>
   match PX C s.H s.slots o with
   |none=>none
   | some fp=>
    match bk C ev f (ni s.H fp) (kX (o.looksAt ops) 0 s.slots) (t0+i) o with
    |none=>none
    |some (.val v u)=>if qV.isSome=true&& !u.isEmpty then none else some ⟨fp,.val v u⟩
    |some (.panic v u l)=>match qV with
     |some _=>none
     |none=>some ⟨fp,.panic v u l⟩
def B2 (C:dI)(ev:aW)(f:FuncId)(ops:Array Oper)(bs:List Nat)(t0:Nat):Nat→List Oper→wQ→Option Nat→Option (List Rec)
 |_,[],_,_=>some []
 | i,o::r,s,qV=>match RT C ev f ops bs t0 i o s qV with
  |none=>none
  |some rec=>match B2 C ev f ops bs t0 (i+1) r (s.after o rec.res) (j6 i qV rec.res) with
   |some rs=>some (rec::rs)
   |none=>none
def GR (a b:List Nm):Bool:=a.all fun k=> !(b.contains k)
def xy (ops:Array Oper)(x y:Oper):Bool:=
 (match x.dst with
  |some d=> !((y.looksAt ops).contains d)&&y.dst != some d
  |none=>true)&&
 (match y.dst with
  |some d=> !((x.looksAt ops).contains d)
  |none=>true)
def xA (ops:Array Oper)(x y:Oper)(rx ry:Rec):Bool:=
 xy ops x y&&GR rx.res.keys ry.fp&&GR rx.res.keys ry.res.keys&&GR ry.res.keys rx.fp
def yw (ops:Array Oper)(b:Nat)(j:Oper)(rj:Rec):Nat→List Oper→List Rec→Bool
 |i,x::xs,r::rs=>(b.testBit i||xA ops x j r rj)&&yw ops b j rj (i+1) xs rs
 |_,_,_=>true
def lJ (ops:Array Oper)(l:List Oper)(recs:List Rec):List Nat→List Oper→List Rec→Nat→Bool
 |b::bs,o::os,r::rs,n=>yw ops b o r 0 (l.take n) (recs.take n)&&lJ ops l recs bs os rs (n+1)
 |_,_,_,_=>true
def jU:Nat→List Rec→Option (Nat×TV×Heap×List Nm)
 |_,[]=>none
 |i,r::rs=>match r.res with
  |.panic v u l=>some (i,v,u,l)
  |_=>jU (i+1) rs
def AK (b:Nat):Nat→List Rec→List Nm
 |_,[]=>[]
 |i,r::rs=>(if b.testBit i then [] else r.res.keys)++AK b (i+1) rs
def yx:List Oper→List Rec→wQ→wQ
 |o::os,r::rs,s=>yx os rs (s.after o r.res)
 |_,_,s=>s
def q9 (C:dI)(ev:aW)(f:FuncId)(ops:Array Oper)(st:St):Option (aP×St):=
 let l:=ops.toList
 let bs:=qW l []
 match B2 C ev f ops bs st.tick 0 l {slots:=st.slots,H:=st.H} none with
 |none=>none
 | some recs=>
  if lJ ops l recs bs l recs 0=true∧uV 0 l=true then
   let s:=yx l recs {slots:=st.slots,H:=st.H}
   match jU 0 recs with
   |none=>some (.normal,{slots:=s.slots,H:=s.H,tick:=st.tick+ops.size})
   |some (j,v,u,lost)=>
    some (.panic v,{slots:=st.slots,H:=(s.H.uH (lost++AK (bs.getD j 0) 0 (recs.take j))).ei u,tick:=st.tick+ops.size})
  else none
def CL (body:St→Option (aP×St)):Nat→St→Option (aP×St)
 |0,_=>none
 |n+1,st=>match body st with
  |some (.normal,st')=>CL body n st'
  |r=>r
def evalCode (C:dI)(ev:aW)(f:FuncId)(fuel:Nat):Code→St→Option (aP×St)
 |.skip,st=>some (.normal,st)
 |.label _,st=>some (.normal,st)
 |.region _ ops draw,st=>if draw then q9 C ev f ops st else B1 C ev f ops ops.toList st
 |.seq a b,st=>match evalCode C ev f fuel a st with
  |some (.normal,st')=>evalCode C ev f fuel b st'
  |r=>r
 |.cond c a b,st=>match dB C st.slots c with
  |some (.t (.bool true))=>evalCode C ev f fuel a st
  |some (.t (.bool false))=>evalCode C ev f fuel b st
  |_=>none
 |.block id body,st=>match evalCode C ev f fuel body st with
  |some (.exit id',st')=>if id'=id then some (.normal,st') else some (.exit id',st')
  |r=>r
 |.loop body,st=>CL (evalCode C ev f fuel body) fuel st
 |.exit id,st=>some (.exit id,st)
 |.ret,st=>some (.ret,st)
 |_,_=>none
def iP (C:dI)(st:St):List ResultVar→Option (List TV)
 | []=>some []
 |.tmp t::r=>match iP C st r with
  |some vs=>some (st.slots.getD t cz::vs)
  |none=>none
 |.cell a t::r=>match loadT C.P st.H t (st.slots.getD a cz),iP C st r with
  |some v,some vs=>some (v::vs)
  |_,_=>none
def qd:List TV→TV
 | [v]=>v
 |vs=>q8 vs
def cU:Nat→List aV→Heap
 |_,[]=>[]
 |i,o::r=>(.arg i,o)::cU (i+1) r
def mg (H:Heap):Nat→Nat→Option (List aV)
 |_,0=>some []
 |i,n+1=>match H.get (.arg i),mg H (i+1) n with
  |some o,some os=>some (o::os)
  |_,_=>none
def ru (H:Heap):Nat→Nat→List (Option aV)
 |_,0=>[]
 | i,n+1=>(match H.get (.arg i) with
   |some o=>if o.names.any Nm.gZ then none else some o
   |none=>none)::ru H (i+1) n
def j7 (H:Heap):List Nm→Option Heap
 | []=>some []
 |k::r=>match j7 H r with
  |some h=>if k.gZ then(H.get k).map fun o=>(k,o)::h else some h
  |none=>none
def finish (C:dI)(fn:Func)(n:Nat)(st:St):Option bG:=
 match iP C st fn.results.toList with
 |none=>none
 | some vs=>
  let v0:=qd vs
  let(v,ks):=match pV st.H jv v0 with
   |some (x,ks)=>(TV.t x,ks)
   |none=>(v0,[])
  let H:=st.H.ei (dF st.H ks)
  match mg H 0 n with
  |none=>none
  |some os=>match reach H fL [] (v.names++os.flatMap aV.names) with
   |none=>none
   |some R=>(j7 H R).map fun h=>.ret v os h
def Jd (C:dI)(ev:aW)(fuel:Nat)(f:FuncId)(args:List TV)(aX:List aV):Option bG:=
 match C.P.fn f with
 |none=>none
 | some fn=>match fn.body with
  |none=>none
  |some body=>
   if fn.name= "runtime.NumGoroutine" then none else
   match evalCode C ev f fuel body {slots:=args++List.replicate (fn.ntmps - args.length) cz,H:=cU 0 aX,tick:=0} with
   |some (.normal,st)=>finish C fn aX.length st
   |some (.ret,st)=>finish C fn aX.length st
   |some (.panic v,st)=>if v.names.any Nm.gZ then none else some (.panic v (ru st.H 0 aX.length))
   |_=>none
abbrev Ext:=FuncId→Option (aW→List TV→List aV→Option bG)
def CM (C:dI)(X:Ext):Nat→aW
 |0,_,_,_=>none
 |n+1,f,args,aX=>match X f with
  |some s=>s (CM C X n) args aX
  |none=>Jd C (CM C X n) n f args aX
end Go.Abs

namespace Go.Abs
open Go
def B3 (F:uT)(cs:List Tree)(vs:List Value):Prop:=vs.length=cs.length∧∀(j:Nat) c v,cs[j]?=some c→vs[j]?=some v→VT F c v
theorem B3.Je {G:Gh}{cs:List Tree}{vs:List Value}(h:B3 G.F cs vs):cZ G (cs.map .t) vs:=by
 refine⟨by simp[h.1],fun j c v hc hv=> ?_⟩
 rw[List.getElem?_map] at hc
 cases hx:cs[j]? with
 |none=>rw[hx] at hc;simp at hc
 |some x=>rw[hx] at hc;simp at hc;subst hc;exact .t x v (h.2 j x v hx hv)
theorem VR.tree {G:Gh}{x:Tree}{v:Value}(h:VR G (.t x) v):VT G.F x v:=by cases h;assumption
theorem cZ.RU {G:Gh}{cs:List Tree}{vs:List Value}(h:cZ G (cs.map .t) vs):B3 G.F cs vs:=by
 refine⟨by have:=h.1;simpa using this,fun j c v hc hv=> ?_⟩
 exact(h.2 j (.t c) v (by rw[List.getElem?_map,hc];rfl) hv).tree
theorem AL {cs:List TV}{ts:List Tree}(h:allT cs=some ts):cs=ts.map .t:=by
 induction cs generalizing ts with
 |nil=>simp[allT] at h;subst h;rfl
 |cons c r ih=>
  cases c<;>simp only[allT] at h<;>try (simp at h;done)
  rename_i x
  cases hr:allT r with
  |none=>rw[hr] at h;simp at h
  |some xs=>rw[hr] at h;simp at h;subst h;simp[ih hr]
theorem B3.agg {F:uT}{cs:List Tree}{vs:List Value}(h:B3 F cs vs):VT F (.agg cs) (.agg vs.toArray):=.agg cs vs h.1 h.2
theorem B3.bX {F:uT}{cs:List Tree}{vs:List Value}(h:B3 F cs vs):VT F (.bX cs) (.tuple vs.toArray):=.bX cs vs h.1 h.2
theorem uW {G:Gh}{cs:List TV}{vs:List Value}(h:cZ G cs vs):VR G (uS cs) (.agg vs.toArray):=by
 unfold uS
 cases ha:allT cs with
 |none=>exact .agg cs vs h.1 h.2
 |some ts=>have:=AL ha;subst this;exact .t _ _ h.RU.agg
theorem mh {G:Gh}{cs:List TV}{vs:List Value}(h:cZ G cs vs):VR G (q8 cs) (.tuple vs.toArray):=by
 unfold q8
 cases ha:allT cs with
 |none=>exact .bX cs vs h.1 h.2
 |some ts=>have:=AL ha;subst this;exact .t _ _ h.RU.bX
theorem VT.leaf {F:uT}{x:Tree}{v:Value}(h:VT F x v)(hx:x.leaf=true):one v=true:=by
 cases h<;>simp_all [Tree.leaf,one]
theorem VR.leaf {G:Gh}{x:TV}{v:Value}(h:VR G x v)(hx:x.leaf=true):one v=true:=by
 cases h with
 |t x v h=>exact h.leaf hx
 |ref k off len n b8 cap v hd ha hle ho hv=>obtain⟨_,_,rfl⟩:=ho;rfl
 |kR k n off n' b8 cap v hd ha hle ho hv=>obtain⟨_,rfl⟩:=ho;rfl
 |_=>simp_all [TV.leaf,one]
theorem Fp {v:Value}(h:one v=true):v.cells= #[v]:=by cases v<;>simp_all [one,Value.cells]
theorem cZ.one {G:Gh}{x:TV}{v:Value}(h:VR G x v):cZ G [x] [v]:=cZ.cons h (cZ.nil G)
theorem VR.cells {G:Gh}{x:TV}{v:Value}(h:VR G x v)(hx:x≠ .any):cZ G x.cells v.cells.toList:=by
 cases h with
 |any=>exact absurd rfl hx
 |t x v h=>
  cases h with
  |agg cs vs hl h=>exact B3.Je ⟨hl,h⟩
  |bX cs vs hl h=>exact cZ.one (.t _ _ (.bX cs vs hl h))
  |bool=>exact cZ.one (.t _ _ (.bool _))
  |int=>exact cZ.one (.t _ _ (.int _ _))
  |str=>exact cZ.one (.t _ _ (.str _))
  |xg=>exact cZ.one (.t _ _ (.xg _ _))
  |sl e es b o cap vals h1 h2 h3 h4 h5=>exact cZ.one (.t _ _ (.sl e es b o cap vals h1 h2 h3 h4 h5))
  |cG=>exact cZ.one (.t _ _ .cG)
  |iJ=>exact cZ.one (.t _ _ .iJ)
  |q7=>exact cZ.one (.t _ _ .q7)
  |fn=>exact cZ.one (.t _ _ (.fn _))
  |yg=>exact cZ.one (.t _ _ .yg)
  |iface t x v h=>exact cZ.one (.t _ _ (.iface t x v h))
 |aL=>exact cZ.one .aL
 |l7 es a h=>exact cZ.one (.l7 es a h)
 |ref k off len n b8 cap v hd ha hle ho hv=>rw[Fp (by obtain⟨_,_,rfl⟩:=ho;rfl)];exact cZ.one (.ref k off len n b8 cap v hd ha hle ho hv)
 |agg cs vs hl h=>exact⟨hl,h⟩
 |bX cs vs hl h=>exact cZ.one (.bX cs vs hl h)
 |ptr k off hd hn=>exact cZ.one (.ptr k off hd hn)
 |kR k n off n' b8 cap v hd ha hle ho hv=>rw[Fp (by obtain⟨_,rfl⟩:=ho;rfl)];exact cZ.one (.kR k n off n' b8 cap v hd ha hle ho hv)
 |kD cs off b o vals hF hv=>exact cZ.one (.kD cs off b o vals hF hv)
 |map k hd hn=>exact cZ.one (.map k hd hn)
 |fn f fs cs vs ws hl h hl' h'=>exact cZ.one (.fn f fs cs vs ws hl h hl' h')
 |iface t x v h=>exact cZ.one (.iface t x v h)
theorem B3.nil (F:uT):B3 F [] []:=⟨rfl,by simp⟩
theorem B3.cons {F:uT}{c:Tree}{v:Value}{cs:List Tree}{vs:List Value}(h:VT F c v)(hs:B3 F cs vs):B3 F (c::cs) (v::vs):=by
 refine⟨by simp[hs.1],fun j d u hd hu=> ?_⟩
 cases j with
 |zero=>simp at hd hu;subst hd;subst hu;exact h
 |succ j=>simp at hd hu;exact hs.2 j d u hd hu
theorem VT.cells {F:uT}{x:Tree}{v:Value}(h:VT F x v):B3 F x.cells v.cells.toList:=by
 cases h<;>first
  |(rename_i cs vs hl h;exact⟨hl,h⟩)
  |exact B3.cons (by first|assumption|(constructor;done)|(constructor<;>assumption)) (B3.nil F)
theorem Fq {G:Gh}{v:Value}{x:TV}(h:xe v=some x):VR G x v:=by
  unfold xe at h
  split at h<;>simp at h<;>(try subst h)
  · exact .t _ _ (.bool _)
  · exact .t _ _ (.int _ _)
  · rename_i s
    have:(Value.string s)=.string ⟨s.data.toList.toArray⟩:=by simp
    rw[this];exact .t _ _ (.str _)
  · exact .aL
  · exact .t _ _ .cG
  · exact .t _ _ .iJ
  · exact .t _ _ .q7
  · exact .t _ _ .yg
  · obtain⟨⟨h1,h2⟩,h3⟩:=h
    subst h3;subst h1;subst h2
    exact .t _ _ (.fn _)
theorem yy {G:Gh}{vs:List Value}{xs:List TV}(h:l8 vs=some xs):cZ G xs vs:=by
 induction vs generalizing xs with
 |nil=>simp[l8] at h;subst h;exact cZ.nil G
 |cons v r ih=>
  simp only[l8] at h
  cases h1:xe v<;>cases h2:l8 r<;>simp[h1,h2] at h
  subst h
  exact cZ.cons (Fq h1) (ih h2)
theorem uX {G:Gh}{v:Value}{x:TV}(h:valOf v=some x):VR G x v:=by
  unfold valOf at h
  split at h
  · rename_i cs
    cases h1:l8 cs.toList<;>simp[h1] at h
    subst h
    have:=uW (yy (G:=G) h1)
    simpa using this
  · rename_i cs
    cases h1:l8 cs.toList<;>simp[h1] at h
    subst h
    have:=mh (yy (G:=G) h1)
    simpa using this
  · exact Fq h
theorem Jf {G:Gh}{x:TV}{u v:Value}(h:CI x=some u)(hr:VR G x v):v=u:=by
 cases hr with
 |t x v ht=>cases ht<;>simp[CI] at h<;>exact h
 |aL=>simp[CI] at h;exact h
 |_=>simp[CI] at h
theorem CN {G:Gh}{xs:List TV}{us vs:List Value}(h:pE xs=some us)(hr:cZ G xs vs):vs=us:=by
 induction xs generalizing us vs with
 |nil=>simp[pE] at h;subst h;have:=hr.1;simpa using this
 |cons x r ih=>
  obtain⟨v,vs',rfl,h1,h2⟩:=hr.jt
  simp only[pE] at h
  cases h3:CI x<;>cases h4:pE r<;>simp[h3,h4] at h
  subst h
  rw[Jf h3 h1,ih h4 h2]
theorem CO {G:Gh}{x:TV}{u v:Value}(h:CJ x=some u)(hr:VR G x v):v=u:=by
  unfold CJ at h
  split at h
  · rename_i cs
    cases h1:pE (cs.map .t)<;>simp[h1] at h
    subst h
    cases hr with|t _ _ ht=>cases ht with|agg _ vs hl hh=>
      rw[CN h1 (B3.Je (G:=G) ⟨hl,hh⟩)]
  · rename_i cs
    cases h1:pE cs<;>simp[h1] at h
    subst h
    cases hr with|agg _ vs hl hh=>rw[CN h1 ⟨hl,hh⟩]
  · exact Jf h hr
theorem mo {G:Gh}{x:TV}{u v:Value}(h:kV x=some u)(hr:VR G x v):v=u:=by
  unfold kV at h
  split at h
  · rename_i t x
    cases h1:CJ (.t x)<;>simp[h1] at h
    subst h
    cases hr with|t _ _ ht=>cases ht with|iface _ _ w hw=>rw[CO (G:=G) h1 (.t _ _ hw)]
  · rename_i t x
    cases h1:CJ x<;>simp[h1] at h
    subst h
    cases hr with|iface _ _ w hw=>rw[CO h1 hw]
  · exact CO h hr
theorem oe {α:Type}{P:Program}{s:Sem α}{a:α}(h:kE P s=some a)(w:World):s.run P w=.ok a w:=by
 induction s with
 |pure x=>simp[kE] at h;subst h;rfl
 |program k ih=>simp only[kE] at h;exact ih P h
 |_=>simp[kE] at h
end Go.Abs

namespace Go.Abs
open Go
def rS (vs:Array Value)(fr:Nat×Nat):Prop:=∀o,o<vs.size→¬(fr.1≤o∧o<fr.2)
def MR (G:Gh):List (TV×TV×Nat)→List MapEntry→Prop
 | [],[]=>True
 |(k,v,b)::r,e::es=>VR G k e.key∧VR G v e.val∧e.born=b∧MR G r es
 |_,_=>False
def OR (G:Gh)(w:World)(k:Nm):aV→Prop
 |.cells gi cs=>G.arr k=none∧∃vs ty fr,w.heap[G.mu k]?=some (.cells vs ty fr)∧(rS vs fr∧ty=gi)∧cZ G cs vs.toList∧∀o,G.F (G.mu k) o=none
 | .arr g b8 fz cs=>0<b8∧∃cap vs ty fr,G.arr k=some (cs.length,b8,cap)∧w.heap[G.mu k]?=some (.cells vs ty fr)∧(rS vs fr∧ty=g.1)∧vs.size=cap*b8∧cs.length≤vs.size∧
   cZ G cs (vs.toList.take cs.length)∧∀o,(fz=false∨cs.length≤o)→G.F (G.mu k) o=none
 |.map es c=>G.arr k=none∧∃bE,w.heap[G.mu k]?=some (.map bE c)∧MR G es bE.toList∧∀o,G.F (G.mu k) o=none
 |.dead=>True
structure WF (G:Gh)(w:World):Prop where
 F:∀b o v,G.F b o=some v→∃vs ty fr,w.heap[b]?=some (.cells vs ty fr)∧vs[o]?=some v
 inj:∀k k',G.dom k→G.dom k'→G.mu k=G.mu k'→k=k'
 lt:∀k,G.dom k→G.mu k<w.heap.size
def HR (G:Gh)(w:World)(H:Heap):Prop:=∀k o,H.get k=some o→G.dom k∧OR G w k o
structure Step (W N:Nm→Prop)(G:Gh)(w:World)(G':Gh)(w':World):Prop where
 le:G.le G'
 wf:WF G' w'
 same:∀k,G.dom k→¬W k→G'.mu k=G.mu k∧G'.arr k=G.arr k
 blocks:∀b,b<w.heap.size→(∀k,W k→G.dom k→G.mu k≠b)→w'.heap[b]?=w.heap[b]?∧∀o,G'.F b o=G.F b o
 news:∀k,G'.dom k→G.dom k∨N k
 fresh:∀k,G'.dom k→(G.dom k∧G'.mu k=G.mu k)∨w.heap.size≤G'.mu k
 size:w.heap.size≤w'.heap.size
 os:w'.os=w.os
 tape:w'.tape=w.tape
 output:w'.output=w.output
theorem Step.refl {G:Gh}{w:World}(hw:WF G w)(W N:Nm→Prop):Step W N G w G w:=
 ⟨.refl G,hw,fun _ _ _=>⟨rfl,rfl⟩,fun _ _ _=>⟨rfl,fun _=>rfl⟩,fun _ h=>.inl h,fun _ h=>.inl ⟨h,rfl⟩,Nat.le_refl _,rfl,rfl,rfl⟩
theorem Step.mono {W N W' N':Nm→Prop}{G G':Gh}{w w':World}(h:Step W N G w G' w')(hW:∀k,G.dom k→W k→W' k)(hN:∀k,N k→N' k):Step W' N' G w G' w':=
 ⟨h.le,h.wf,fun k d n=>h.same k d (fun x=>n (hW k d x)),fun b hb hn=>h.blocks b hb (fun k hk d=>hn k (hW k d hk) d),fun k d=>(h.news k d).imp id (hN k),h.fresh,h.size,h.os,h.tape,h.output⟩
theorem Step.trans {W N W' N':Nm→Prop}{A B C:Gh}{u v w:World}(h:Step W N A u B v)(k:Step W' N' B v C w):
    Step (fun x=>W x∨W' x) (fun x=>N x∨N' x) A u C w:=by
  refine⟨h.le.trans k.le,k.wf,fun x d n=> ?_,fun b hb hn=> ?_,fun x d=> ?_,fun x d=> ?_,Nat.le_trans h.size k.size,k.os.trans h.os,k.tape.trans h.tape,k.output.trans h.output⟩
  · obtain⟨a1,a2⟩:=h.same x d (fun y=>n (.inl y))
    obtain⟨b1,b2⟩:=k.same x (h.le.dom _ d) (fun y=>n (.inr y))
    exact⟨b1.trans a1,b2.trans a2⟩
  · obtain⟨a1,a2⟩:=h.blocks b hb (fun x hx d=>hn x (.inl hx) d)
    obtain⟨b1,b2⟩:=k.blocks b (Nat.lt_of_lt_of_le hb h.size) (fun x hx d=>by
      rcases h.fresh x d with ⟨d0,e⟩|e
      · rw[e];exact hn x (.inr hx) d0
      · omega)
    exact⟨b1.trans a1,fun o=>(b2 o).trans (a2 o)⟩
  · rcases k.news x d with d|d
    · exact(h.news x d).imp id .inl
    · exact .inr (.inr d)
  · rcases k.fresh x d with ⟨d1,e1⟩|e1
    · rcases h.fresh x d1 with ⟨d0,e0⟩|e0
      · exact .inl ⟨d0,e1.trans e0⟩
      · exact .inr (by rw[e1];exact e0)
    · exact .inr (Nat.le_trans h.size e1)
theorem MR.mono {G G':Gh}(hG:G.le G'){es:List (TV×TV×Nat)}{bE:List MapEntry}(h:MR G es bE):MR G' es bE:=by
 induction es generalizing bE with
 |nil=>cases bE<;>simp_all [MR]
 | cons e r ih=>
  obtain⟨k,v,b⟩:=e
  cases bE with
  |nil=>simp[MR] at h
  |cons x xs=>
   simp only[MR] at h ⊢
   exact⟨h.1.mono hG,h.2.1.mono hG,h.2.2.1,ih h.2.2.2⟩
theorem Step.keeps {W N:Nm→Prop}{G G':Gh}{w w':World}(h:Step W N G w G' w')(hw:WF G w){k:Nm}(hk:G.dom k)(hn:¬W k){o:aV}(ho:OR G w k o):OR G' w' k o:=by
 obtain⟨em,ea⟩:=h.same k hk hn
 obtain⟨hb,hF⟩:=h.blocks (G.mu k) (hw.lt k hk) (fun x hx dx e=>hn (by rw[← hw.inj x k dx hk e];exact hx))
 cases o with
 |cells gi cs=>
  obtain⟨ha,vs,ty,fr,hh,ht,hv,hf⟩:=ho
  exact⟨by rw[ea];exact ha,vs,ty,fr,by rw[em,hb];exact hh,ht,hv.mono h.le,fun o=>by rw[em,hF];exact hf o⟩
 |arr g b8 fz cs=>
  obtain⟨he,cap,vs,ty,fr,ha,hh,ht,hs,hl,hv,hf⟩:=ho
  exact⟨he,cap,vs,ty,fr,by rw[ea];exact ha,by rw[em,hb];exact hh,ht,hs,hl,hv.mono h.le,fun o ho=>by rw[em,hF];exact hf o ho⟩
 |map es c=>
  obtain⟨ha,bE,hh,hv,hf⟩:=ho
  exact⟨by rw[ea];exact ha,bE,by rw[em,hb];exact hh,hv.mono h.le,fun o=>by rw[em,hF];exact hf o⟩
 |dead=>trivial
theorem Heap.Ck (H:Heap)(k k':Nm)(o:aV):(H.put k o).get k'=if k=k' then some o else H.get k':=by
  induction H with
  |nil=>simp only[Heap.put,Heap.get]
  | cons p r ih=>
    obtain⟨k0,o0⟩:=p
    simp only[Heap.put]
    by_cases h:k0=k
    · subst h
      simp only[if_true,Heap.get]
      split<;>rfl
    · simp only[if_neg h,Heap.get,ih]
      by_cases h2:k0=k'
      · subst h2
        rw[if_pos rfl,if_neg (fun e=>h e.symm),if_pos rfl]
      · rw[if_neg h2,if_neg h2]
theorem Heap.sg (H:Heap)(u:List (Nm×aV))(k:Nm)(o:aV)(h:(H.ei u).get k=some o):
    (k,o)∈u∨(H.get k=some o∧k∉u.map (·.1)):=by
  unfold Heap.ei at h
  induction u generalizing H with
  |nil=>exact .inr ⟨h,by simp⟩
  | cons p r ih=>
    simp only[List.foldl_cons] at h
    rcases ih (H.put p.1 p.2) h with h|⟨h,hn⟩
    · exact .inl (List.mem_cons_of_mem _ h)
    · rw[Heap.Ck] at h
      split at h
      · rename_i e;simp at h;subst h;subst e;exact .inl List.mem_cons_self
      · rename_i e;exact .inr ⟨h,by simp only[List.map_cons,List.mem_cons,not_or];exact⟨fun x=>e x.symm,hn⟩⟩
theorem Heap.get_filter (H:Heap)(q:Nm→Bool)(k:Nm):Heap.get (H.filter fun p=>q p.1) k=if q k=true then H.get k else none:=by
  induction H with
  |nil=>simp[Heap.get]
  | cons p r ih=>
    obtain⟨k0,o0⟩:=p
    simp only[List.filter_cons]
    by_cases h:q k0=true
    · simp only[h,if_true,Heap.get,ih]
      by_cases e:k0=k
      · subst e;simp[h]
      · simp[e]
    · simp only[h,Heap.get]
      by_cases e:k0=k
      · subst e;simp[ih,h]
      · simp[e,ih]
theorem Heap.uY (H:Heap)(ks:List Nm)(k:Nm):(H.uH ks).get k=if k∈ks then none else H.get k:=by
 unfold Heap.uH
 rw[Heap.get_filter H (fun k=> !(ks.contains k)) k]
 by_cases h:k∈ks<;>simp[h]
theorem HR.ei {W N:Nm→Prop}{G G':Gh}{w w':World}{H:Heap}{u:List (Nm×aV)}(h:Step W N G w G' w')(hw:WF G w)(hH:HR G w H)
    (hu:∀k o,(k,o)∈u→G'.dom k∧OR G' w' k o)(hW:∀k,G.dom k→W k→k∈u.map (·.1)):HR G' w' (H.ei u):=by
  intro k o hk
  rcases Heap.sg H u k o hk with h1|⟨h1,hn⟩
  · exact hu k o h1
  · obtain⟨d,ho⟩:=hH k o h1
    exact⟨h.le.dom _ d,h.keeps hw d (fun x=>hn (hW k d x)) ho⟩
end Go.Abs

namespace Go.Abs
open Go
theorem uZ {α β:Type}{P:Program}{s:Sem α}{f:α→Sem β}{w w':World}{a:α}(h:s.run P w=.ok a w'):(s.bind f).run P w=(f a).run P w':=by
  induction s generalizing w with
  |pure x=>simp[Sem.run] at h;obtain⟨rfl,rfl⟩:=h;rfl
  | load m x k ih=>
    simp only[Sem.bind,Sem.run] at h ⊢
    split at h
    · exact ih _ h
    · split at h
      · exact ih _ h
      · simp at h
  | store m x v k ih=>
    cases v<;>simp only[Sem.bind,Sem.run] at h ⊢<;>first
      |(simp at h;done)
      |( split at h
         · split at h
           · simp at h
           · rename_i hf;rw[if_neg hf];exact ih h
         · split at h
           · exact ih h
           · simp at h)
  |new o k ih=>exact ih _ h
  |shape r k ih=>exact ih _ h
  |freeze x n k ih=>exact ih h
  |frozen x k ih=>exact ih _ h
  | getObj r k ih=>
    simp only[Sem.bind,Sem.run] at h ⊢
    split at h
    · simp at h
    · exact ih _ h
    · simp at h
  | setObj r o k ih=>
    simp only[Sem.bind,Sem.run] at h ⊢
    split at h
    · simp at h
    · exact ih h
    · simp at h
  | choose q k ih=>
    simp only[Sem.bind,Sem.run] at h ⊢
    split at h
    · rename_i hf;rw[if_pos hf];exact ih _ h
    · rename_i hf;rw[if_neg hf];exact ih _ h
  |sys c k ih=>exact ih _ h
  |program k ih=>exact ih _ h
  |mark m k ih=>exact ih h
  |halt x=>simp[Sem.run] at h
theorem gI {α β:Type}{P:Program}{s:Sem α}{f:α→Sem β}{w w':World}{a:α}(h:s.run P w=.ok a w'):(s>>=f).run P w=(f a).run P w':=uZ h
theorem og (b o n:Nat):(Addr.add ⟨b,o,none⟩ n)=⟨b,o+n,none⟩:=by
 unfold Addr.add
 split
 · rename_i h;subst h;rfl
 · rfl
theorem cell_of {w:World}{b:Nat}{vs:Array Value}{ty:TypeId}{fr:Nat×Nat}(h:w.heap[b]?=some (.cells vs ty fr))(o:Nat):w.cell? ⟨b,o,none⟩=vs[o]?:=by
 simp[World.cell?,h]
theorem Fs {w:World}{b:Nat}{vs:Array Value}{ty:TypeId}{fr:Nat×Nat}(h:w.heap[b]?=some (.cells vs ty fr))(o:Nat):w.frozen? ⟨b,o,none⟩=(decide (fr.1≤o)&&decide (o<fr.2)):=by
 simp[World.frozen?,h]
theorem Jg {P:Program}{w:World}{a:Addr}{v:Value}(h:w.cell? a=some v):(load a).run P w=.ok v w:=by
 simp[load,Sem.run,h]
theorem yz {P:Program}{w:World}{b o:Nat}(vs:List Value):∀(i:Nat) (acc:Array Value),(∀j v,vs[j]?=some v→w.cell? ⟨b,o+i+j,none⟩=some v)→
  (loadCellsFrom ⟨b,o,none⟩ i vs.length acc).run P w=.ok (acc++vs.toArray) w:=by
 induction vs with
 |nil=>intro i acc _;simp[loadCellsFrom]
 |cons v r ih=>
  intro i acc h
  simp only[List.length_cons,loadCellsFrom,og]
  rw[gI (Jg (by simpa using h 0 v rfl))]
  rw[ih (i+1) (acc.push v) (fun j u hu=>by have:=h (j+1) u (by simpa using hu);rw[← this];congr 2;omega)]
  simp
theorem nT {P:Program}{w:World}{b o:Nat}(vs:List Value)(h:∀j v,vs[j]?=some v→w.cell? ⟨b,o+j,none⟩=some v):
  (loadCells ⟨b,o,none⟩ vs.length).run P w=.ok vs.toArray w:=by
 unfold loadCells
 have:=yz (P:=P) vs 0 #[] (by simpa using h)
 simpa using this
def World.cR (w:World)(b:Nat)(vs:Array Value)(ty:TypeId)(fr:Nat×Nat):World:={w with heap:=w.heap.setIfInBounds b (.cells vs ty fr)}
theorem mq {w:World}{b:Nat}{vs:Array Value}{ty:TypeId}{fr:Nat×Nat}(h:w.heap[b]?=some (.cells vs ty fr))(o:Nat)(v:Value):
    w.setCell ⟨b,o,none⟩ v=World.cR w b (vs.setIfInBounds o v) ty fr:=by
  unfold World.setCell World.cR
  congr 1
  apply Array.ext_getElem?
  intro i
  rw[Array.getElem?_modify,Array.getElem?_setIfInBounds]
  by_cases e:b=i
  · subst e
    have hb:b<w.heap.size:=(Array.getElem?_eq_some_iff.1 h).1
    rw[h];simp[hb]
  · simp[e]
theorem gJ {w:World}{b:Nat}(hb:b<w.heap.size)(vs:Array Value)(ty:TypeId)(fr:Nat×Nat):(World.cR w b vs ty fr).heap[b]?=some (.cells vs ty fr):=by
 simp[World.cR,hb]
theorem lg {w:World}{b c:Nat}(h:b≠c)(vs:Array Value)(ty:TypeId)(fr:Nat×Nat):(World.cR w b vs ty fr).heap[c]?=w.heap[c]?:=by
 simp[World.cR,Array.getElem?_setIfInBounds,h]
theorem B4 (w:World)(b:Nat)(vs us:Array Value)(ty ty':TypeId)(fr fr':Nat×Nat):World.cR (World.cR w b vs ty fr) b us ty' fr'=World.cR w b us ty' fr':=by
 simp[World.cR]
theorem qf {w:World}{b:Nat}{vs:Array Value}{ty:TypeId}{fr:Nat×Nat}(h:w.heap[b]?=some (.cells vs ty fr)):World.cR w b vs ty fr=w:=by
  unfold World.cR
  have:w.heap.setIfInBounds b (.cells vs ty fr)=w.heap:=by
    apply Array.ext_getElem?
    intro i
    rw[Array.getElem?_setIfInBounds]
    by_cases e:b=i
    · subst e
      obtain⟨hb,he⟩:=Array.getElem?_eq_some_iff.1 h
      simp[hb,he]
    · simp[e]
  rw[this]
theorem mz (w:World)(b:Nat)(vs:Array Value)(ty:TypeId)(fr:Nat×Nat):(World.cR w b vs ty fr).heap.size=w.heap.size:=by
 simp[World.cR]
def over (vs:List Value)(o:Nat)(xs:List Value):List Value:=vs.take o++xs++vs.drop (o+xs.length)
theorem yA (vs:List Value)(o:Nat):over vs o []=vs:=by simp[over]
theorem Ft {vs:List Value}{o:Nat}{x:Value}{xs:List Value}(h:o+(x::xs).length≤vs.length):over (vs.set o x) (o+1) xs=over vs o (x::xs):=by
  unfold over
  simp only[List.length_cons] at h
  apply List.ext_getElem?
  intro i
  simp only[List.getElem?_append,List.length_append,List.length_take,List.length_set,List.getElem?_take,List.getElem?_drop,List.getElem?_set,List.length_cons]
  have e1:min (o+1) vs.length=o+1:=by omega
  have e2:min o vs.length=o:=by omega
  rw[e1,e2]
  by_cases c1:i<o
  · simp[show i<o+1+xs.length by omega,show i<o+1 by omega,show i<o+(xs.length+1) by omega,c1,show ¬o=i by omega]
  · by_cases c2:i=o
    · subst c2
      simp[show i<i+1+xs.length by omega,show i<vs.length by omega]
    · by_cases c3:i<o+1+xs.length
      · simp[c3,show ¬i<o+1 by omega,show i<o+(xs.length+1) by omega,c1]
        rw[show i - o=(i - (o+1))+1 by omega];simp
      · simp[c3,show ¬i<o+(xs.length+1) by omega]
        rw[if_neg (by omega)]
        congr 1;omega
theorem PY {P:Program}{w:World}{a:Addr}{u v:Value}(ho:one v=true)(h:w.cell? a=some u)(hf:w.frozen? a=false):(store a v).run P w=.ok () (w.setCell a v):=by
 cases v<;>simp_all [store,Sem.run,one]
theorem qg {P:Program}{b o:Nat}{ty:TypeId}{fr:Nat×Nat}(xs:List Value):∀(w:World) (i:Nat) (vs:List Value),(∀x∈xs,one x=true)→w.heap[b]?=some (.cells vs.toArray ty fr)→rS vs.toArray fr→
  o+i+xs.length≤vs.length→(storeCells ⟨b,o,none⟩ xs i).run P w=.ok () (World.cR w b (over vs (o+i) xs).toArray ty fr):=by
 induction xs with
 |nil=>
  intro w i vs _ h _ _
  simp only[storeCells,yA]
  rw[qf h];rfl
 | cons x r ih=>
  intro w i vs ho h ht hl
  have hl':o+i<vs.length:=by simp at hl;omega
  simp only[storeCells,og]
  have hc:w.cell? ⟨b,o+i,none⟩=some vs[o+i]:=by rw[cell_of h];simp[hl']
  have hf:w.frozen? ⟨b,o+i,none⟩=false:=by
   rw[Fs h]
   have:=ht (o+i) (by simpa using hl')
   simp only[Bool.and_eq_false_iff,decide_eq_false_iff_not]
   by_cases h1:fr.1≤o+i
   · right;exact fun h2=>this ⟨h1,h2⟩
   · left;exact h1
  rw[gI (PY (ho x List.mem_cons_self) hc hf),mq h]
  have hb:b<w.heap.size:=(Array.getElem?_eq_some_iff.1 h).1
  have ajn:vs.toArray.setIfInBounds (o+i) x=(vs.set (o+i) x).toArray:=by simp
  rw[ajn,ih _ (i+1) (vs.set (o+i) x) (fun y hy=>ho y (List.mem_cons_of_mem _ hy)) (gJ hb _ _ _) (by simpa [rS] using ht) (by simp at hl ⊢;omega)]
  rw[B4,← Nat.add_assoc,Ft (by simpa [Nat.add_assoc] using hl)]
theorem jD {P:Program}{w:World}(elem:TypeId)(cells:Array Value):(newRow elem cells).run P w=.ok ⟨w.heap.size,0,none⟩ {w with heap:=w.heap.push (.cells cells elem)}:=by
 rfl
theorem bF {P:lI}{t:TypeId}{ti:TI}(h:bn P t=some ti):
  ∃i,P.prog.info? t=some i∧P.prog.underlying t=some ti.desc∧i.size=ti.size∧i.bytes=ti.bytes∧i.zero.bind valOf=ti.zero∧ti.agg=(match ti.desc with|.struct _|.array _ _=>true|_=>false):=by
 have h:=P.aey _ _ h
 unfold RO at h
 cases h1:P.prog.info? t<;>cases h2:P.prog.underlying t<;>simp[h1,h2] at h
 subst h
 exact⟨_,rfl,rfl,rfl,rfl,rfl,rfl⟩
theorem aM {P:Program}{t:TypeId}{d:TypeDesc}(h:P.underlying t=some d)(w:World):(underlying t).run P w=.ok d w:=by
 unfold underlying program
 simp only[bind,Sem.bind,Sem.run,h]
 rfl
theorem pG {P:Program}{t:TypeId}{i:TypeInfo}(h:P.info? t=some i)(w:World):(typeInfo t).run P w=.ok i w:=by
 unfold typeInfo program
 simp only[bind,Sem.bind,Sem.run,h]
 rfl
theorem eS {P:lI}{t:TypeId}{ti:TI}(h:bn P t=some ti)(w:World):(sizeOf t).run P w=.ok ti.size w:=by
 obtain⟨i,hi,_,hs,_⟩:=bF h
 unfold sizeOf
 rw[gI (pG hi w),hs];rfl
theorem Fu {P:lI}{t:TypeId}{ti:TI}(h:bn P t=some ti)(w:World):(isAgg t).run P w=.ok ti.agg w:=by
 obtain⟨i,hi,hu,_,_,_,ha⟩:=bF h
 unfold isAgg
 rw[gI (aM hu w),ha]
 cases ti.desc<;>rfl
theorem gG {P:lI}{t:TypeId}{ti:TI}{z:TV}(h:bn P t=some ti)(hz:ti.zero=some z)(w:World)(G:Gh):∃v,(zeroValue t).run P w=.ok v w∧VR G z v:=by
 obtain⟨i,hi,_,_,_,h0,_⟩:=bF h
 rw[hz] at h0
 cases hv:i.zero with
 |none=>rw[hv] at h0;simp at h0
 |some v=>
  rw[hv] at h0
  simp only[Option.bind_some] at h0
  refine⟨v, ?_,uX h0⟩
  unfold zeroValue
  rw[gI (pG hi w),hv];rfl
theorem PZ {v:Value}{x:TV}(h:xe v=some x):x≠ .any:=by
 rintro rfl
 unfold xe at h
 split at h<;>simp at h
theorem RV (l:List TV):uS l≠ .any:=by
 unfold uS
 split<;>simp
theorem RW (l:List TV):q8 l≠ .any:=by
 unfold q8
 split<;>simp
theorem RX {v:Value}{x:TV}(h:valOf v=some x):x≠ .any:=by
  unfold valOf at h
  split at h
  · split at h<;>simp at h
    subst h
    exact RV _
  · split at h<;>simp at h
    subst h
    exact RW _
  · exact PZ h
theorem s8 {P:lI}{t:TypeId}{ti:TI}{z:TV}(h:bn P t=some ti)(hz:ti.zero=some z):z≠ .any:=by
 obtain⟨i,hi,_,_,_,h0,_⟩:=bF h
 rw[hz] at h0
 cases hv:i.zero with
 |none=>rw[hv] at h0;simp at h0
 |some v=>
  rw[hv] at h0
  simp only[Option.bind_some] at h0
  exact RX h0
theorem Cm {x:TV}(h:x.cells.all TV.leaf=true):x≠ .any:=by
 rintro rfl
 simp[TV.cells,TV.leaf] at h
end Go.Abs

namespace Go.Abs
open Go
def jV (C:dI)(G:Gh):Prop:=∀g cs,C.jA g=some cs→∃vals:Nat→Value,(∀(j:Nat) c,cs[j]?=some c→G.F g (0+j)=some (vals j))∧∀(j:Nat) c,cs[j]?=some c→VT G.F c (vals j)
theorem jV.mono {C:dI}{G G':Gh}(h:jV C G)(hG:G.le G'):jV C G':=fun g cs hg=>
 let⟨vals,h1,h2⟩:=h g cs hg
 ⟨vals,fun j c hc=>hG.F _ _ _ (h1 j c hc),fun j c hc=>(h2 j c hc).mono hG.F⟩
def SR (G:Gh)(slots:List TV)(a:Act):Prop:=cZ G slots a.tmps.toList
theorem oh (G:Gh):VR G cz undef:=.t _ _ (.bX [] [] rfl (by simp))
theorem SR.getD {G:Gh}{slots:List TV}{a:Act}(h:SR G slots a)(t:Nat):VR G (slots.getD t cz) (a.tmps.getD t undef):=by
  by_cases ht:t<slots.length
  · have ht':t<a.tmps.size:=by have:=h.1;simp at this;omega
    have e1:slots[t]?=some slots[t]:=List.getElem?_eq_getElem ht
    have e2:a.tmps.toList[t]?=some a.tmps[t]:=by simp[ht']
    have:=h.2 t _ _ e1 e2
    simpa [List.getD,e1,ht'] using this
  · have ht':¬t<a.tmps.size:=by have:=h.1;simp at this;omega
    have e1:slots[t]?=none:=List.getElem?_eq_none (by omega)
    simpa [List.getD,e1,ht'] using oh G
theorem bS {C:dI}{G:Gh}{slots:List TV}{a:Act}(hs:SR G slots a)(hg:jV C G){x:Operand}{v:TV}(h:dB C slots x=some v):VR G v (a.eval x):=by
 cases x with
 |tmp t=>simp[dB,GN] at h;subst h;exact hs.getD t
 |const c=>exact uX h
 |global g=>
  simp only[dB] at h
  cases hc:C.jA g<;>simp[hc] at h
  subst h
  obtain⟨vals,h1,h2⟩:=hg g _ hc
  exact .kD _ 0 g 0 vals h1 h2
 |func f=>simp[dB] at h;subst h;exact .t _ _ (.fn _)
theorem wq {C:dI}{G:Gh}{slots:List TV}{a:Act}(hs:SR G slots a)(hg:jV C G){xs:List Operand}{vs:List TV}(h:j4 C slots xs=some vs):cZ G vs (xs.map a.eval):=by
 induction xs generalizing vs with
 |nil=>simp[j4] at h;subst h;exact cZ.nil G
 |cons x r ih=>
  simp only[j4] at h
  cases h1:dB C slots x<;>cases h2:j4 C slots r<;>simp[h1,h2] at h
  subst h
  exact cZ.cons (bS hs hg h1) (ih h2)
def dD (P:Program)(nm:Nm)(o:Oper)(a:Act)(w:World)(G:Gh)(v:TV)(u:List (Nm×aV)):Prop:=
 ∃x w' G',((execOp a.eval o).run P w=.ok (.value x) w'∨((execOp a.eval o).run P w=.ok .skip w'∧x=undef))∧Step (fun k=>k∈u.map (·.1)) (fun k=>k=nm) G w G' w'∧
  (∀k ob,(k,ob)∈u→G'.dom k∧OR G' w' k ob)∧VR G' v x
theorem dD.gK {P:Program}{nm:Nm}{o:Oper}{a:Act}{w w':World}{G G':Gh}{v:TV}{u:List (Nm×aV)}{x:Value}
  (hr:(execOp a.eval o).run P w=.ok (.value x) w')(hs:Step (fun k=>k∈u.map (·.1)) (fun k=>k=nm) G w G' w')
  (hu:∀k ob,(k,ob)∈u→G'.dom k∧OR G' w' k ob)(hv:VR G' v x):dD P nm o a w G v u:=
 ⟨x,w',G',.inl hr,hs,hu,hv⟩
theorem dD.Cn {P:Program}{nm:Nm}{o:Oper}{a:Act}{w w':World}{G G':Gh}{u:List (Nm×aV)}
  (hr:(execOp a.eval o).run P w=.ok .skip w')(hs:Step (fun k=>k∈u.map (·.1)) (fun k=>k=nm) G w G' w')
  (hu:∀k ob,(k,ob)∈u→G'.dom k∧OR G' w' k ob):dD P nm o a w G cz u:=
 ⟨undef,w',G',.inr ⟨hr,rfl⟩,hs,hu,oh G'⟩
theorem dD.quiet {P:Program}{nm:Nm}{o:Oper}{a:Act}{w:World}{G:Gh}{v:TV}{x:Value}(hw:WF G w)
  (hr:(execOp a.eval o).run P w=.ok (.value x) w)(hv:VR G v x):dD P nm o a w G v []:=
 dD.gK hr (Step.refl hw _ _) (fun _ _ h=>by simp at h) hv
theorem VR.bool {G:Gh}{b:Bool}{v:Value}(h:VR G (.t (.bool b)) v):v=.bool b:=by cases h with|t _ _ h=>cases h;rfl
theorem VR.int {G:Gh}{k:IntKind}{n:Int}{v:Value}(h:VR G (.t (.int k n)) v):v=.int k n:=by cases h with|t _ _ h=>cases h;rfl
theorem VR.str {G:Gh}{s:List UInt8}{v:Value}(h:VR G (.t (.str s)) v):v=.string ⟨s.toArray⟩:=by cases h with|t _ _ h=>cases h;rfl
theorem bytesLess_eq:∀(a b:List UInt8),Op.bytesLess a b=jw a b
 |_,[]=>by cases ‹List UInt8›<;>rfl
 | [],_::_=>rfl
 |a::x,b::y=>by simp only[Op.bytesLess,jw,bytesLess_eq x y]
theorem toList_mk (s:List UInt8):(ByteArray.mk s.toArray).toList=s:=by
 rw[Go.ByteArray.toList_eq]
theorem RY {P:Program}{G:Gh}{op:BinOp}{s u:List UInt8}{v:TV}(h:Xz op s u=some v)(w:World):
    ∃x,(Op.stringOp op ⟨s.toArray⟩ ⟨u.toArray⟩).run P w=.ok x w∧VR G v x:=by
  cases op<;>simp only[Xz] at h<;>(try (simp at h;done))<;>
    simp only[Op.stringOp,toList_mk,bytesLess_eq]
  case add=>
    split at h
    · rename_i hle
      simp at h;subst h
      rw[if_neg]
      · refine⟨_,rfl, ?_⟩
        have e:(ByteArray.mk s.toArray++ByteArray.mk u.toArray)=⟨(s++u).toArray⟩:=by
          apply Go.WideShapes.bytes_inj
          simp
        rw[e];exact .t _ _ (.str _)
      · have e:IntKind.i64.max=9223372036854775807:=by decide
        rw[e]
        simp only[ByteArray.size,RQ,List.size_toArray] at hle ⊢
        omega
    · simp at h
  all_goals
    simp only[Option.some.injEq] at h;subst h
    exact⟨_,rfl,.t _ _ (.bool _)⟩
section quiet
variable {C:dI}{f:FuncId}{nm:Nm}{H:Heap}{slots:List TV}{o:Oper}{a:Act}{w:World}{G:Gh}{v:TV}{u:List (Nm×aV)}
theorem iE {x:Option TV}(h:xq x=some (v,u)):x=some v∧u=[]:=by
 cases x<;>simp[xq] at h
 exact⟨by rw[h.1],h.2⟩
theorem u6 {op:BinOp}{t:TypeId}{x y:Operand}{b c:TV}{p q:Value}(hb:VR G b p)(hc:VR G c q)(h:yj C.P op t x y b c=some v):
  ∃r,(do eqGuard op t x y p q;binOp op t p q:Sem Value).run C.P w=.ok r w∧VR G v r:=by
 unfold yj at h
 cases h1:kV b<;>cases h2:kV c<;>simp[h1,h2] at h
 rename_i p' q'
 have e1:=mo h1 hb
 have e2:=mo h2 hc
 subst e1;subst e2
 cases h3:kE C.P (do eqGuard op t x y p q;binOp op t p q)<;>simp[h3] at h
 exact⟨_,oe h3 w,uX h⟩
theorem rz {op:BinOp}{t:TypeId}{x y:Operand}{p q:Value}(h:∀z,q≠ .agg z)(h':q≠ .nilIface):eqGuard op t x y p q=pure ():=by
 unfold eqGuard
 cases q<;>first
  |(exact absurd rfl (h _))
  |(exact absurd rfl h')
  |(cases op<;>cases p<;>rfl)
theorem fM {t:TypeId}{x y:Operand}{p q:Value}{r:Bool}(hq:∀z,q≠ .agg z)(hq':q≠ .nilIface)(hp1:binOp .eql t p q=do pure (.bool (← Op.equal t p q)))(hp2:binOp .neq t p q=do pure (.bool (!(← Op.equal t p q))))
    (he:(Op.equalIn (9999+1) t p q).run C.P w=.ok r w):
    (do eqGuard .eql t x y p q;binOp .eql t p q:Sem Value).run C.P w=.ok (.bool r) w∧(do eqGuard .neq t x y p q;binOp .neq t p q:Sem Value).run C.P w=.ok (.bool (!r)) w:=by
  have he:(Op.equal t p q).run C.P w=.ok r w:=he
  rw[rz hq hq',rz hq hq',hp1,hp2]
  constructor
  · show(Sem.bind (Op.equal t p q) _).run C.P w=_
    rw[uZ he];rfl
  · show(Sem.bind (Op.equal t p q) _).run C.P w=_
    rw[uZ he];rfl
section eqs
variable {t e k:TypeId}{ps rs:Array TypeId}{va:Bool}{d:Nat}
theorem yB (hu:C.P.prog.underlying t=some (.slice e))(b:Option Addr)(n m l c:Nat):(Op.equalIn (d+1) t (.slice b n m) (.slice none l c)).run C.P w=.ok b.isNone w:=by
 simp only[Op.equalIn];rw[gI (aM hu w)];cases b<;>rfl
theorem Fv (hu:C.P.prog.underlying t=some (.map k e))(b:Option Nat):(Op.equalIn (d+1) t (.map b) (.map none)).run C.P w=.ok b.isNone w:=by
 simp only[Op.equalIn];rw[gI (aM hu w)];cases b<;>rfl
theorem RZ (hu:C.P.prog.underlying t=some (.func ps rs va)):(Op.equalIn (d+1) t .nilFunc .nilFunc).run C.P w=.ok true w:=by
 simp only[Op.equalIn];rw[gI (aM hu w)];rfl
theorem Jh (hu:C.P.prog.underlying t=some (.func ps rs va))(f:Fn)(a b:Array Value):(Op.equalIn (d+1) t (.func f a b) .nilFunc).run C.P w=.ok false w:=by
 simp only[Op.equalIn];rw[gI (aM hu w)];rfl
theorem AO (hu:C.P.prog.underlying t=some (.pointer e))(b:Option Addr):(Op.equalIn (d+1) t (.pointer b) (.pointer none)).run C.P w=.ok b.isNone w:=by
 simp only[Op.equalIn];rw[gI (aM hu w)];cases b<;>rfl
end eqs
theorem Fw {t:TypeId}{x y:Operand}{b c:TV}{p q:Value}{ti:TI}{r:Bool}(ht:bn C.P t=some ti)(hb:VR G b p)(hc:VR G c q)(h:Fm ti.desc b c=some r)(w:World):
    (do eqGuard .eql t x y p q;binOp .eql t p q:Sem Value).run C.P w=.ok (.bool r) w∧(do eqGuard .neq t x y p q;binOp .neq t p q:Sem Value).run C.P w=.ok (.bool (!r)) w:=by
  obtain⟨i,hi,hu,_⟩:=bF ht
  unfold Fm at h
  split at h<;>simp only[Option.some.injEq,reduceCtorEq] at h<;>subst h<;>rename_i hd<;>rw[hd] at hu
  · cases hb;cases hc
    exact fM (by intro z;simp) (by simp) rfl rfl (yB hu none 0 0 0 0)
  · cases hb with|t _ _ hb=>cases hb with|sl=>cases hc;exact fM (by intro z;simp) (by simp) rfl rfl (yB hu (some _) _ _ 0 0)
  · cases hb with|l7 _ _ hb=>cases hb with|sl=>cases hc;exact fM (by intro z;simp) (by simp) rfl rfl (yB hu (some _) _ _ 0 0)
  · cases hb with|t _ _ hb=>cases hb;cases hc with|t _ _ hc=>cases hc;exact fM (by intro z;simp) (by simp) rfl rfl (Fv hu none)
  · cases hb;cases hc with|t _ _ hc=>cases hc;exact fM (by intro z;simp) (by simp) rfl rfl (Fv hu (some _))
  · cases hb with|t _ _ hb=>cases hb;cases hc with|t _ _ hc=>cases hc;exact fM (by intro z;simp) (by simp) rfl rfl (RZ hu)
  · cases hb;cases hc with|t _ _ hc=>cases hc;exact fM (by intro z;simp) (by simp) rfl rfl (Jh hu _ _ _)
  · cases hb with|t _ _ hb=>cases hb;cases hc with|t _ _ hc=>cases hc;exact fM (by intro z;simp) (by simp) rfl rfl (Jh hu _ _ _)
  · cases hb with|t _ _ hb=>cases hb;cases hc with|t _ _ hc=>cases hc;exact fM (by intro z;simp) (by simp) rfl rfl (AO hu none)
  · cases hb;cases hc with|t _ _ hc=>cases hc;exact fM (by intro z;simp) (by simp) rfl rfl (AO hu (some _))
  · cases hb;cases hc with|t _ _ hc=>cases hc;exact fM (by intro z;simp) (by simp) rfl rfl (AO hu (some _))
end quiet
end Go.Abs

namespace Go.Abs
open Go
section
variable {C:dI}{f:FuncId}{nm:Nm}{H:Heap}{slots:List TV}{a:Act}{w:World}{G:Gh}{v:TV}
theorem R4 {P:Program}{op:BinOp}{k:IntKind}{n m:Int}(h:PV op k n m=some v)(t:TypeId)(w:World):
    ∃r,(binOp op t (.int k n) (.int k m)).run P w=.ok r w∧VR G v r:=by
  cases op<;>simp only[PV] at h<;>first
    |(simp at h;done)
    |(simp only[Option.some.injEq] at h;subst h;exact⟨_,by simp[binOp,Op.intArith,Op.intCmp]<;>rfl,.t _ _ (by first|exact .int _ _|exact .bool _)⟩)
    |( split at h
       · simp at h
       · rename_i h0
         simp only[Option.some.injEq] at h;subst h;exact⟨_,by simp[binOp,Op.intDiv,h0]<;>rfl,.t _ _ (.int _ _)⟩)
theorem R5 {op:BinOp}{t:TypeId}{x y:Operand}{b c:TV}{p q:Value}(hb:VR G b p)(hc:VR G c q)(h:GL C.P op t x y b c=some v)(w:World):
    ∃r,(do eqGuard op t x y p q;binOp op t p q:Sem Value).run C.P w=.ok r w∧VR G v r:=by
  unfold GL at h
  split at h
  · rename_i s u
    have e1:=hb.str
    have e2:=hc.str
    subst e1;subst e2
    obtain⟨r,h1,h2⟩:=RY h w (P:=C.P) (G:=G)
    refine⟨r, ?_,h2⟩
    rw[rz (by intro z;simp) (by simp)]
    cases op<;>first|exact h1|(simp[Xz] at h)
  · rename_i k n k' m
    split at h
    case isFalse=>exact u6 hb hc h
    rename_i hk
    subst hk
    split at h
    · rename_i v' hv
      simp only[Option.some.injEq] at h
      subst h
      have e1:=hb.int
      have e2:=hc.int
      subst e1;subst e2
      obtain⟨r,h1,h2⟩:=R4 (P:=C.P) (G:=G) hv t w
      refine⟨r, ?_,h2⟩
      rw[rz (by intro z;simp) (by simp)]
      exact h1
    · exact u6 hb hc h
  · split at h
    · split at h
      · rename_i ti ht
        cases hn:Fm ti.desc b c<;>simp[hn] at h
        subst h
        exact⟨_,(Fw ht hb hc hn w).1,.t _ _ (.bool _)⟩
      · rename_i ti ht
        cases hn:Fm ti.desc b c<;>simp[hn] at h
        subst h
        exact⟨_,(Fw ht hb hc hn w).2,.t _ _ (.bool _)⟩
      · simp at h
    · exact u6 hb hc h
theorem XE {op:UnOp}{b:TV}{p:Value}(hb:VR G b p)(h:unT C.P op b=some v)(w:World):∃r,(Op.unary op p).run C.P w=.ok r w∧VR G v r:=by
 unfold unT at h
 cases h1:kV b<;>simp[h1] at h
 have e:=mo h1 hb
 subst e
 cases h2:kE C.P (Op.unary op p)<;>simp[h2] at h
 exact⟨_,oe h2 w,uX h⟩
theorem BA {p:TV}{x:Value}{cs:List TV}{off:Nat}(hH:HR G w H)(hw:WF G w)(hp:VR G p x)(h:s6 H p=some (cs,off)):
    ∃b o vs,x=.pointer (some ⟨b,o+off,none⟩)∧cZ G cs vs∧∀(j:Nat) u,vs[j]?=some u→w.cell? ⟨b,o+j,none⟩=some u:=by
  unfold s6 at h
  split at h
  · rename_i k o
    split at h<;>simp at h
    rename_i cs' hk
    obtain⟨rfl,rfl⟩:=h
    obtain⟨hd,ha,vs,ty,fr,hh,ht,hv,hf⟩:=hH k _ hk
    cases hp with|ptr _ _ _ _=>
      refine⟨G.mu k,0,vs.toList,by simp,hv,fun j u hu=> ?_⟩
      rw[cell_of hh];simpa using hu
  · rename_i k n o
    split at h
    · rename_i g b8 fz cs' hk
      split at h<;>simp at h
      rename_i hn
      obtain⟨rfl,rfl⟩:=h
      obtain⟨hd,he,cap,vs,ty,fr,ha,hh,ht,hs,hl,hv,hf⟩:=hH k _ hk
      cases hp with|kR _ _ _ n' R6 cap' _ hd' ha' hle ho hv'=>
        rw[ha] at ha'
        simp at ha'
        obtain⟨e1,e2,e3⟩:=ha'
        have hx:=hv' (by omega)
        refine⟨G.mu k,0,vs.toList.take cs'.length,by simpa using hx,hv,fun j u hu=> ?_⟩
        rw[cell_of hh]
        rw[List.getElem?_take] at hu
        split at hu
        · simpa using hu
        · simp at hu
    · simp at h
  · rename_i cs' o
    simp at h
    obtain⟨rfl,rfl⟩:=h
    cases hp with|kD _ _ b o' vals hF hv=>
      refine⟨b,o',(List.range cs'.length).map vals,rfl,⟨by simp,fun j c u hc hu=> ?_⟩,fun j u hu=> ?_⟩
      · rw[List.getElem?_map] at hc hu
        cases hj:cs'[j]? with
        |none=>rw[hj] at hc;simp at hc
        | some t=>
          rw[hj] at hc;simp at hc;subst hc
          have hlt:j<cs'.length:=(List.getElem?_eq_some_iff.1 hj).1
          simp[hlt] at hu
          subst hu
          exact .t _ _ (hv j t hj)
      · rw[List.getElem?_map] at hu
        by_cases hlt:j<cs'.length
        · simp[hlt] at hu
          subst hu
          obtain⟨vs,ty,fr,h1,h2⟩:=hw.F _ _ _ (hF j cs'[j] (List.getElem?_eq_getElem hlt))
          rw[cell_of h1];exact h2
        · rw[List.getElem?_eq_none (by simpa using hlt)] at hu;simp at hu
  · simp at h
theorem CP {t:TypeId}{ti:TI}{cs:List TV}{vs:List Value}{b o off:Nat}(ht:bn C.P t=some ti)(hv:cZ G cs vs)(hc:∀(j:Nat) u,vs[j]?=some u→w.cell? ⟨b,o+j,none⟩=some u)
    (h:partT ti.agg ti.size cs off=some v):∃r,(loadVar t ⟨b,o+off,none⟩).run C.P w=.ok r w∧VR G v r:=by
  unfold partT at h
  unfold loadVar
  rw[gI (Fu ht w)]
  cases hag:ti.agg<;>rw[hag] at h<;>simp only[Bool.false_eq_true,if_true,if_false] at h ⊢
  · obtain⟨u,hu,hvu⟩:=hv.at h
    refine⟨u, ?_,hvu⟩
    exact Jg (hc off u hu)
  · split at h<;>simp at h
    rename_i hle
    subst h
    have hlen:((vs.drop off).take ti.size).length=ti.size:=by have:=hv.1;simp;omega
    refine⟨.agg ((vs.drop off).take ti.size).toArray, ?_,uW ((hv.drop off).take ti.size)⟩
    rw[gI (eS ht w)]
    have hl:=nT (P:=C.P) (w:=w) (b:=b) (o:=o+off) ((vs.drop off).take ti.size) (fun j u hu=>by
      rw[List.getElem?_take] at hu
      split at hu
      · rw[List.getElem?_drop] at hu
        rw[Nat.add_assoc];exact hc _ u hu
      · simp at hu)
    rw[hlen] at hl
    rw[gI hl];rfl
theorem P0 {t:TypeId}{p:TV}{x:Value}(hH:HR G w H)(hw:WF G w)(hp:VR G p x)(h:loadT C.P H t p=some v):∃r,(Instr.loadAt t x).run C.P w=.ok r w∧VR G v r:=by
 unfold loadT at h
 cases ht:bn C.P t<;>cases hc:s6 H p<;>simp[ht,hc] at h
 rename_i ti co
 obtain⟨cs,off⟩:=co
 obtain⟨b,o,vs,rfl,hv,hcell⟩:=BA hH hw hp hc
 exact CP ht hv hcell h
theorem CQ {t:TypeId}{ti:TI}{cs:List TV}{vs:List Value}{off:Nat}(ht:bn C.P t=some ti)(hv:cZ G cs vs)
    (h:partT ti.agg ti.size cs off=some v)(w:World):∃r,(part t vs.toArray off).run C.P w=.ok r w∧VR G v r:=by
  unfold partT at h
  unfold part
  rw[gI (Fu ht w)]
  cases hag:ti.agg<;>rw[hag] at h<;>simp only[Bool.false_eq_true,if_true,if_false] at h ⊢
  · obtain⟨u,hu,hvu⟩:=hv.at h
    refine⟨u, ?_,hvu⟩
    have:vs.toArray[off]?=some u:=by simpa using hu
    rw[this];rfl
  · split at h<;>simp at h
    rename_i hle
    subst h
    refine⟨.agg ((vs.drop off).take ti.size).toArray, ?_,uW ((hv.drop off).take ti.size)⟩
    rw[gI (eS ht w)]
    have:vs.toArray.extract off (off+ti.size)=((vs.drop off).take ti.size).toArray:=by
      simp[List.extract_eq_take_drop]
    rw[this];rfl
theorem VR.R7 {p:TV}{x:Value}(hp:VR G p x)(hx:AH p=true):∃vs:List Value,x=.agg vs.toArray∧cZ G p.cells vs:=by
 cases hp with
 |t y v h=>
  cases h with
  |agg cs vs hl h=>exact⟨vs,rfl,B3.Je ⟨hl,h⟩⟩
  |_=>simp[AH] at hx
 |agg cs vs hl h=>exact⟨vs,rfl,hl,h⟩
 |_=>simp[AH] at hx
theorem Fx {p:TV}{x:Value}{n:Nat}(hH:HR G w H)(hp:VR G p x)(h:p8 H p n=some v):
    ∃b o,x=.pointer (some ⟨b,o,none⟩)∧VR G v (.pointer (some ⟨b,o+n,none⟩)):=by
  unfold p8 at h
  split at h
  · simp at h;subst h
    cases hp with|ptr k o hd hn=>exact⟨_,_,rfl,.ptr _ _ hd hn⟩
  · rename_i k m o
    split at h
    · rename_i g b8 fz cs hk
      split at h<;>simp at h
      rename_i hm
      subst h
      obtain⟨hd,he,cap,vs,ty,fr,ha,hh,ht,hs,hl,hv,hf⟩:=hH k _ hk
      cases hp with|kR _ _ _ n' R6 cap' _ hd' ha' hle ho hv'=>
        rw[ha] at ha'
        simp at ha'
        obtain⟨e1,e2,e3⟩:=ha'
        have hx:=hv' (by omega)
        exact⟨_,_,hx,.kR k m _ cs.length b8 cap _ hd ha (by omega) ⟨_,rfl⟩ (fun _=>rfl)⟩
    · simp at h
  · simp at h;subst h
    cases hp with|kD cs o b o' vals hF hv=>exact⟨b,_,rfl,by rw[Nat.add_assoc];exact .kD _ _ b o' vals hF hv⟩
  · simp at h
theorem CR {fd:Field}{ti:TI}{b o:Nat}(ht:bn C.P fd.type=some ti)(hs:ti.size≠0)(w:World):(fieldPlace ⟨b,o,none⟩ fd).run C.P w=.ok ⟨b,o+fd.offset,none⟩ w:=by
 unfold fieldPlace
 rw[gI (eS ht w),if_neg hs,og];rfl
theorem EZ {s:TypeId}{x:Value}{p:TV}{i:Nat}{ti tf:TI}{fs:Array Field}{fd:Field}(hH:HR G w H)(hp:VR G p x)(ht:bn C.P s=some ti)(hd:ti.desc=.struct fs)(hi:fs[i]?=some fd)
  (R8:bn C.P fd.type=some tf)(hs:tf.size≠0)(h:p8 H p fd.offset=some v):∃r,(Instr.fieldAt s x i).run C.P w=.ok r w∧VR G v r:=by
 obtain⟨b,o,rfl,hv⟩:=Fx hH hp h
 refine⟨_, ?_,hv⟩
 obtain⟨_,_,hu,_⟩:=bF ht
 rw[hd] at hu
 simp[Instr.fieldAt,aM hu w,hi,Instr.sureAddr,CR R8 hs w]
theorem P3 {t:TypeId}{x:Value}{p:TV}{i:Nat}{ti tf:TI}{fs:Array Field}{fd:Field}(hp:VR G p x)(ht:bn C.P t=some ti)(hd:ti.desc=.struct fs)(hi:fs[i]?=some fd)
  (R8:bn C.P fd.type=some tf)(hagg:AH p=true)(h:partT tf.agg tf.size p.cells fd.offset=some v)(w:World):∃r,(Instr.field t x i).run C.P w=.ok r w∧VR G v r:=by
 obtain⟨vs,rfl,hv⟩:=hp.R7 hagg
 obtain⟨r,h1,h2⟩:=CQ R8 hv h w
 refine⟨r, ?_,h2⟩
 obtain⟨_,_,hu,_⟩:=bF ht
 rw[hd] at hu
 simp[Instr.field,aM hu w,hi,asAgg,h1]
theorem qh {p:TV}{x:Value}{n:Nat}(hp:VR G p x)(h:fU p=some n):∃k,x=.int k (n:Int):=by
  unfold fU at h
  split at h
  · rename_i k m
    split at h<;>simp at h
    subst h
    have:=hp.int
    subst this
    exact⟨k,by rw[Int.toNat_of_nonneg (by assumption)]⟩
  · simp at h
theorem P4 {t:TypeId}{x y:Value}{p q:TV}(hp:VR G p x)(hq:VR G q y)(h:p9 C.P t p q=some v)(w:World):∃r,(Instr.index t x y).run C.P w=.ok r w∧VR G v r:=by
  unfold p9 at h
  cases ht:bn C.P t<;>cases hi:fU q<;>simp only[ht,hi,reduceCtorEq] at h
  rename_i ti i
  obtain⟨k,rfl⟩:=qh hq hi
  obtain⟨_,_,hu,_⟩:=bF ht
  split at h
  · rename_i s hd
    have:=hp.str
    subst this
    rw[hd] at hu
    cases hb:s[i]? <;>simp[hb] at h
    subst h
    refine⟨_, ?_,.t _ _ (.int _ _)⟩
    have hs:(ByteArray.mk s.toArray)[i]?=some ‹UInt8›:=by
      obtain⟨h1,h2⟩:=List.getElem?_eq_some_iff.1 hb
      rw[getElem?_pos _ _ (by simpa [ByteArray.size] using h1)]
      have e:(ByteArray.mk s.toArray)[i]'(by simpa [ByteArray.size] using h1)=s[i]:=rfl
      rw[e,h2]
    simp[Instr.index,asIntOf,aM hu w,hs]
  · rename_i len elem hd
    cases hte:bn C.P elem<;>simp only[hte,reduceCtorEq] at h
    rename_i te
    split at h
    · rename_i hc
      obtain⟨h1,h2,h3⟩:=hc
      obtain⟨vs,rfl,hv⟩:=hp.R7 h3
      obtain⟨r,h4,h5⟩:=CQ hte hv h w
      refine⟨r, ?_,h5⟩
      rw[hd] at hu
      simp[Instr.index,asIntOf,aM hu w,h1,eS hte w,h4]
    · simp at h
  · simp at h
theorem Ji {x:Value}{p:TV}{i:Nat}(hp:VR G p x)(h:yo p i=some v)(w:World):∃r,(Instr.extract x i).run C.P w=.ok r w∧VR G v r:=by
  unfold yo at h
  split at h
  · cases hp with|bX _ vs hl hh=>
      obtain⟨u,h1,h2⟩:=cZ.at ⟨hl,hh⟩ h
      refine⟨u, ?_,h2⟩
      have:vs.toArray[i]?=some u:=by simpa using h1
      simp[Instr.extract,this]
  · rename_i cs
    cases hp with|t _ _ ht=>cases ht with|bX _ vs hl hh=>
      obtain⟨u,h1,h2⟩:=cZ.at (B3.Je (G:=G) ⟨hl,hh⟩) (by simpa using h)
      refine⟨u, ?_,h2⟩
      have:vs.toArray[i]?=some u:=by simpa using h1
      simp[Instr.extract,this]
  · simp at h
theorem LV {x:Value}{p:TV}{xt t:TypeId}{ok:Bool}(hp:VR G p x)(h:GM C.P p t ok=some v)(w:World):∃r,(Instr.typeAssert x xt t ok).run C.P w=.ok r w∧VR G v r:=by
  unfold GM at h
  cases ht:bn C.P t<;>simp only[ht,reduceCtorEq] at h
  rename_i ta
  obtain⟨_,_,hu,_⟩:=bF ht
  have hx:∀t' v',(match p with|.iface t v=>some (t,v)|.t (.iface t v)=>some (t,.t v)|_=>none)=some (t',v')→∃y,x=.iface t' y∧VR G v' y:=by
    intro t' v' he
    split at he<;>simp at he
    · obtain⟨rfl,rfl⟩:=he
      cases hp with|iface _ _ y hy=>exact⟨y,rfl,hy⟩
    · obtain⟨rfl,rfl⟩:=he
      cases hp with|t _ _ hy=>cases hy with|iface _ _ y hy=>exact⟨y,rfl,.t _ _ hy⟩
  split at h
  · simp at h
  · rename_i t' v' he hni
    obtain⟨y,rfl,hy⟩:=hx t' v' he
    split at h
    · rename_i R9
      subst R9
      simp at h
      subst h
      refine⟨if ok then .tuple #[y,.bool true] else y, ?_, ?_⟩
      · unfold Instr.typeAssert
        rw[gI (aM hu w)]
        cases hdd:ta.desc<;>first
          |(exact absurd hdd (hni _))
          |(cases ok<;>simp)
      · cases ok
        · exact hy
        · exact mh (cZ.cons hy (cZ.one (.t _ _ (.bool true))))
    · rename_i R9
      split at h
      · rename_i hok
        subst hok
        cases hz:ta.zero<;>simp[hz] at h
        subst h
        obtain⟨z,hz1,NZ⟩:=gG ht hz w G
        refine⟨.tuple #[z,.bool false], ?_,mh (cZ.cons NZ (cZ.one (.t _ _ (.bool false))))⟩
        unfold Instr.typeAssert
        rw[gI (aM hu w)]
        cases hdd:ta.desc<;>first
          |(exact absurd hdd (hni _))
          |simp[R9,hz1]
      · simp at h
  · simp at h
def sure:Value→Prop
 |.pointer (some _)=>True
 |.func (.func _) _ _=>True
 |_=>False
theorem Jj {x:Value}{p:TV}(hp:VR G p x)(h:Fo p=true):sure x:=by
 unfold Fo at h
 split at h<;>simp at h
 · cases hp;trivial
 · cases hp with|kR _ _ _ _ _ _ _ _ _ _ ho _=>obtain⟨_,rfl⟩:=ho;trivial
 · cases hp;trivial
 · cases hp with|t _ _ hp=>cases hp;trivial
 · cases hp;trivial
end
end Go.Abs

namespace Go.Abs
open Go
theorem Tree.CS {x:Tree}(h:x.leaf=true):x.cells=[x]:=by cases x<;>simp_all [Tree.leaf,Tree.cells]
theorem s9 {g:Bool}{size:Nat}:∀{n:Nat} {cs es:List Tree},chunk g size n cs=some es→es.length=n∧flat es=cs∧∀e∈es,e.cells.length=size:=by
  intro n
  induction n with
  | zero=>
    intro cs es h
    simp only[chunk] at h
    split at h<;>simp at h
    rename_i hc
    subst h
    simp at hc
    subst hc
    simp[flat]
  | succ n ih =>
    intro cs es h
    simp only[chunk] at h
    split at h
    · rename_i hle
      cases hr:chunk g size n (cs.drop size) with
      |none=>rw[hr] at h;simp at h
      | some r=>
        rw[hr] at h
        simp only at h
        obtain⟨h1,h2,h3⟩:=ih hr
        split at h
        · simp at h;subst h
          refine⟨by simp[h1], ?_,fun e he=> ?_⟩
          · simp only[flat,List.flatMap_cons,Tree.cells] at h2 ⊢
            rw[h2,List.take_append_drop]
          · rcases List.mem_cons.1 he with rfl|he
            · simp[Tree.cells,hle]
            · exact h3 e he
        · split at h
          · rename_i c rest
            split at h<;>simp at h
            rename_i hc
            obtain⟨rfl,hl⟩:=hc
            subst h
            refine⟨by simp[h1], ?_,fun e he=> ?_⟩
            · simp only[flat,List.flatMap_cons,Tree.CS hl] at h2 ⊢
              rw[h2];simp
            · rcases List.mem_cons.1 he with rfl|he
              · simp[Tree.CS hl]
              · exact h3 e he
          · simp at h
    · simp at h
section
variable {G:Gh}{w:World}{H:Heap}
open Classical in
noncomputable def GS (G:Gh)(w:World)(H:Heap)(ks:List Nm):uT:=fun b o=>
 if ∃k,k∈ks∧G.dom k∧∃g e fz cs,H.get k=some (.arr g e fz cs)∧G.mu k=b∧o<cs.length then w.cell? ⟨b,o,none⟩ else G.F b o
noncomputable def Gh.frozen (G:Gh)(w:World)(H:Heap)(ks:List Nm):Gh:={G with F:=GS G w H ks}
theorem u7 (hw:WF G w)(ks:List Nm):∀b o v,G.F b o=some v→GS G w H ks b o=some v:=by
  intro b o v h
  unfold GS
  split
  · obtain⟨vs,ty,fr,h1,h2⟩:=hw.F b o v h
    rw[cell_of h1];exact h2
  · exact h
theorem AP (    hw:WF G w)(hH:HR G w H)(ks:List Nm):∀(n:Nat) (v:TV) (x:Tree) (k0:List Nm) (val:Value),pV H n v=some (x,k0)→(∀k∈k0,k∈ks)→VR G v val→VT (GS G w H ks) x val:=by
  intro n
  induction n with
  | zero=>
    intro v x k0 val h hk hv
    cases v<;>simp only[pV] at h<;>try (simp at h;done)
    · simp at h;obtain⟨rfl,rfl⟩:=h;exact hv.tree.mono (u7 hw ks)
    · simp at h;obtain⟨rfl,rfl⟩:=h;cases hv;exact .xg _ _
    · simp at h;obtain⟨rfl,rfl⟩:=h;cases hv with|l7 _ _ hv=>exact hv.mono (u7 hw ks)
  | succ n ih =>
    have ihs:∀(vs:List TV) (xs:List Tree) (k0:List Nm) (vals:List Value),yh (pV H n) vs=some (xs,k0)→(∀k∈k0,k∈ks)→cZ G vs vals→B3 (GS G w H ks) xs vals:=by
      intro vs
      induction vs with
      |nil=>intro xs k0 vals h _ hv;simp[yh] at h;obtain⟨rfl,rfl⟩:=h;have:=hv.1;simp at this;subst this;exact B3.nil _
      | cons v r ihr=>
        intro xs k0 vals h hk hv
        obtain⟨u,us,rfl,h1,h2⟩:=hv.jt
        simp only[yh] at h
        cases h3:pV H n v<;>cases h4:yh (pV H n) r<;>simp[h3,h4] at h
        rename_i p q
        obtain⟨rfl,rfl⟩:=h
        exact B3.cons (ih v p.1 p.2 u (by rw[h3]) (fun k hk'=>hk k (List.mem_append.2 (.inl hk'))) h1)
          (ihr q.1 q.2 us (by rw[h4]) (fun k hk'=>hk k (List.mem_append.2 (.inr hk'))) h2)
    intro v x k0 val h hk hv
    cases v with
    |any=>simp[pV] at h
    |t y=>simp only[pV] at h;simp at h;obtain⟨rfl,rfl⟩:=h;exact hv.tree.mono (u7 hw ks)
    |aL=>simp only[pV] at h;simp at h;obtain⟨rfl,rfl⟩:=h;cases hv;exact .xg _ _
    |l7 es=>simp only[pV] at h;simp at h;obtain⟨rfl,rfl⟩:=h;cases hv with|l7 _ _ hv=>exact hv.mono (u7 hw ks)
    | ref k off len =>
      simp only[pV] at h
      split at h
      · rename_i g b8 fz cs hk'
        split at h
        · rename_i hc
          obtain⟨hpos,hlen⟩:=hc
          split at h
          · rename_i ts ks' hts
            split at h
            · rename_i es hes
              simp at h
              obtain⟨rfl,rfl⟩:=h
              obtain⟨hd,he,cap,vs,ty,fr,ha,hh,ht,hs,hl,hvs,hf⟩:=hH k _ hk'
              cases hv with|ref _ _ _ n' R6 cap' _ hd' ha' hle ho hv'=>
                rw[ha] at ha'
                simp at ha'
                obtain⟨e1,e2,e3⟩:=ha'
                subst e2;subst e3
                obtain⟨a,rfl,aez⟩:=hv' (by rw[hlen];exact e1)
                obtain⟨c1,c2,c3⟩:=s9 hes
                by_cases hne:es=[]
                · subst hne
                  simp at c1
                  subst c1
                  exact .xg _ _
                · have N1:len≠0:=by intro e;subst e;exact hne (List.length_eq_zero_iff.1 c1)
                  have hcap:off+len≤cap:=by
                    have:(off+len) *b8≤cap*b8:=by rw[hlen,← hs];exact hl
                    exact Nat.le_of_mul_le_mul_right this hpos
                  rw[aez (by omega),← c1]
                  have hsub:=(hvs.drop (off*b8)).take (len*b8)
                  have hVT:=ihs _ ts ks' _ hts (fun k hk2=>hk k (List.mem_cons_of_mem _ hk2)) hsub
                  have htl:ts.length=len*b8:=by
                    have:=hVT.1
                    have h2:=hsub.1
                    simp at h2 this
                    rw[← this,h2]
                    have:(off+len) *b8=off*b8+len*b8:=Nat.add_mul _ _ _
                    omega
                  have hmul:(off+len) *b8=off*b8+len*b8:=Nat.add_mul _ _ _
                  refine .sl b8 es (G.mu k) (off*b8) (cap - off) (fun j=>vs.toList.getD (off*b8+j) undef) hne (by omega) c3 ?_ ?_
                  · intro j c hj
                    rw[c2] at hj
                    have hjl:j<ts.length:=(List.getElem?_eq_some_iff.1 hj).1
                    have hbound:off*b8+j<cs.length:=by omega
                    unfold GS
                    rw[if_pos ⟨k,hk k List.mem_cons_self,hd,g,b8,fz,cs,hk',rfl,hbound⟩,cell_of hh]
                    have:off*b8+j<vs.size:=by omega
                    simp[List.getD,this]
                  · intro j c hj
                    rw[c2] at hj
                    have hjl:j<ts.length:=(List.getElem?_eq_some_iff.1 hj).1
                    have hbound:off*b8+j<cs.length:=by omega
                    have hvl:off*b8+j<vs.size:=by omega
                    refine hVT.2 j c _ hj ?_
                    rw[List.getElem?_take,if_pos (by omega),List.getElem?_drop,List.getElem?_take,if_pos hbound]
                    simp[List.getD,hvl]
            · simp at h
          · simp at h
        · simp at h
      · simp at h
    | agg cs=>
      simp only[pV] at h
      cases h1:yh (pV H n) cs<;>simp[h1] at h
      obtain⟨rfl,rfl⟩:=h
      cases hv with|agg _ vs hl hh=>exact(ihs cs _ _ vs (by rw[h1]) hk ⟨hl,hh⟩).agg
    | bX cs=>
      simp only[pV] at h
      cases h1:yh (pV H n) cs<;>simp[h1] at h
      obtain⟨rfl,rfl⟩:=h
      cases hv with|bX _ vs hl hh=>exact(ihs cs _ _ vs (by rw[h1]) hk ⟨hl,hh⟩).bX
    | iface ty y=>
      simp only[pV] at h
      cases h1:pV H n y<;>simp[h1] at h
      obtain⟨rfl,rfl⟩:=h
      cases hv with|iface _ _ u hu=>exact .iface _ _ _ (ih y _ _ u (by rw[h1]) hk hu)
    | fn f fs cs=>
      cases fs<;>cases cs<;>simp only[pV] at h<;>simp at h
      obtain⟨rfl,rfl⟩:=h
      cases hv with|fn _ _ _ vs ws hl _ hl' _=>simp at hl hl';subst hl;subst hl';exact .fn f
    |ptr=>simp[pV] at h
    |kR=>simp[pV] at h
    |kD=>simp[pV] at h
    |map=>simp[pV] at h
theorem iQ (hw:WF G w)(hH:HR G w H)(ks:List Nm):Step (fun k=>k∈ks∧∃g e fz cs,H.get k=some (.arr g e fz cs)) (fun _=>False) G w (G.frozen w H ks) w:=by
  refine⟨⟨u7 hw ks,fun _ d=>d,fun _ _ a=>⟨a,rfl⟩,fun _ n _ c _ a=>⟨n,c,a,Nat.le_refl _,fun _=>⟨rfl,rfl⟩⟩⟩,⟨fun b o v h=> ?_,hw.inj,hw.lt⟩,fun _ _ _=>⟨rfl,rfl⟩,fun b hb hn=>⟨rfl,fun o=> ?_⟩,fun _ d=>.inl d,fun _ d=>.inl ⟨d,rfl⟩,Nat.le_refl _,rfl,rfl,rfl⟩
  · simp only[Gh.frozen,GS] at h
    split at h
    · unfold World.cell? at h
      split at h
      · rename_i c ty fr hb
        simp at h
        exact⟨c,ty,fr,hb,h⟩
      · simp at h
    · exact hw.F b o v h
  · simp only[Gh.frozen,GS]
    rw[if_neg]
    rintro ⟨k,hk,hd,g,e,fz,cs,h1,h2,h3⟩
    exact hn k ⟨hk,g,e,fz,cs,h1⟩ hd h2
theorem Jk {H:Heap}{ks:List Nm}{k:Nm}{ob:aV}(h:(k,ob)∈dF H ks):k∈ks∧∃g e fz cs,H.get k=some (.arr g e fz cs)∧ob=.arr g e true cs:=by
  unfold dF at h
  rw[List.mem_filterMap] at h
  obtain⟨k',hk',h⟩:=h
  split at h
  · rename_i g e fz cs hg
    simp at h
    obtain⟨rfl,rfl⟩:=h
    exact⟨hk',g,e,fz,cs,hg,rfl⟩
  · simp at h
theorem kG {H:Heap}{ks:List Nm}{k:Nm}(hk:k∈ks)(h:∃g e fz cs,H.get k=some (.arr g e fz cs)):k∈(dF H ks).map (·.1):=by
 obtain⟨g,e,fz,cs,hg⟩:=h
 rw[List.mem_map]
 refine⟨(k,.arr g e true cs), ?_,rfl⟩
 unfold dF
 rw[List.mem_filterMap]
 exact⟨k,hk,by rw[hg]⟩
theorem pW (hw:WF G w)(hH:HR G w H){ks:List Nm}{k:Nm}{ob:aV}(h:(k,ob)∈dF H ks):(G.frozen w H ks).dom k∧OR (G.frozen w H ks) w k ob:=by
  obtain⟨hk,g,e,fz,cs,hg,rfl⟩:=Jk h
  obtain⟨hd,he,cap,vs,ty,fr,ha,hh,ht,hs,hl,hv,hf⟩:=hH k _ hg
  refine⟨hd,he,cap,vs,ty,fr,ha,hh,ht,hs,hl,hv.mono (iQ hw hH ks).le,fun o ho=> ?_⟩
  rcases ho with ho|ho
  · simp at ho
  · simp only[Gh.frozen,GS]
    rw[if_neg]
    · exact hf o (.inr ho)
    · rintro ⟨k',hk',hd',g',e',fz',cs',h1,h2,h3⟩
      have:=hw.inj k' k hd' hd h2
      subst this
      rw[hg] at h1
      simp at h1
      obtain⟨_,_,_,rfl⟩:=h1
      omega
end
end Go.Abs
