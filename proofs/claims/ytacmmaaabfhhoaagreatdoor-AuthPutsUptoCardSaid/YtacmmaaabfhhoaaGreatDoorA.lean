/- The abstract interpreter: trees and abstract values, the heap of a call, the operations on them. Program-independent. -/
import Derived.WalkKit
set_option linter.unusedVariables false
set_option linter.unusedSimpArgs false
namespace Go.Abs
open Go
inductive Nm where
 |arg (i:Nat)
 |loc (p:List Nat)
 deriving DecidableEq,Repr,Inhabited
inductive Tree where
 |bool (b:Bool)
 |int (k:IntKind) (n:Int)
 |str (s:List UInt8)
 |sl (es:List Tree)
 |agg (cs:List Tree)
 |dr (vs:List Tree)
 |fq
 |iQ
 |qx
 |fn (f:Fn)
 |xS
 |iface (t:TypeId) (v:Tree)
 deriving Inhabited
inductive TV where
 |t (x:Tree)
 |bJ
 |j4 (es:List Tree)
 |ref (k:Nm) (off len:Nat)
 |agg (cs:List TV)
 |dr (vs:List TV)
 |ptr (k:Nm) (off:Nat)
 |jB (k:Nm) (n off:Nat)
 |jC (cs:List Tree) (off:Nat)
 |map (k:Nm)
 |fn (f:Fn) (first captured:List TV)
 |iface (t:TypeId) (v:TV)
 |any
 deriving Inhabited
inductive aO where
 |cells (ty:TypeId) (cs:List TV)
 |arr (g:TypeId×Bool) (bE:Nat) (fz:Bool) (cs:List TV)
 |map (es:List (TV×TV×Nat)) (clock:Nat)
 |dead
 deriving Inhabited
abbrev Heap:=List (Nm×aO)
def Heap.get (H:Heap)(k:Nm):Option aO:=
 match H with
 | []=>none
 |(k',o)::r=>if k'=k then some o else Heap.get r k
def Heap.put (H:Heap)(k:Nm)(o:aO):Heap:=
 match H with
 | []=>[(k,o)]
 |(k',o')::r=>if k'=k then(k,o)::r else(k',o')::Heap.put r k o
def Heap.dH (H:Heap)(u:List (Nm×aO)):Heap:=u.foldl (λh p=>h.put p.1 p.2) H
def Tree.cells:Tree->List Tree
 |.agg cs=>cs
 |x=>[x]
def TV.cells:TV->List TV
 |.t (.agg cs)=>cs.map .t
 |.agg cs=>cs
 |v=>[v]
def Tree.leaf:Tree->Bool
 |.agg _=>false
 |.dr _=>false
 |_=>true
def TV.leaf:TV->Bool
 |.t x=>x.leaf
 |.any=>false
 |.agg _=>false
 |.dr _=>false
 |_=>true
def zo:TV->Bool
 |.t (.agg _)=>true
 |.agg _=>true
 |_=>false
def allT:List TV->Option (List Tree)
 | []=>some []
 |.t x::r=>match allT r with
  |some xs=>some (x::xs)
  |none=>none
 |_::_=>none
def wA (cs:List TV):TV:=
 match allT cs with
 |some ts=>.t (.agg ts)
 |none=>.agg cs
def pn (cs:List TV):TV:=
 match allT cs with
 |some ts=>.t (.dr ts)
 |none=>.dr cs
def bR:TV:=.t (.dr [])
def flat (es:List Tree):List Tree:=es.flatMap Tree.cells
def wP:Value->Option TV
 |.bool b=>some (.t (.bool b))
 |.int k n=>some (.t (.int k n))
 |.string s=>some (.t (.str s.data.toList))
 |.slice none 0 0=>some .bJ
 |.pointer none=>some (.t .fq)
 |.map none=>some (.t .iQ)
 |.nilFunc=>some (.t .qx)
 |.nilIface=>some (.t .xS)
 |.func f fs cs=>if fs.isEmpty&&cs.isEmpty then some (.t (.fn f)) else none
 |_=>none
def l6:List Value->Option (List TV)
 | []=>some []
 |v::r=>match wP v,l6 r with
  |some x,some xs=>some (x::xs)
  |_,_=>none
def valOf:Value->Option TV
 |.agg cs=>match l6 cs.toList with
  |some xs=>some (wA xs)
  |none=>none
 |.tuple cs=>match l6 cs.toList with
  |some xs=>some (pn xs)
  |none=>none
 |v=>wP v
def By:TV->Option Value
 |.t (.bool b)=>some (.bool b)
 |.t (.int k n)=>some (.int k n)
 |.t (.str s)=>some (.string ⟨s.toArray⟩)
 |.bJ=>some (.slice none 0 0)
 |.t .fq=>some (.pointer none)
 |.t .iQ=>some (.map none)
 |.t .qx=>some .nilFunc
 |.t .xS=>some .nilIface
 |_=>none
def pG:List TV->Option (List Value)
 | []=>some []
 |v::r=>match By v,pG r with
  |some x,some xs=>some (x::xs)
  |_,_=>none
def Bz:TV->Option Value
 |.t (.agg cs)=>match pG (cs.map .t) with
  |some vs=>some (.agg vs.toArray)
  |none=>none
 |.agg cs=>match pG cs with
  |some vs=>some (.agg vs.toArray)
  |none=>none
 |v=>By v
def j5:TV->Option Value
 |.t (.iface t x)=>match Bz (.t x) with
  |some v=>some (.iface t v)
  |none=>none
 |.iface t x=>match Bz x with
  |some v=>some (.iface t v)
  |none=>none
 |v=>Bz v
def dK {α:Type}(P:Program):Sem α->Option α
 |.pure a=>some a
 |.program k=>dK P (k P)
 |_=>none
structure TI where
 size:Nat
 bytes:Nat
 agg:Bool
 zero:Option TV
 desc:TypeDesc
def PB (P:Program)(t:TypeId):Option TI:=
 match P.info? t,P.underlying t with
 |some i,some d=>some {size:=i.size,bytes:=i.bytes,agg:=(match d with|.struct _|.array _ _=>true|_=>false),zero:=i.zero.bind valOf,desc:=d}
 |_,_=>none
structure iP where
 prog:Program
 ty:TypeId->Option TI
 fn:FuncId->Option Func
 abg:∀t i,ty t=some i->PB prog t=some i
 Nh:∀f g,fn f=some g->prog.funcs[f]?=some g
instance:Coe iP Program:=⟨iP.prog⟩
def bh (P:iP)(t:TypeId):Option TI:=P.ty t
def partT (agg:Bool)(size:Nat)(cs:List TV)(off:Nat):Option TV:=
 if agg then(if off+size<=cs.length then some (wA ((cs.drop off).take size)) else none) else cs[off]?
def sx (H:Heap):TV->Option (List TV×Nat)
 |.ptr k off=>match H.get k with
  |some (.cells _ cs)=>some (cs,off)
  |_=>none
 |.jB k n off=>match H.get k with
  |some (.arr _ _ _ cs)=>if cs.length=n then some (cs,off) else none
  |_=>none
 |.jC cs off=>some (cs.map .t,off)
 |_=>none
def loadT (P:iP)(H:Heap)(t:TypeId)(a:TV):Option TV:=
 match bh P t,sx H a with
 |some ti,some (cs,off)=>partT ti.agg ti.size cs off
 |_,_=>none
def cJ (cs:List TV)(off:Nat)(vs:List TV):List TV:=cs.take off++vs++cs.drop (off+vs.length)
def storeT (P:iP)(H:Heap)(t:TypeId)(a x:TV):Option (List (Nm×aO)):=
 match bh P t with
 |none=>none
 | some ti=>
  if x.cells.length=ti.size/\x.cells.all TV.leaf=true then
   match a with
   |.ptr k off=>match H.get k with
    |some (.cells ty cs)=>if off+ti.size<=cs.length then some [(k,.cells ty (cJ cs off x.cells))] else none
    |_=>none
   |.jB k n off=>match H.get k with
    |some (.arr g bE false cs)=>if cs.length=n/\off+ti.size<=cs.length then some [(k,.arr g bE false (cJ cs off x.cells))] else none
    |_=>none
   |_=>none
  else none
def pU (H:Heap)(a:TV)(n:Nat):Option TV:=
 match a with
 |.ptr k o=>some (.ptr k (o+n))
 |.jB k m o=>match H.get k with
  |some (.arr _ _ _ cs)=>if cs.length=m then some (.jB k m (o+n)) else none
  |_=>none
 |.jC cs o=>some (.jC cs (o+n))
 |_=>none
def qy (place:Nat->Option (Nat×Nat))(cells:List TV):List (Nat×TV)->Option (List TV)
 | []=>some cells
 |(i,v)::rest=>
  match place i with
  |none=>none
  |some (off,size)=>if v.cells.length=size/\off+size<=cells.length/\v.cells.all TV.leaf=true then qy place (cJ cells off v.cells) rest else none
def j6 (P:iP)(fs:List Field):Option (List (Nat×Nat)):=
 match fs with
 | []=>some []
 |f::r=>match bh P f.type,j6 P r with
  |some ti,some ps=>some ((f.offset,ti.size)::ps)
  |_,_=>none
def JS (P:iP)(t:TypeId)(parts:List (Nat×TV)):Option TV:=
 match bh P t with
 |none=>none
 | some ti=>
  match ti.zero,ti.desc with
  | some z,.struct fs=>match j6 P fs.toList with
   |some ps=>match qy (λi=>ps[i]?) z.cells parts with
    |some cs=>some (wA cs)
    |none=>none
   |none=>none
  | some z,.array _ elem=>match bh P elem with
   |some te=>match qy (λi=>some (i*te.size,te.size)) z.cells parts with
    |some cs=>some (wA cs)
    |none=>none
   |none=>none
  |_,_=>none
def chunk (agg:Bool)(size:Nat):Nat->List Tree->Option (List Tree)
 |0,cs=>if cs.isEmpty then some [] else none
 | n+1,cs=>
  if size<=cs.length then
   match chunk agg size n (cs.drop size) with
   |some r=>if agg then some (.agg (cs.take size)::r) else match cs with
    |c::_=>if size=1/\c.leaf=true then some (c::r) else none
    | []=>none
   |none=>none
  else none
def qR (n:Nat)(z:List TV):List TV:=match n with
 |0=>[]
 |n+1=>z++qR n z
def fV:TV->Option Nat
 |.t (.int _ n)=>if 0<=n then some n.toNat else none
 |_=>none
abbrev uh:=Nat->Nat->Option Value
inductive VT (F:uh):Tree->Value->Prop
 |bool (b):VT F (.bool b) (.bool b)
 |int (k n):VT F (.int k n) (.int k n)
 |str (s):VT F (.str s) (.string ⟨s.toArray⟩)
 |zm (a cap):VT F (.sl []) (.slice a 0 cap)
 | sl (bE es b o cap) (vals:Nat->Value) (hne:es≠ []) (hc:es.length<=cap)
   (hu:∀e∈es,e.cells.length=bE) (hF:∀j c,(flat es)[j]?=some c->F b (o+j)=some (vals j))
   (hv:∀j c,(flat es)[j]?=some c->VT F c (vals j)):VT F (.sl es) (.slice (some ⟨b,o,none⟩) es.length cap)
 |agg (cs) (vs:List Value) (hl:vs.length=cs.length) (h:∀(j:Nat) c v,cs[j]?=some c->vs[j]?=some v->VT F c v):VT F (.agg cs) (.agg vs.toArray)
 |dr (cs) (vs:List Value) (hl:vs.length=cs.length) (h:∀(j:Nat) c v,cs[j]?=some c->vs[j]?=some v->VT F c v):VT F (.dr cs) (.tuple vs.toArray)
 |fq:VT F .fq (.pointer none)
 |iQ:VT F .iQ (.map none)
 |qx:VT F .qx .nilFunc
 |fn (f):VT F (.fn f) (.func f #[] #[])
 |xS:VT F .xS .nilIface
 |iface (t x v) (h:VT F x v):VT F (.iface t x) (.iface t v)
theorem VT.mono {F F':uh}(hF:∀b o v,F b o=some v->F' b o=some v){x:Tree}{v:Value}(h:VT F x v):VT F' x v:=by
 induction h with
 |bool=>exact .bool _
 |int=>exact .int _ _
 |str=>exact .str _
 |zm a c=>exact .zm a c
 |sl e es b o cap vals hne hc hu hf hv ih=>exact .sl e es b o cap vals hne hc hu (λj c h=>hF _ _ _ (hf j c h)) ih
 |agg cs vs hl h ih=>exact .agg cs vs hl ih
 |dr cs vs hl h ih=>exact .dr cs vs hl ih
 |fq=>exact .fq
 |iQ=>exact .iQ
 |qx=>exact .qx
 |fn=>exact .fn _
 |xS=>exact .xS
 |iface t x v h ih=>exact .iface t x v ih
structure Gh where
 F:uh
 mu:Nm->Nat
 arr:Nm->Option (Nat×Nat×Nat)
 dom:Nm->Prop
def one:Value->Bool
 |.agg _=>false
 |.tuple _=>false
 |_=>true
inductive VR (G:Gh):TV->Value->Prop
 |t (x v) (h:VT G.F x v):VR G (.t x) v
 |bJ:VR G .bJ (.slice none 0 0)
 |j4 (es a) (h:VT G.F (.sl es) (.slice a es.length es.length)):VR G (.j4 es) (.slice a es.length es.length)
 | ref (k off len n bE cap v) (hd:G.dom k) (ha:G.arr k=some (n,bE,cap)) (hle:(off+len) *bE<=n) (ho:∃a c,v=.slice a len c)
   (hv:(off+len) *bE=n->∃a,v=.slice a len (cap - off)/\(off<cap->a=some ⟨G.mu k,off*bE,none⟩)):VR G (.ref k off len) v
 |agg (cs) (vs:List Value) (hl:vs.length=cs.length) (h:∀(j:Nat) c v,cs[j]?=some c->vs[j]?=some v->VR G c v):VR G (.agg cs) (.agg vs.toArray)
 |dr (cs) (vs:List Value) (hl:vs.length=cs.length) (h:∀(j:Nat) c v,cs[j]?=some c->vs[j]?=some v->VR G c v):VR G (.dr cs) (.tuple vs.toArray)
 |ptr (k off) (hd:G.dom k) (hn:G.arr k=none):VR G (.ptr k off) (.pointer (some ⟨G.mu k,off,none⟩))
 |jB (k n off n' bE cap v) (hd:G.dom k) (ha:G.arr k=some (n',bE,cap)) (hle:n<=n') (ho:∃ad,v=.pointer (some ad)) (hv:n=n'->v=.pointer (some ⟨G.mu k,off,none⟩)):VR G (.jB k n off) v
 | jC (cs off b o) (vals:Nat->Value) (hF:∀j c,cs[j]?=some c->G.F b (o+j)=some (vals j)) (hv:∀j c,cs[j]?=some c->VT G.F c (vals j)):
   VR G (.jC cs off) (.pointer (some ⟨b,o+off,none⟩))
 |map (k) (hd:G.dom k) (hn:G.arr k=none):VR G (.map k) (.map (some (G.mu k)))
 | fn (f fs cs) (vs ws:List Value) (hl:vs.length=fs.length) (h:∀(j:Nat) c v,fs[j]?=some c->vs[j]?=some v->VR G c v)
   (hl':ws.length=cs.length) (h':∀(j:Nat) c v,cs[j]?=some c->ws[j]?=some v->VR G c v):VR G (.fn f fs cs) (.func f vs.toArray ws.toArray)
 |iface (t x v) (h:VR G x v):VR G (.iface t x) (.iface t v)
 |any (v):VR G .any v
structure Gh.le (G G':Gh):Prop where
 F:∀b o v,G.F b o=some v->G'.F b o=some v
 dom:∀k,G.dom k->G'.dom k
 plain:∀k,G.dom k->G.arr k=none->G'.arr k=none/\G'.mu k=G.mu k
 arr:∀k n e c,G.dom k->G.arr k=some (n,e,c)->∃n' e' c',G'.arr k=some (n',e',c')/\n<=n'/\(n=n'->e'=e/\c'=c/\G'.mu k=G.mu k)/\(e'=e\/e'=0)
def Gh.alive (G:Gh)(k:Nm):Prop:=∀n c,G.arr k≠some (n,0,c)
theorem Gh.jt {G:Gh}{k:Nm}(h:G.arr k=none):G.alive k:=λn c e=>by rw[h] at e;cases e
theorem Gh.iF {G:Gh}{k:Nm}{n e c:Nat}(h:G.arr k=some (n,e,c))(he:0<e):G.alive k:=λn' c' x=>by rw[h] at x;cases x;omega
theorem Gh.le.alive {G G':Gh}(h:G.le G'){k:Nm}(d:G.dom k)(ha:G'.alive k):G.alive k:=λn c e=>by
 obtain⟨n',e',c',a,_,_,r⟩:=h.arr k n 0 c d e;rcases r with rfl|rfl<;>exact ha _ _ a
theorem Gh.le.refl (G:Gh):G.le G:=⟨λ_ _ _ h=>h,λ_ h=>h,λ_ _ h=>⟨h,rfl⟩,λ_ n e c _ h=>⟨n,e,c,h,Nat.le_refl _,λ_=>⟨rfl,rfl,rfl⟩,.inl rfl⟩⟩
theorem Gh.le.trans {A B C:Gh}(h:A.le B)(k:B.le C):A.le C:=by
 refine⟨λb o v x=>k.F _ _ _ (h.F _ _ _ x),λx d=>k.dom _ (h.dom _ d),λx d a=> ?_,λx n e c d a=> ?_⟩
 ·obtain⟨a1,m1⟩:=h.plain x d a;obtain⟨a2,m2⟩:=k.plain x (h.dom _ d) a1;exact⟨a2,m2.trans m1⟩
 ·obtain⟨n1,f1,c1,a1,l1,e1,o1⟩:=h.arr x n e c d a;obtain⟨n2,f2,c2,a2,l2,e2,o2⟩:=k.arr x n1 f1 c1 (h.dom _ d) a1;refine⟨n2,f2,c2,a2,Nat.le_trans l1 l2,λe=> ?_, ?_⟩
  ·obtain⟨g1,p1,q1⟩:=e1 (by omega);obtain⟨g2,p2,q2⟩:=e2 (by omega);exact⟨g2.trans g1,p2.trans p1,q2.trans q1⟩
  ·rcases o2 with rfl|rfl
   ·exact o1
   ·exact .inr rfl
theorem VR.mono {G G':Gh}(hG:G.le G'){x:TV}{v:Value}(h:VR G x v):VR G' x v:=by
 induction h with
 |t x v h=>exact .t x v (h.mono hG.F)
 |bJ=>exact .bJ
 |j4 es a h=>exact .j4 es a (h.mono hG.F)
 | ref k off len n bE cap v hd ha hle ho hv=>
   obtain⟨n',f',c',a',l',e',o'⟩:=hG.arr k n bE cap hd ha
   refine .ref k off len n' f' c' v (hG.dom _ hd) a' ?_ ho λhh=> ?_
   · rcases o' with rfl|rfl
     · exact Nat.le_trans hle l'
     · rw[Nat.mul_zero];exact Nat.zero_le _
   · have hn:n=n':=by
       rcases o' with rfl|rfl
       · omega
       · rw[Nat.mul_zero] at hh;omega
     obtain⟨r,p,q⟩:=e' hn
     subst r
     obtain⟨a,hva,hb⟩:=hv (by omega)
     rw[p,q]
     exact⟨a,hva,hb⟩
 |agg cs vs hl h ih=>exact .agg cs vs hl ih
 |dr cs vs hl h ih=>exact .dr cs vs hl ih
 | ptr k off hd hn=>
   obtain⟨a,m⟩:=hG.plain k hd hn
   rw[← m]
   exact .ptr k off (hG.dom _ hd) a
 | jB k n off n' bE cap v hd ha hle ho hv=>
   obtain⟨n2,f',c',a',l',e',_⟩:=hG.arr k n' bE cap hd ha
   refine .jB k n off n2 f' c' v (hG.dom _ hd) a' (Nat.le_trans hle l') ho λhh=> ?_
   obtain⟨_,p,q⟩:=e' (by omega)
   rw[hv (by omega),q]
 |jC cs off b o vals hF hv=>exact .jC cs off b o vals (λj c h=>hG.F _ _ _ (hF j c h)) (λj c h=>(hv j c h).mono hG.F)
 | map k hd hn=>
   obtain⟨a,m⟩:=hG.plain k hd hn
   rw[← m]
   exact .map k (hG.dom _ hd) a
 |fn f fs cs vs ws hl h hl' h' ih Hv=>exact .fn f fs cs vs ws hl ih hl' Hv
 |iface t x v h ih=>exact .iface t x v ih
 |any v=>exact .any v
def cr (G:Gh)(cs:List TV)(vs:List Value):Prop:=vs.length=cs.length/\∀(j:Nat) c v,cs[j]?=some c->vs[j]?=some v->VR G c v
theorem cr.mono {G G':Gh}(hG:G.le G'){cs:List TV}{vs:List Value}(h:cr G cs vs):cr G' cs vs:=⟨h.1,λj c v a b=>(h.2 j c v a b).mono hG⟩
theorem cr.nil (G:Gh):cr G [] []:=⟨rfl,by simp⟩
theorem cr.cons {G:Gh}{c:TV}{v:Value}{cs:List TV}{vs:List Value}(h:VR G c v)(hs:cr G cs vs):cr G (c::cs) (v::vs):=by
 refine⟨by simp[hs.1],λj d u hd hu=> ?_⟩;cases j with
 |zero=>simp at hd hu;subst hd;subst hu;exact h
 |succ j=>simp at hd hu;exact hs.2 j d u hd hu
theorem cr.gQ {G:Gh}{c:TV}{cs:List TV}{vs:List Value}(h:cr G (c::cs) vs):∃v vs',vs=v::vs'/\VR G c v/\cr G cs vs':=by
 obtain⟨hl,hp⟩:=h;cases vs with
 |nil=>simp at hl
 |cons v vs'=>
  refine⟨v,vs',rfl,hp 0 c v rfl rfl,by simpa using hl,λj d u hd hu=>hp (j+1) d u (by simpa using hd) (by simpa using hu)⟩
theorem cr.at {G:Gh}{cs:List TV}{vs:List Value}(h:cr G cs vs){j:Nat}{c:TV}(hc:cs[j]?=some c):∃v,vs[j]?=some v/\VR G c v:=by
 have hj:j<cs.length:=(List.getElem?_eq_some_iff.1 hc).1;have hj':j<vs.length:=by rw[h.1];exact hj
 exact⟨vs[j],List.getElem?_eq_getElem hj',h.2 j c _ hc (List.getElem?_eq_getElem hj')⟩
theorem cr.append {G:Gh}{cs ds:List TV}{vs ws:List Value}(h:cr G cs vs)(k:cr G ds ws):cr G (cs++ds) (vs++ws):=by
 refine⟨by simp[h.1,k.1],λj c v hc hv=> ?_⟩;by_cases hj:j<cs.length
 ·rw[List.getElem?_append_left hj] at hc;rw[List.getElem?_append_left (by rw[h.1];exact hj)] at hv;exact h.2 j c v hc hv
 ·rw[List.getElem?_append_right (by omega)] at hc;rw[List.getElem?_append_right (by rw[h.1];omega),h.1] at hv;exact k.2 _ c v hc hv
theorem cr.drop {G:Gh}{cs:List TV}{vs:List Value}(h:cr G cs vs)(n:Nat):cr G (cs.drop n) (vs.drop n):=
 ⟨by simp[h.1],λj c v hc hv=>by rw[List.getElem?_drop] at hc hv;exact h.2 _ c v hc hv⟩
theorem cr.take {G:Gh}{cs:List TV}{vs:List Value}(h:cr G cs vs)(n:Nat):cr G (cs.take n) (vs.take n):=
 ⟨by simp[h.1],λj c v hc hv=>by
  rw[List.getElem?_take] at hc hv
  split at hc
  · rename_i hlt;rw[if_pos hlt] at hv;exact h.2 _ c v hc hv
  · simp at hc⟩
end Go.Abs
noncomputable section
namespace Go.Abs
open Go
def xT (g:TV->Option (Tree×List Nm)):List TV->Option (List Tree×List Nm)
 | []=>some ([],[])
 |v::r=>match g v,xT g r with
  |some (x,ks),some (xs,ks')=>some (x::xs,ks++ks')
  |_,_=>none
def pq (H:Heap):Nat->TV->Option (Tree×List Nm)
 |_,.t x=>some (x,[])
 |_,.bJ=>some (.sl [],[])
 |_,.j4 es=>some (.sl es,[])
 |0,_=>none
 | n +1,.ref k off len=>match H.get k with
  | some (.arr g bE _ cs)=>
   if 0<bE/\(off+len) *bE=cs.length then
    match xT (pq H n) ((cs.drop (off*bE)).take (len*bE)) with
    |some (ts,ks)=>match chunk g.2 bE len ts with
     |some es=>some (.sl es,k::ks)
     |none=>none
    |none=>none
   else none
  |_=>none
 |n+1,.agg cs=>match xT (pq H n) cs with
  |some (ts,ks)=>some (.agg ts,ks)
  |none=>none
 |n+1,.dr cs=>match xT (pq H n) cs with
  |some (ts,ks)=>some (.dr ts,ks)
  |none=>none
 |n+1,.iface t v=>match pq H n v with
  |some (x,ks)=>some (.iface t x,ks)
  |none=>none
 |_+1,.fn f [] []=>some (.fn f,[])
 |_+1,_=>none
def gl:Nat:=24
def Heap.freeze (H:Heap):List Nm->Heap
 | []=>H
 |k::ks=>match H.get k with
  |some (.arr g bE _ cs)=>Heap.freeze (H.put k (.arr g bE true cs)) ks
  |_=>Heap.freeze H ks
def dw:List UInt8->List UInt8->Bool
 |_,[]=>false
 | [],_::_=>true
 |a::x,b::y=>a<b||(a==b&&dw x y)
def PD:Nat:=4611686018427387904
def Vc (op:BinOp)(x y:List UInt8):Option TV:=
 match op with
 |.add=>if x.length+y.length<=PD then some (.t (.str (x++y))) else none
 |.eql=>some (.t (.bool (x==y)))
 |.neq=>some (.t (.bool (!(x==y))))
 |.lss=>some (.t (.bool (dw x y)))
 |.leq=>some (.t (.bool (dw x y||x==y)))
 |.gtr=>some (.t (.bool (!(dw x y||x==y))))
 |.geq=>some (.t (.bool (!(dw x y))))
 |_=>none
def DX (d:TypeDesc)(a b:TV):Option Bool:=
 match d,a,b with
 |.slice _,.bJ,.bJ=>some true
 |.slice _,.t (.sl (_::_)),.bJ=>some false
 |.slice _,.j4 (_::_),.bJ=>some false
 |.slice _,.ref _ _ _,.bJ=>none
 |.map _ _,.t .iQ,.t .iQ=>some true
 |.map _ _,.map _,.t .iQ=>some false
 |.func _ _ _,.t .qx,.t .qx=>some true
 |.func _ _ _,.fn _ _ _,.t .qx=>some false
 |.func _ _ _,.t (.fn _),.t .qx=>some false
 |.pointer _,.t .fq,.t .fq=>some true
 |.pointer _,.ptr _ _,.t .fq=>some false
 |.pointer _,.jC _ _,.t .fq=>some false
 |_,_,_=>none
def sy (P:iP)(op:BinOp)(t:TypeId)(x y:Operand)(a b:TV):Option TV:=
 match j5 a,j5 b with
 |some u,some v=>match dK P (do eqGuard op t x y u v;binOp op t u v) with
  |some r=>valOf r
  |none=>none
 |_,_=>none
def isNil:TV->Bool
 |.bJ=>true
 |.t .iQ=>true
 |.t .qx=>true
 |.t .fq=>true
 |_=>false
def Ni (op:BinOp)(k:IntKind)(a b:Int):Option TV:=
 match op with
 |.add=>some (.t (.int k (k.wrap (a+b))))
 |.sub=>some (.t (.int k (k.wrap (a - b))))
 |.mul=>some (.t (.int k (k.wrap (a*b))))
 |.quo=>if b=0 then none else some (.t (.int k (k.wrap (a.tdiv b))))
 |.rem=>if b=0 then none else some (.t (.int k (a.tmod b)))
 |.eql=>some (.t (.bool (a==b)))
 |.neq=>some (.t (.bool (a != b)))
 |.lss=>some (.t (.bool (decide (a<b))))
 |.leq=>some (.t (.bool (decide (a<=b))))
 |.gtr=>some (.t (.bool (decide (a>b))))
 |.geq=>some (.t (.bool (decide (a>=b))))
 |_=>none
def qT (P:iP)(op:BinOp)(t:TypeId)(x y:Operand)(a b:TV):Option TV:=
 match a,b with
 |.t (.str s),.t (.str u)=>Vc op s u
 |.t (.int k n),.t (.int k' m)=>if k=k' then(match Ni op k n m with|some v=>some v|none=>sy P op t x y (.t (.int k n)) (.t (.int k' m))) else sy P op t x y (.t (.int k n)) (.t (.int k' m))
 | a,b=>
  if isNil b then
   match op,bh P t with
   |.eql,some ti=>(DX ti.desc a b).map λr=>.t (.bool r)
   |.neq,some ti=>(DX ti.desc a b).map λr=>.t (.bool (!r))
   |_,_=>none
  else sy P op t x y a b
def unT (P:iP)(op:UnOp)(a:TV):Option TV:=
 match j5 a with
 |some u=>match dK P (Op.unary op u) with
  |some r=>valOf r
  |none=>none
 |none=>none
def wQ (H:Heap):TV->Option Nat
 |.t (.str s)=>some s.length
 |.t (.sl es)=>some es.length
 |.bJ=>some 0
 |.j4 es=>some es.length
 |.ref _ _ len=>some len
 |.t .iQ=>some 0
 |.map k=>match H.get k with
  |some (.map es _)=>some es.length
  |_=>none
 |_=>none
def jc (H:Heap)(k:Nm)(off len:Nat):Option ((TypeId×Bool)×Nat×Bool×List TV):=
 match H.get k with
 |some (.arr g bE fz cs)=>if 0<bE/\(off+len) *bE=cs.length then some (g,bE,fz,cs) else none
 |_=>none
def dW (P:iP)(H:Heap)(t:TypeId)(x i:TV):Option TV:=
 match bh P t,fV i with
 | some ti,some i=>
  match ti.desc,x with
  |.slice elem,.t (.sl es)=>match bh P elem,es[i]? with
   |some te,some e=>if e.cells.length=te.size then some (.jC e.cells 0) else none
   |_,_=>none
  |.slice elem,.j4 es=>match bh P elem,es[i]? with
   |some te,some e=>if e.cells.length=te.size then some (.jC e.cells 0) else none
   |_,_=>none
  |.slice elem,.ref k off len=>match bh P elem,jc H k off len with
   |some te,some (_,bE,_,cs)=>if te.size=bE/\i<len then some (.jB k cs.length ((off+i) *bE)) else none
   |_,_=>none
  |.array len elem,x=>match bh P elem with
   |some te=>if i<len then pU H x (i*te.size) else none
   |none=>none
  |_,_=>none
 |_,_=>none
def pV (P:iP)(t:TypeId)(x i:TV):Option TV:=
 match bh P t,fV i with
 | some ti,some i=>
  match ti.desc,x with
  |.string,.t (.str s)=>match s[i]? with
   |some b=>some (.t (.int .u8 b.toNat))
   |none=>none
  |.array len elem,x=>match bh P elem with
   |some te=>if i<len/\te.size≠0/\zo x=true then partT te.agg te.size x.cells (i*te.size) else none
   |none=>none
  |_,_=>none
 |_,_=>none
def eP (o:Option TV)(d:Nat):Option Nat:=
 match o with
 |none=>some d
 |some v=>fV v
def j7 (size:Nat):List Tree->Bool
 | []=>true
 |e::_=>e.cells.length==size
def Nj (tight:Bool)(es:List Tree)(l h:Nat):TV:=if tight then .j4 ((es.take h).drop l) else .t (.sl ((es.take h).drop l))
def pW (P:iP)(H:Heap)(t:TypeId)(x:TV)(lo hi mx:Option TV):Option (TV×List Nm):=
 match bh P t with
 |none=>none
 | some ti=>
  match ti.desc with
  | .string=>match x with
   |.t (.str s)=>match eP lo 0,eP hi s.length,mx with
    |some l,some h,none=>if l<=h/\h<=s.length then some (.t (.str ((s.take h).drop l)),[]) else none
    |_,_,_=>none
   |_=>none
  | .slice elem=>match bh P elem,wQ H x with
   | some te,some n=>
    match eP lo 0,eP hi n,eP mx n,(mx.isNone||hi.isSome) with
    | some l,some h,some m,true=>
     if l<=h/\h<=m/\m<=n then
      match x with
      |.bJ=>some (.bJ,[])
      |.t (.sl es)=>if j7 te.size es=true then some (Nj (mx.isSome&&m==h) es l h,[]) else none
      |.j4 es=>if j7 te.size es=true then some (Nj ((mx.isSome&&m==h)||(mx.isNone&&h==n)) es l h,[]) else none
      | .ref k off len=>
       if h=len/\mx.isNone=true then(match jc H k off len with
        |some (_,bE,_,_)=>if bE=te.size then some (.ref k (off+l) (h - l),[]) else none
        |none=>none)
       else match pq H gl (.ref k off len) with
        |some (.sl es,ks)=>if j7 te.size es=true then some (Nj (mx.isSome&&m==h) es l h,ks) else none
        |_=>none
      |_=>none
     else none
    |_,_,_,_=>none
   |_,_=>none
  |_=>none
def wR (P:iP)(H:Heap)(nm:Nm)(t:TypeId)(x:TV)(lo hi mx:Option TV):Option (TV×List (Nm×aO)):=
 match x,lo,hi,mx with
 | .ref k 0 len,none,some hv,none=>(match bh P t,fV hv,jc H k 0 len with
  | some ti,some h,some (g,bE,false,cs)=>(match ti.desc with
   |.slice elem=>(match bh P elem with
    |some te=>if te.size=bE/\h<=len then some (.ref nm 0 h,[(k,.dead),(nm,.arr g bE false (cs.take (h*bE)))]) else none
    |none=>none)
   |_=>none)
  |_,_,_=>none)
 |_,_,_,_=>none
def wB (b:Bool)(P:iP)(H:Heap)(nm:Nm)(t:TypeId)(x:TV)(lo hi mx:Option TV):Option (TV×List (Nm×aO)):=if b=true then wR P H nm t x lo hi mx else none
theorem Fg {b:Bool}{P:iP}{H:Heap}{nm:Nm}{t:TypeId}{x:Tree}{lo hi mx:Option TV}:wB b P H nm t (.t x) lo hi mx=none:=by
 cases b<;>rfl
def fD (H:Heap)(g:Bool)(bE:Nat):TV->Option (Nat×List TV)
 |.bJ=>some (0,[])
 |.t (.sl es)=>if j7 bE es=true then some (es.length,(flat es).map .t) else none
 |.j4 es=>if j7 bE es=true then some (es.length,(flat es).map .t) else none
 |.ref k off len=>match jc H k off len with
  |some (_,e,_,cs)=>if e=bE then some (len,cs.drop (off*bE)) else none
  |none=>none
 |.t (.str s)=>if bE=1/\g=false then some (s.length,s.map λb=>.t (.int .u8 b.toNat)) else none
 |_=>none
def fE:Nat:=70368744177664
def jV (P:iP)(nm:Nm)(H:Heap)(st xt:TypeId)(s x:TV):Option (TV×List (Nm×aO)):=
 match bh P st,bh P xt with
 | some ti,some tx=>
  match ti.desc,(match tx.desc with|.slice _=>true|.string=>true|_=>false) with
  | .slice elem,true=>match bh P elem with
   | some te=>match te.zero with
    |none=>none
    | some z=>
     if te.size=0\/z.cells.length≠te.size\/te.bytes=0 then none else
     match fD H te.agg te.size x with
     | some (m,cs)=>
      if m=0 then(match s with
       |.bJ=>some (.bJ,[])
       |.t (.sl es)=>some (.t (.sl es),[])
       |.j4 es=>some (.j4 es,[])
       |.ref k off len=>if(jc H k off len).isSome=true then some (.ref k off len,[]) else none
       |_=>none)
      else if cs.all TV.leaf=true then
       match s with
       |.bJ=>if m*te.bytes<=fE then some (.ref nm 0 m,[(nm,.arr (elem,te.agg) te.size false cs)]) else none
       |.j4 es=>match fD H te.agg te.size (.j4 es) with
        |some (n,old)=>if(n+m) *te.bytes<=fE then some (.ref nm 0 (n+m),[(nm,.arr (elem,te.agg) te.size false (old++cs))]) else none
        |none=>none
       |.ref k 0 len=>match jc H k 0 len with
        |some (g,e,fz,old)=>if e=te.size/\g.1=elem/\(len+m) *te.bytes<=fE then some (.ref k 0 (len+m),[(k,.arr g e fz (old++cs))]) else none
        |none=>none
       |_=>none
      else none
     |none=>none
   |none=>none
  |_,_=>none
 |_,_=>none
def PE (P:iP)(H:Heap)(dt:TypeId)(d x:TV):Option (TV×List (Nm×aO)):=
 match bh P dt with
 | some ti=>match ti.desc with
  | .slice elem=>match bh P elem with
   | some te=>match d,fD H te.agg te.size x with
    |.bJ,some _=>some (.t (.int .i64 0),[])
    |.ref k off len,some (m,cs)=>match jc H k off len with
     |some (g,e,false,old)=>if e=te.size/\cs.all TV.leaf=true then some (.t (.int .i64 ((min m len:Nat):Int)),[(k,.arr g e false (cJ old (off*e) (cs.take ((min m len) *e))))]) else none
     |_=>none
    |_,_=>none
   |none=>none
  |_=>none
 |none=>none
def wS (P:iP)(H:Heap)(t:TypeId)(x:TV):Option (TV×List (Nm×aO)):=
 match bh P t with
 | some ti=>match ti.desc with
  | .slice elem=>match bh P elem with
   | some te=>match te.zero,x with
    |some z,.ref k off len=>match jc H k off len with
     |some (g,e,false,old)=>if e=te.size/\z.cells.length=te.size/\z.cells.all TV.leaf=true then some (.t (.dr []),[(k,.arr g e false (cJ old (off*e) (qR len z.cells)))]) else none
     |_=>none
    |_,_=>none
   |none=>none
  |_=>none
 |none=>none
def wT (P:iP)(nm:Nm)(t:TypeId)(len cap:TV):Option (TV×List (Nm×aO)):=
 match bh P t,fV len,fV cap with
 | some ti,some l,some c=>match ti.desc with
  | .slice elem=>match bh P elem with
   |some te=>match te.zero with
    |some z=>if l<=c/\c*te.bytes<=fE/\c<=fE/\0<te.size/\z.cells.length=te.size/\z.cells.all TV.leaf=true then some (.ref nm 0 l,[(nm,.arr (elem,te.agg) te.size false (qR l z.cells))]) else none
    |none=>none
   |none=>none
  |_=>none
 |_,_,_=>none
def L7:TV->TV
 |.j4 es=>.t (.sl es)
 |.bJ=>.t (.sl [])
 |x=>x
def qz (P:iP)(jD:Bool)(nm:Nm)(t:TypeId)(len:Nat)(parts:List (Nat×TV)):Option (TV×List (Nm×aO)):=
 match bh P t with
 | some ti=>match ti.desc with
  | .slice elem=>match bh P elem with
   | some te=>match te.zero with
    | some z=>
     if 0<te.size/\len*te.size<=16777216/\z.cells.length=te.size/\z.cells.all TV.leaf=true then
      match qy (λi=>some (i*te.size,te.size)) (qR len z.cells) parts with
      |some cs=>match jD,(allT (cs.map L7)).bind (chunk te.agg te.size len) with
       |false,some es=>some (.j4 es,[])
       |_,_=>some (.ref nm 0 len,[(nm,.arr (elem,te.agg) te.size false cs)])
      |none=>none
     else none
    |none=>none
   |none=>none
  |_=>none
 |none=>none
def DY (P:iP)(kt:TypeId)(d:TypeDesc)(k k':TV):Option Bool:=
 match j5 k,j5 k' with
 | some u,some u'=>
  match d with
  |.struct _=>match u,u' with
   |.agg _,.agg _=>dK P (Op.equal kt u u')
   |_,_=>none
  |d=>Instr.sameNow d u u'
 |_,_=>none
def l7 (P:iP)(kt:TypeId)(d:TypeDesc)(k:TV):List (TV×TV×Nat)->Nat->Option (Option (Nat×TV×Nat))
 | [],_=>some none
 | (k',v,b)::r,i=>match DY P kt d k k' with
  |some true=>match j5 k,j5 k' with
   |some u,some u'=>if Instr.sameBits 10000 u' u=true then some (some (i,v,b)) else none
   |_,_=>none
  |some false=>l7 P kt d k r (i+1)
  |none=>none
def uk (P:iP)(empty:Bool)(kt:TypeId)(k:TV):Bool:=
 match j5 k with
 |some u=>(dK P (Instr.checkKey empty 10000 kt u)).isSome
 |none=>false
def mapOf (H:Heap):TV->Option (List (TV×TV×Nat)×Nat)
 |.map k=>match H.get k with
  |some (.map es c)=>some (es,c)
  |_=>none
 |_=>none
def sB (P:iP)(H:Heap)(t:TypeId)(x k:TV)(ok:Bool):Option TV:=
 match bh P t with
 | some ti=>match ti.desc with
  | .map kt et=>match bh P kt,bh P et,(match x with|.t .iQ=>some ([],0)|x=>mapOf H x) with
   | some tk,some te,some (es,_)=>
    if uk P es.isEmpty kt k=true then
     match l7 P kt tk.desc k es 0,te.zero with
     |some (some (_,v,_)),_=>some (if ok then pn [v,.t (.bool true)] else v)
     |some none,some z=>some (if ok then pn [z,.t (.bool false)] else z)
     |_,_=>none
    else none
   |_,_,_=>none
  |_=>none
 |none=>none
def ju (P:iP)(H:Heap)(t:TypeId)(x k v:TV):Option (List (Nm×aO)):=
 match bh P t,x with
 | some ti,.map m=>match ti.desc,H.get m with
  | .map kt _,some (.map es c)=>match bh P kt with
   | some tk=>
    if uk P false kt k=true then
     match l7 P kt tk.desc k es 0 with
     |some (some (i,_,b))=>some [(m,.map (es.set i (k,v,b)) c)]
     |some none=>some [(m,.map (es++[(k,v,c)]) (c+1))]
     |none=>none
    else none
   |none=>none
  |_,_=>none
 |_,_=>none
def lS (P:iP)(H:Heap)(t:TypeId)(x k:TV):Option (TV×List (Nm×aO)):=
 match bh P t,x with
 | some ti,.map m=>match ti.desc,H.get m with
  | .map kt et,some (.map es c)=>match bh P kt,bh P et with
   | some tk,some te=>
    if uk P false kt k=true then
     match l7 P kt tk.desc k es 0,te.zero with
     |some (some (i,v,b)),_=>some (pn [v,.t (.int .i64 b)],[(m,.map (es.set i (k,v,b)) c)])
     |some none,some z=>some (pn [z,.t (.int .i64 c)],[(m,.map (es++[(k,z,c)]) (c+1))])
     |_,_=>none
    else none
   |_,_=>none
  |_,_=>none
 |_,_=>none
def vv:List (TV×TV×Nat)->Int->Nat->Option Nat
 | [],_,_=>none
 |(_,_,b)::r,n,i=>if(b:Int)=n then some i else vv r n (i+1)
def jo (H:Heap)(x s v:TV):Option (List (Nm×aO)):=
 match x,s with
 | .map m,.t (.int _ n)=>match H.get m with
  | some (.map es c)=>match vv es n 0 with
   |some i=>match es[i]? with
    |some (k,_,b)=>some [(m,.map (es.set i (k,v,b)) c)]
    |none=>none
   |none=>none
  |_=>none
 |_,_=>none
def bytesOf:List TV->Option (List UInt8)
 | []=>some []
 |.t (.int .u8 n)::r=>match bytesOf r with
  |some bs=>some (UInt8.ofNat n.toNat::bs)
  |none=>none
 |_::_=>none
def rz (P:iP)(jD:Bool)(nm:Nm)(H:Heap)(src dst:TypeId)(x:TV):Option (TV×List (Nm×aO)):=
 match bh P src,bh P dst with
 | some ts,some td=>
  match ts.desc,td.desc,x with
  |.string,.string,.t (.str s)=>some (.t (.str s),[])
  | .string,.slice e,.t (.str s)=>match bh P e with
   |some te=>match te.desc with
    |.int .u8=>if jD then some (.ref nm 0 s.length,[(nm,.arr (e,false) 1 false (s.map λb=>.t (.int .u8 b.toNat)))]) else some (.t (.sl (s.map λb=>.int .u8 b.toNat)),[])
    |_=>none
   |none=>none
  | .slice e,.string,x=>match bh P e with
   | some te=>match te.desc,fD H false 1 x with
    |.int .u8,some (_,cs)=>match bytesOf cs with
     |some bs=>(match x with|.t (.str _)=>none|_=>some (.t (.str bs),[]))
     |none=>none
    |_,_=>none
   |none=>none
  |.int _,.int _,.t (.int k n)=>match dK P (convert src dst (.int k n)) with
   |some r=>(valOf r).map λv=>(v,[])
   |none=>none
  |_,_,_=>none
 |_,_=>none
def Fh (P:iP)(x:TV)(asserted:TypeId)(ok:Bool):Option TV:=
 match bh P asserted with
 | some ta=>match ta.desc,(match x with|.iface t v=>some (t,v)|.t (.iface t v)=>some (t,.t v)|_=>none) with
  |.interface _,_=>none
  |_,some (t,v)=>
   if t=asserted then some (if ok then pn [v,.t (.bool true)] else v)
   else if ok then ta.zero.map λz=>pn [z,.t (.bool false)] else none
  |_,none=>none
 |none=>none
def BA:TV->Nat->Option TV
 |.dr vs,i=>vs[i]?
 |.t (.dr vs),i=>vs[i]?.map .t
 |_,_=>none
def YH (f:Fn)(first captured:List TV):TV:=if first.isEmpty/\captured.isEmpty then .t (.fn f) else .fn f first captured
def Hw:TV->Bool
 |.ptr _ _=>true
 |.jB _ _ _=>true
 |.jC _ _=>true
 |.t (.fn (.func _))=>true
 |.fn (.func _) _ _=>true
 |_=>false
def cH (H:Heap)(ks:List Nm):List (Nm×aO):=ks.filterMap λk=>match H.get k with
 |some (.arr g e _ cs)=>some (k,.arr g e true cs)
 |_=>none
structure cE where
 P:iP
 iC:Nat->Option (List Tree)
 jD:FuncId->Tmp->Bool
def Vd (l:List TV):Nat->TV:=
 List.rec (motive:=λ_=>Nat->TV) (λ_=>bR) (λx _ ih n=>Nat.rec (motive:=λ_=>TV) x (λm _=>ih m) n) l
theorem Fi:∀(l:List TV) (t:Nat),Vd l t=l.getD t bR:=by
 intro l;induction l with
 |nil=>intro t;rfl
 |cons x r ih=>
  intro t
  cases t with
  |zero=>rfl
  |succ t=>exact(ih t).trans (by simp)
def bU (C:cE)(slots:List TV):Operand->Option TV
 |.tmp t=>some (Vd slots t)
 |.const v=>valOf v
 |.global g=>match C.iC g with
  |some cs=>some (.jC cs 0)
  |none=>none
 |.func f=>some (.t (.fn (.func f)))
def jd (C:cE)(slots:List TV):List Operand->Option (List TV)
 | []=>some []
 |x::r=>match bU C slots x,jd C slots r with
  |some v,some vs=>some (v::vs)
  |_,_=>none
def pX (C:cE)(slots:List TV):List (Nat×Operand)->Option (List (Nat×TV))
 | []=>some []
 |(i,x)::r=>match bU C slots x,pX C slots r with
  |some v,some vs=>some ((i,v)::vs)
  |_,_=>none
def um (C:cE)(slots:List TV):Option Operand->Option (Option TV)
 |none=>some none
 |some x=>(bU C slots x).map some
def xO (v:Option TV):Option (TV×List (Nm×aO)):=v.map λx=>(x,[])
def wC (u:Option (List (Nm×aO))):Option (TV×List (Nm×aO)):=u.map λx=>(bR,x)
def lp.lH (k:IntKind):List TV->Option (List Int)
 | []=>some []
 |.t (.int k' y)::r=>match lp.lH k r with
  |some ys=>if k'=k then some (y::ys) else none
  |none=>none
 |_::_=>none
def lp (mx:Bool):List TV->Option TV
 |.t (.int k x)::r=>match lp.lH k r with
  |some ys=>some (.t (.int k (ys.foldl (λx y=>if mx then(if y>x then y else x) else(if y<x then y else x)) x)))
  |none=>none
 |_=>none
def kV (C:cE)(nm:Nm)(H:Heap)(b:Builtin)(ats:List TypeId)(args:List TV):Option (TV×List (Nm×aO)):=
 match b,ats,args with
 | .len,[t],[x]=>match bh C.P t with
  |some ti=>match ti.desc with
   |.array n _=>some (.t (.int .i64 n),[])
   |.string=>(match x with|.t (.str s)=>some (.t (.int .i64 s.length),[])|_=>none)
   |.slice _=>(match x with|.t (.str _)=>none|.t .iQ=>none|.map _=>none|x=>(wQ H x).map λn=>(.t (.int .i64 n),[]))
   |.map _ _=>(match x with|.t .iQ=>some (.t (.int .i64 0),[])|.map k=>(wQ H (.map k)).map λn=>(.t (.int .i64 n),[])|_=>none)
   |_=>none
  |none=>none
 |.append,[s,t],[x,y]=>jV C.P nm H s t x y
 |.copy,[s,_],[x,y]=>PE C.P H s x y
 |.clear,[t],[x]=>wS C.P H t x
 |.min,_,xs=>xO (lp false xs)
 |.max,_,xs=>xO (lp true xs)
 | .cap,[t],[.bJ]=>match bh C.P t with
  |some ti=>(match ti.desc with
   |.slice _=>some (.t (.int .i64 0),[])
   |_=>none)
  |none=>none
 |_,_,_=>none
def evalOp (C:cE)(f:FuncId)(nm:Nm)(H:Heap)(slots:List TV)(o:Oper):Option (TV×List (Nm×aO)):=
 let ρ:=bU C slots
 match o.op with
 |.move x=>xO (ρ x)
 |.assign x=>xO (ρ x)
 |.pick c a b=>match ρ c,ρ a,ρ b with
  |some (.t (.bool c)),some a,some b=>some (if c then a else b,[])
  |_,_,_=>none
 | .alloc elem=>match bh C.P elem with
  |some ti=>match ti.zero with
   |some z=>if z.cells.all TV.leaf=true then some (.ptr nm 0,[(nm,.cells elem z.cells)]) else none
   |none=>none
  |none=>none
 |.box elem x=>match ρ x with
  |some v=>if v.cells.all TV.leaf=true then some (.ptr nm 0,[(nm,.cells elem v.cells)]) else none
  |none=>none
 |.build t parts=>match pX C slots parts.toList with
  |some ps=>xO (JS C.P t ps)
  |none=>none
 |.buildSlice t len parts=>match pX C slots parts.toList with
  |some ps=>qz C.P (o.dst.any (C.jD f)) nm t len ps
  |none=>none
 |.load t a=>match ρ a with
  |some a=>xO (loadT C.P H t a)
  |none=>none
 |.store t a x=>match ρ a,ρ x with
  |some a,some x=>wC (storeT C.P H t a x)
  |_,_=>none
 |.nilCheck x=>match ρ x with
  |some v=>if Hw v=true then some (v,[]) else none
  |none=>none
 |.binOp op t x y _=>match ρ x,ρ y with
  |some a,some b=>xO (qT C.P op t x y a b)
  |_,_=>none
 |.unOp op _ x=>match ρ x with
  |some a=>xO (unT C.P op a)
  |none=>none
 |.convert s d x=>match ρ x with
  |some a=>rz C.P (o.dst.any (C.jD f)) nm H s d a
  |none=>none
 | .makeInterface t x=>match ρ x,bh C.P t with
  |some v,some ti=>match ti.desc with
   |.interface _=>none
   |_=>some ((match v with|.t x=>.t (.iface t x)|v=>.iface t v),[])
  |_,_=>none
 |.makeFunc fn first captured=>match jd C slots first.toList,jd C slots captured.toList with
  |some fs,some cs=>some (YH fn fs cs,[])
  |_,_=>none
 |.makeMap t r=>match um C slots r,bh C.P t with
  |some none,some _=>some (.map nm,[(nm,.map [] 0)])
  |_,_=>none
 |.makeSlice t l c=>match ρ l,ρ c with
  |some l,some c=>wT C.P nm t l c
  |_,_=>none
 | .slice t x lo hi mx=>match ρ x,um C slots lo,um C slots hi,um C slots mx with
  | some v,some l,some h,some m=>match wB (o.dst.any (C.jD f)) C.P H nm t v l h m with
   |some r=>some r
   |none=>match pW C.P H t v l h m with
    |some (r,ks)=>some (r,cH H ks)
    |none=>none
  |_,_,_,_=>none
 | .fieldAddr s x i=>match ρ x,bh C.P s with
  | some a,some ti=>match ti.desc with
   | .struct fs=>match fs[i]? with
    |some fd=>match bh C.P fd.type with
     |some tf=>if tf.size=0 then none else xO (pU H a fd.offset)
     |none=>none
    |none=>none
   |_=>none
  |_,_=>none
 | .field t x i=>match ρ x,bh C.P t with
  | some v,some ti=>match ti.desc with
   | .struct fs=>match fs[i]? with
    |some fd=>match bh C.P fd.type with
     |some tf=>if zo v=true then xO (partT tf.agg tf.size v.cells fd.offset) else none
     |none=>none
    |none=>none
   |_=>none
  |_,_=>none
 |.indexAddr t x i=>match ρ x,ρ i with
  |some v,some j=>xO (dW C.P H t v j)
  |_,_=>none
 |.index t x i=>match ρ x,ρ i with
  |some v,some j=>xO (pV C.P t v j)
  |_,_=>none
 |.lookup t x k ok=>match ρ x,ρ k with
  |some v,some j=>xO (sB C.P H t v j ok)
  |_,_=>none
 |.mapUpdate t m k x=>match ρ m,ρ k,ρ x with
  |some m,some k,some x=>wC (ju C.P H t m k x)
  |_,_,_=>none
 |.insert t m k x=>match ρ m,ρ k,ρ x with
  |some m,some k,some x=>wC (ju C.P H t m k x)
  |_,_,_=>none
 |.mapEntry t m k=>match ρ m,ρ k with
  |some m,some k=>lS C.P H t m k
  |_,_=>none
 |.entryStore _ m s x=>match ρ m,ρ s,ρ x with
  |some m,some s,some x=>wC (jo H m s x)
  |_,_,_=>none
 |.typeAssert x _ asserted ok=>match ρ x with
  |some v=>xO (Fh C.P v asserted ok)
  |none=>none
 |.extract t i=>match ρ t with
  |some v=>xO (BA v i)
  |none=>none
 |.call {callee:=.builtin b,args,argTypes}=>match jd C slots args.toList with
  |some vs=>kV C nm H b argTypes.toList vs
  |none=>none
 |_=>none
end Go.Abs
end
noncomputable section
namespace Go.Abs
open Go
mutual
def TV.names:TV->List Nm
 |.t _=>[]
 |.any=>[]
 |.bJ=>[]
 |.j4 _=>[]
 |.jC _ _=>[]
 |.ref k _ _=>[k]
 |.ptr k _=>[k]
 |.jB k _ _=>[k]
 |.map k=>[k]
 |.agg cs=>TV.iR cs
 |.dr cs=>TV.iR cs
 |.fn _ fs cs=>TV.iR fs++TV.iR cs
 |.iface _ v=>v.names
def TV.iR:List TV->List Nm
 | []=>[]
 |v::r=>v.names++TV.iR r
end
def Fj:List (TV×TV×Nat)->List Nm
 | []=>[]
 |(k,v,_)::r=>k.names++v.names++Fj r
def aO.names:aO->List Nm
 |.cells _ cs=>TV.iR cs
 |.arr _ _ _ cs=>TV.iR cs
 |.map es _=>Fj es
 |.dead=>[]
def reach (H:Heap):Nat->List Nm->List Nm->Option (List Nm)
 |_,done,[]=>some done
 |0,_,_=>none
 | n+1,done,k::todo=>
  if k∈done then reach H n done todo
  else match H.get k with
   |some o=>reach H n (done++[k]) (todo++o.names)
   |none=>none
def eE:Nat:=4000
def idxOf (k:Nm):List Nm->Nat->Option Nat
 | [],_=>none
 |k'::r,i=>if k'=k then some i else idxOf k r (i+1)
mutual
def TV.rn (σ:Nm->Option Nm):TV->Option TV
 |.t x=>some (.t x)
 |.any=>some .any
 |.bJ=>some .bJ
 |.j4 es=>some (.j4 es)
 |.jC cs o=>some (.jC cs o)
 |.ref k o l=>(σ k).map λk=>.ref k o l
 |.ptr k o=>(σ k).map λk=>.ptr k o
 |.jB k n o=>(σ k).map λk=>.jB k n o
 |.map k=>(σ k).map .map
 |.agg cs=>(TV.tU σ cs).map .agg
 |.dr cs=>(TV.tU σ cs).map .dr
 |.fn f fs cs=>match TV.tU σ fs,TV.tU σ cs with
  |some fs,some cs=>some (.fn f fs cs)
  |_,_=>none
 |.iface ty v=>(v.rn σ).map (.iface ty)
def TV.tU (σ:Nm->Option Nm):List TV->Option (List TV)
 | []=>some []
 |v::r=>match v.rn σ,TV.tU σ r with
  |some v,some r=>some (v::r)
  |_,_=>none
end
def PF (σ:Nm->Option Nm):List (TV×TV×Nat)->Option (List (TV×TV×Nat))
 | []=>some []
 |(k,v,b)::r=>match k.rn σ,v.rn σ,PF σ r with
  |some k,some v,some r=>some ((k,v,b)::r)
  |_,_,_=>none
def aO.rn (σ:Nm->Option Nm):aO->Option aO
 |.cells ty cs=>(TV.tU σ cs).map (.cells ty)
 |.arr g e fz cs=>(TV.tU σ cs).map (.arr g e fz)
 |.map es c=>(PF σ es).map (.map · c)
 |.dead=>some .dead
def Nm.eR:Nm->Bool
 |.loc _=>true
 |.arg _=>false
inductive bz where
 |ret (v:TV) (aP:List aO) (news:Heap)
 |panic (v:TV) (aP:List (Option aO))
 deriving Inhabited
abbrev aX:=FuncId->List TV->List aO->Option bz
structure St where
 slots:List TV
 H:Heap
 tick:Nat
 deriving Inhabited
inductive aJ where
 |normal
 |exit (id:Nat)
 |ret
 |panic (v:TV)
 deriving Inhabited
def Ve (v:TV)(l:List TV):Nat->List TV:=
 List.rec (motive:=λ_=>Nat->List TV) (λ_=>[]) (λx xs ih n=>Nat.rec (motive:=λ_=>List TV) (v::xs) (λm _=>x::ih m) n) l
theorem nH (v:TV):∀(l:List TV) (t:Nat),Ve v l t=l.set t v:=by
 intro l;induction l with
 |nil=>intro t;rfl
 |cons x r ih=>
  intro t
  cases t with
  |zero=>rfl
  |succ t=>exact congrArg (x:: ·) (ih t)
def cI (slots:List TV)(dst:Option Tmp)(v:TV):List TV:=
 match dst with
 |some d=>Ve v slots d
 |none=>slots
def lq (H:Heap):List TV->List TV×List Nm
 | []=>([],[])
 |v::r=>
  let(vs,ks):=lq H r
  match pq H gl v with
  |some (x,k)=>(TV.t x::vs,k++ks)
  |none=>(v::vs,ks)
def Dy (S:List Nm)(k:Nm):Option Nm:=(idxOf k S 0).map .arg
def kW (S:List Nm)(t:Nat):Nm->Option Nm
 |.arg i=>S[i]?
 |.loc p=>some (.loc (t::p))
def hM (H:Heap)(S:List Nm):List Nm->Option (List aO)
 | []=>some []
 |k::r=>match H.get k,hM H S r with
  |some o,some os=>(o.rn (Dy S)).map (· ::os)
  |_,_=>none
def iH (S:List Nm)(t:Nat):List Nm->List aO->Option Heap
 | [],[]=>some []
 |k::r,o::os=>match o.rn (kW S t),iH S t r os with
  |some o,some h=>some ((k,o)::h)
  |_,_=>none
 |_,_=>none
def iI (S:List Nm)(t:Nat):Heap->Option Heap
 | []=>some []
 |(k,o)::r=>match kW S t k,o.rn (kW S t),iI S t r with
  |some k,some o,some h=>some ((k,o)::h)
  |_,_,_=>none
def l8 (S:List Nm)(t:Nat):List Nm->List (Option aO)->Option (Heap×List Nm)
 | [],[]=>some ([],[])
 |k::r,some o::os=>match o.rn (kW S t),l8 S t r os with
  |some o,some (h,ks)=>some ((k,o)::h,ks)
  |_,_=>none
 |k::r,none::os=>match l8 S t r os with
  |some (h,ks)=>some (h,k::ks)
  |none=>none
 |_,_=>none
def Heap.sC (H:Heap)(ks:List Nm):Heap:=H.filter λp=> !(ks.contains p.1)
inductive pY where
 |val (v:TV) (u:Heap)
 |panic (v:TV) (u:Heap) (lost:List Nm)
def DZ (H:Heap)(keep:Bool)(args:List TV):List TV×List Nm:=match keep with
 |true=>(args,[])
 |false=>lq H args
def Hy (C:cE)(f:FuncId)(o:Oper):Bool:=C.jD f (o.dst.getD 255)
def pZ (ev:aX)(H:Heap)(g:FuncId)(args:List TV)(t:Nat)(keep:Bool:=false):Option pY:=
 let(args,ks):=DZ H keep args
 let H1:=H.dH (cH H ks)
 match reach H1 eE [] (TV.iR args) with
 |none=>none
 | some S=>
  if S.Nodup then
   match TV.tU (Dy S) args,hM H1 S S with
   | some alA,some os=>
    match ev g alA os with
    |some (.ret v os' news)=>match v.rn (kW S t),iH S t S os',iI S t news with
     |some v,some h,some h'=>some (.val v ((cH H ks).filter (λp=> !(S.contains p.1))++h++h'))
     |_,_,_=>none
    |some (.panic v os')=>match v.rn (kW S t),l8 S t S os' with
     |some v,some (h,lost)=>some (.panic v ((cH H ks).filter (λp=> !(S.contains p.1))++h) lost)
     |_,_=>none
    |none=>none
   |_,_=>none
  else none
def jv (C:cE)(slots:List TV)(c:Call):Option (FuncId×List TV):=
 match c.callee with
 |.value fo=>match bU C slots fo,jd C slots c.args.toList with
  |some (.t (.fn (.func g))),some alA=>some (g,alA)
  |some (.fn (.func g) fs cs),some alA=>some (g,fs++alA++cs)
  |_,_=>none
 |_=>none
def Fk (P:iP)(H:Heap)(t:TypeId)(v:TV)(name:String):Option (FuncId×TV):=
 match(P.prog.info? t).bind (λi=>i.methods.find? (·.name==name)) with
 | some m=>match m.path.isEmpty,m.func,P.prog.underlying t with
  |true,some (f,true),some (.pointer _)=>some (f,v)
  |true,some (f,false),some (.pointer e)=>(match v with
   |.ptr k o=>(match loadT P H e (.ptr k o) with|some x=>some (f,x)|none=>none)
   |_=>none)
  |_,_,_=>none
 |none=>none
def A9 (C:cE)(H:Heap)(slots:List TV)(recv:Operand)(name:String)(args:Array Operand):Option (FuncId×List TV):=
 match bU C slots recv,jd C slots args.toList with
 |some (.iface t v),some alA=>(match Fk C.P H t v name with|some (f,x)=>some (f,x::alA)|none=>none)
 |_,_=>none
def dL (ops:Array Oper)(slots:List TV)(o:Oper):Option Bool:=
 match o.guard with
 |none=>some true
 | some (j,want)=>match(ops[j]?).bind (·.dst) with
  |none=>some false
  |some d=>match slots[d]? with
   |some (.t (.bool b))=>some (b==want)
   |some (.t (.dr []))=>some false
   |none=>some false
   |_=>none
def Fl:TV->Option TV
 |.iface t v=>some (.iface t v)
 |.t (.iface t v)=>some (.t (.iface t v))
 |_=>none
def aR (C:cE)(ev:aX)(f:FuncId)(H:Heap)(slots:List TV)(t:Nat)(o:Oper):Option pY:=
 match o.op with
 |.panic x=>match(bU C slots x).bind Fl with
  |some v=>some (.panic v [] [])
  |none=>none
 |.call {callee:=.value fo,args,argTypes}=>match jv C slots {callee:=.value fo,args,argTypes} with
  |some (g,alA)=>pZ ev H g alA t (Hy C f o)
  |none=>none
 |.call {callee:=.invoke recv name,args,argTypes}=>match A9 C H slots recv name args with
  |some (g,alA)=>pZ ev H g alA t (Hy C f o)
  |none=>none
 |_=>match evalOp C f (.loc [t]) H slots o with
  |some (v,u)=>some (.val v u)
  |none=>none
def AN (C:cE)(ev:aX)(f:FuncId)(ops:Array Oper):List Oper->St->Option (aJ×St)
 | [],st=>some (.normal,st)
 | o::r,st=>
  match dL ops st.slots o with
  |none=>none
  |some false=>AN C ev f ops r {st with slots:=cI st.slots o.dst bR,tick:=st.tick+1}
  |some true=>match aR C ev f st.H st.slots st.tick o with
   |none=>none
   |some (.val v u)=>AN C ev f ops r {slots:=cI st.slots o.dst v,H:=st.H.dH u,tick:=st.tick+1}
   |some (.panic v u l)=>some (.panic v,{st with H:=(st.H.sC l).dH u,tick:=st.tick+1})
def JT (C:cE)(H:Heap)(slots:List TV)(o:Oper):Option (List Nm):=
 match o.op with
 |.move _|.assign _|.pick .. |.alloc _|.box .. |.build .. |.buildSlice .. |.nilCheck _|.makeInterface .. |.makeFunc .. |.makeMap .. |.makeSlice .. |.field .. |.extract .. |.typeAssert .. |.panic _|.unOp .. |.binOp .. |.index ..=>some []
 |.fieldAddr _ x _=>match bU C slots x with
  |some (.jB k _ _)=>some [k]
  |_=>some []
 |.store _ p _=>match bU C slots p with
  |some v=>some v.names
  |none=>none
 |.call {callee:=.value fo,args,argTypes}=>match jv C slots {callee:=.value fo,args,argTypes} with
  |some (_,alA)=>reach H eE [] (TV.iR alA)
  |none=>none
 |.call {callee:=.invoke recv name,args,argTypes}=>match bU C slots recv,jd C slots args.toList with
  |some v,some alA=>reach H eE [] (v.names++TV.iR alA)
  |_,_=>none
 |.call {callee:=.builtin .len,args,argTypes}=>match jd C slots args.toList with
  |some [.ref _ _ _]=>some []
  |some vs=>some (TV.iR vs)
  |none=>none
 |op=>match jd C slots op.operands.toList with
  |some vs=>some (TV.iR vs)
  |none=>none
inductive AO where
 |vw
 |unwanted
 |val (v:TV) (u:Heap)
 |panic (v:TV) (u:Heap) (lost:List Nm)
structure Rec where
 fp:List Nm
 res:AO
def AO.keys:AO->List Nm
 |.val _ u=>u.map (·.1)
 |.panic _ u l=>u.map (·.1)++l
 |_=>[]
structure sD where
 slots:List TV
 H:Heap
def sD.after (s:sD)(o:Oper):AO->sD
 |.vw=>s
 |.unwanted=>{s with slots:=cI s.slots o.dst bR}
 |.val v u=>{slots:=cI s.slots o.dst v,H:=s.H.dH u}
 |.panic ..=>s
def j8 (i:Nat)(qt:Option Nat):AO->Option Nat
 |.panic ..=>some i
 |_=>qt
def kX (ops:List Oper)(acc:List Nat):List Nat:=
 match ops with
 | []=>acc
 |o::r=>kX r (acc++[o.after.toList.foldl (λs e=>if Region.binds .any e then s|||2 ^ e.on|||acc.getD e.on 0 else s) 0])
def sF:Nat->List Oper->Bool
 |_,[]=>true
 |i,o::r=>o.after.toList.all (λe=> !Region.binds .any e||decide (e.on<i))&&sF (i+1) r
def fW (bs:List Nat)(i j:Nat):Bool:=(bs.getD j 0).testBit i
def jq (L:List Nat):Nat->List TV->List TV
 |_,[]=>[]
 |i,v::r=>(if L.contains i then v else bR)::jq L (i+1) r
def l9 (H:Heap)(fp:List Nm):Heap:=fp.filterMap λk=>(H.get k).map (k, ·)
def PG (C:cE)(ev:aX)(f:FuncId)(ops:Array Oper)(bs:List Nat)(t0 i:Nat)(o:Oper)(s:sD)(qt:Option Nat):Option Rec:=
 match(match qt with|some j=>fW bs j i|none=>false) with
 |true=>some ⟨[],.vw⟩
 | false=>
  match dL ops (jq (o.looksAt ops) 0 s.slots) o with
  |none=>none
  |some false=>some ⟨[],.unwanted⟩
  | some true=>
   match JT C s.H s.slots o with
   |none=>none
   | some fp=>
    match aR C ev f (l9 s.H fp) (jq (o.looksAt ops) 0 s.slots) (t0+i) o with
    |none=>none
    |some (.val v u)=>some ⟨fp,.val v u⟩
    |some (.panic v u l)=>match qt with
     |some _=>none
     |none=>some ⟨fp,.panic v u l⟩
def AP (C:cE)(ev:aX)(f:FuncId)(ops:Array Oper)(bs:List Nat)(t0:Nat):Nat->List Oper->sD->Option Nat->Option (List Rec)
 |_,[],_,_=>some []
 | i,o::r,s,qt=>match PG C ev f ops bs t0 i o s qt with
  |none=>none
  |some rec=>match AP C ev f ops bs t0 (i+1) r (s.after o rec.res) (j8 i qt rec.res) with
   |some rs=>some (rec::rs)
   |none=>none
def Fm (a b:List Nm):Bool:=a.all λk=> !(b.contains k)
def j9 (ops:Array Oper)(x y:Oper):Bool:=
 (match x.dst with
  |some d=> !((y.looksAt ops).contains d)&&y.dst != some d
  |none=>true)&&
 (match y.dst with
  |some d=> !((x.looksAt ops).contains d)
  |none=>true)
def qU (ops:Array Oper)(x y:Oper)(rx ry:Rec):Bool:=
 j9 ops x y&&Fm rx.res.keys ry.fp&&Fm rx.res.keys ry.res.keys&&Fm ry.res.keys rx.fp
def xU (ops:Array Oper)(b:Nat)(j:Oper)(rj:Rec):Nat->List Oper->List Rec->Bool
 |i,x::xs,r::rs=>(b.testBit i||qU ops x j r rj)&&xU ops b j rj (i+1) xs rs
 |_,_,_=>true
def lT (ops:Array Oper)(l:List Oper)(recs:List Rec):List Nat->List Oper->List Rec->Nat->Bool
 |b::bs,o::os,r::rs,n=>xU ops b o r 0 (l.take n) (recs.take n)&&lT ops l recs bs os rs (n+1)
 |_,_,_,_=>true
def jw:Nat->List Rec->Option (Nat×TV×Heap×List Nm)
 |_,[]=>none
 |i,r::rs=>match r.res with
  |.panic v u l=>some (i,v,u,l)
  |_=>jw (i+1) rs
def wU (b:Nat):Nat->List Rec->List Nm
 |_,[]=>[]
 |i,r::rs=>(if b.testBit i then [] else r.res.keys)++wU b (i+1) rs
def xV:List Oper->List Rec->sD->sD
 |o::os,r::rs,s=>xV os rs (s.after o r.res)
 |_,_,s=>s
def Ah (ops:List Oper)(slots:List TV):List TV:=ops.foldl (λs o=>cI s o.dst .any) slots
def vz (C:cE)(ev:aX)(f:FuncId)(ops:Array Oper)(st:St):Option (aJ×St):=
 let l:=ops.toList
 let bs:=kX l []
 match AP C ev f ops bs st.tick 0 l {slots:=st.slots,H:=st.H} none with
 |none=>none
 | some recs=>
  if lT ops l recs bs l recs 0=true/\sF 0 l=true then
   let s:=xV l recs {slots:=st.slots,H:=st.H}
   match jw 0 recs with
   |none=>some (.normal,{slots:=s.slots,H:=s.H,tick:=st.tick+ops.size})
   |some (j,v,u,lost)=>
    some (.panic v,{slots:=Ah l st.slots,H:=(s.H.sC (lost++wU (bs.getD j 0) 0 recs)).dH u,tick:=st.tick+ops.size})
  else none
def BB (body:St->Option (aJ×St)):Nat->St->Option (aJ×St)
 |0,_=>none
 |n+1,st=>match body st with
  |some (.normal,st')=>BB body n st'
  |r=>r
def evalCode (C:cE)(ev:aX)(f:FuncId)(fuel:Nat):Code->St->Option (aJ×St)
 |.skip,st=>some (.normal,st)
 |.label _,st=>some (.normal,st)
 |.region _ ops draw,st=>if draw then vz C ev f ops st else AN C ev f ops ops.toList st
 |.seq a b,st=>match evalCode C ev f fuel a st with
  |some (.normal,st')=>evalCode C ev f fuel b st'
  |r=>r
 |.cond c a b,st=>match bU C st.slots c with
  |some (.t (.bool true))=>evalCode C ev f fuel a st
  |some (.t (.bool false))=>evalCode C ev f fuel b st
  |_=>none
 |.block id body,st=>match evalCode C ev f fuel body st with
  |some (.exit id',st')=>if id'=id then some (.normal,st') else some (.exit id',st')
  |r=>r
 |.loop body,st=>BB (evalCode C ev f fuel body) fuel st
 |.exit id,st=>some (.exit id,st)
 |.ret,st=>some (.ret,st)
 |_,_=>none
def jb (C:cE)(st:St):List ResultVar->Option (List TV)
 | []=>some []
 |.tmp t::r=>match jb C st r with
  |some vs=>some (st.slots.getD t bR::vs)
  |none=>none
 |.cell a t::r=>match loadT C.P st.H t (st.slots.getD a bR),jb C st r with
  |some v,some vs=>some (v::vs)
  |_,_=>none
def tJ:List TV->TV
 | [v]=>v
 |vs=>pn vs
def bK:Nat->List aO->Heap
 |_,[]=>[]
 |i,o::r=>(.arg i,o)::bK (i+1) r
def nh (H:Heap):Nat->Nat->Option (List aO)
 |_,0=>some []
 |i,n+1=>match H.get (.arg i),nh H (i+1) n with
  |some o,some os=>some (o::os)
  |_,_=>none
def qA (H:Heap):Nat->Nat->List (Option aO)
 |_,0=>[]
 | i,n+1=>(match H.get (.arg i) with
   |some o=>if o.names.any Nm.eR then none else some o
   |none=>none)::qA H (i+1) n
def ke (H:Heap):List Nm->Option Heap
 | []=>some []
 |k::r=>match ke H r with
  |some h=>if k.eR then(H.get k).map λo=>(k,o)::h else some h
  |none=>none
def finish (C:cE)(fn:Func)(n:Nat)(st:St):Option bz:=
 match jb C st fn.results.toList with
 |none=>none
 | some vs=>
  let v0:=tJ vs
  let(v,ks):=match pq st.H gl v0 with
   |some (x,ks)=>(TV.t x,ks)
   |none=>(v0,[])
  let H:=st.H.dH (cH st.H ks)
  match nh H 0 n with
  |none=>none
  |some os=>match reach H eE [] (v.names++os.flatMap aO.names) with
   |none=>none
   |some R=>(ke H R).map λh=>.ret v os h
def Hz (C:cE)(ev:aX)(fuel:Nat)(f:FuncId)(args:List TV)(aP:List aO):Option bz:=
 match C.P.fn f with
 |none=>none
 | some fn=>match fn.body with
  |none=>none
  |some body=>
   if fn.name= "runtime.NumGoroutine" then none else
   match evalCode C ev f fuel body {slots:=args++List.replicate (fn.ntmps - args.length) bR,H:=bK 0 aP,tick:=0} with
   |some (.normal,st)=>finish C fn aP.length st
   |some (.ret,st)=>finish C fn aP.length st
   |some (.panic v,st)=>if v.names.any Nm.eR then none else some (.panic v (qA st.H 0 aP.length))
   |_=>none
abbrev Ext:=FuncId->Option (aX->List TV->List aO->Option bz)
def BD (C:cE)(X:Ext):Nat->aX
 |0,_,_,_=>none
 |n+1,f,args,aP=>match X f with
  |some s=>s (BD C X n) args aP
  |none=>Hz C (BD C X n) n f args aP
end Go.Abs
namespace Go.Abs
open Go
def AQ (F:uh)(cs:List Tree)(vs:List Value):Prop:=vs.length=cs.length/\∀(j:Nat) c v,cs[j]?=some c->vs[j]?=some v->VT F c v
theorem AQ.HA {G:Gh}{cs:List Tree}{vs:List Value}(h:AQ G.F cs vs):cr G (cs.map .t) vs:=by
 refine⟨by simp[h.1],λj c v hc hv=> ?_⟩;rw[List.getElem?_map] at hc;cases hx:cs[j]? with
 |none=>rw[hx] at hc;simp at hc
 |some x=>rw[hx] at hc;simp at hc;subst hc;exact .t x v (h.2 j x v hx hv)
theorem VR.tree {G:Gh}{x:Tree}{v:Value}(h:VR G (.t x) v):VT G.F x v:=by cases h;assumption
theorem cr.PJ {G:Gh}{cs:List Tree}{vs:List Value}(h:cr G (cs.map .t) vs):AQ G.F cs vs:=by
 refine⟨by have:=h.1;simpa using this,λj c v hc hv=> ?_⟩;exact(h.2 j (.t c) v (by rw[List.getElem?_map,hc];rfl) hv).tree
theorem PK {G:Gh}{x:TV}{v:Value}(h:VR G x v):VR G (L7 x) v:=by
 cases h with
 |bJ=>exact .t _ _ (.zm _ _)
 |j4 es a h=>exact .t _ _ h
 |t x v h=>exact .t _ _ h
 |ref k off len n bE cap v a b c d e=>exact .ref k off len n bE cap v a b c d e
 |agg cs vs a b=>exact .agg cs vs a b
 |dr cs vs a b=>exact .dr cs vs a b
 |ptr k off a b=>exact .ptr k off a b
 |jB k n off n' bE cap v a b c d e=>exact .jB k n off n' bE cap v a b c d e
 |jC cs off b o vals c d=>exact .jC cs off b o vals c d
 |map k a b=>exact .map k a b
 |fn f fs cs vs ws a b c d=>exact .fn f fs cs vs ws a b c d
 |iface t x v h=>exact .iface t x v h
 |any v=>exact .any v
theorem Nk {G:Gh}{cs:List TV}{vs:List Value}(h:cr G cs vs):cr G (cs.map L7) vs:=by
 refine⟨by rw[List.length_map];exact h.1,λj c v hc hv=> ?_⟩;rw[List.getElem?_map] at hc;cases hx:cs[j]? with
 |none=>rw[hx] at hc;cases hc
 |some x=>rw[hx] at hc;cases hc;exact PK (h.2 j x v hx hv)
theorem zq {cs:List TV}{ts:List Tree}(h:allT cs=some ts):cs=ts.map .t:=by
 induction cs generalizing ts with
 |nil=>simp[allT] at h;subst h;rfl
 |cons c r ih=>
  cases c<;>simp only[allT] at h<;>try (simp at h;done)
  rename_i x
  cases hr:allT r with
  |none=>rw[hr] at h;simp at h
  |some xs=>rw[hr] at h;simp at h;subst h;simp[ih hr]
theorem AQ.agg {F:uh}{cs:List Tree}{vs:List Value}(h:AQ F cs vs):VT F (.agg cs) (.agg vs.toArray):=.agg cs vs h.1 h.2
theorem AQ.dr {F:uh}{cs:List Tree}{vs:List Value}(h:AQ F cs vs):VT F (.dr cs) (.tuple vs.toArray):=.dr cs vs h.1 h.2
theorem uo {G:Gh}{cs:List TV}{vs:List Value}(h:cr G cs vs):VR G (wA cs) (.agg vs.toArray):=by
 unfold wA;cases ha:allT cs with
 |none=>exact .agg cs vs h.1 h.2
 |some ts=>have:=zq ha;subst this;exact .t _ _ h.PJ.agg
theorem mg {G:Gh}{cs:List TV}{vs:List Value}(h:cr G cs vs):VR G (pn cs) (.tuple vs.toArray):=by
 unfold pn;cases ha:allT cs with
 |none=>exact .dr cs vs h.1 h.2
 |some ts=>have:=zq ha;subst this;exact .t _ _ h.PJ.dr
theorem VT.leaf {F:uh}{x:Tree}{v:Value}(h:VT F x v)(hx:x.leaf=true):one v=true:=by
 cases h<;>simp_all [Tree.leaf,one]
theorem VR.leaf {G:Gh}{x:TV}{v:Value}(h:VR G x v)(hx:x.leaf=true):one v=true:=by
 cases h with
 |t x v h=>exact h.leaf hx
 |ref k off len n bE cap v hd ha hle ho hv=>obtain⟨_,_,rfl⟩:=ho;rfl
 |jB k n off n' bE cap v hd ha hle ho hv=>obtain⟨_,rfl⟩:=ho;rfl
 |_=>simp_all [TV.leaf,one]
theorem D1 {v:Value}(h:one v=true):v.cells= #[v]:=by cases v<;>simp_all [one,Value.cells]
theorem cr.one {G:Gh}{x:TV}{v:Value}(h:VR G x v):cr G [x] [v]:=cr.cons h (cr.nil G)
theorem VR.cells {G:Gh}{x:TV}{v:Value}(h:VR G x v)(hx:x≠ .any):cr G x.cells v.cells.toList:=by
 cases h with
 |any=>exact absurd rfl hx
 |t x v h=>
  cases h with
  |agg cs vs hl h=>exact AQ.HA ⟨hl,h⟩
  |dr cs vs hl h=>exact cr.one (.t _ _ (.dr cs vs hl h))
  |bool=>exact cr.one (.t _ _ (.bool _))
  |int=>exact cr.one (.t _ _ (.int _ _))
  |str=>exact cr.one (.t _ _ (.str _))
  |zm=>exact cr.one (.t _ _ (.zm _ _))
  |sl e es b o cap vals h1 h2 h3 h4 h5=>exact cr.one (.t _ _ (.sl e es b o cap vals h1 h2 h3 h4 h5))
  |fq=>exact cr.one (.t _ _ .fq)
  |iQ=>exact cr.one (.t _ _ .iQ)
  |qx=>exact cr.one (.t _ _ .qx)
  |fn=>exact cr.one (.t _ _ (.fn _))
  |xS=>exact cr.one (.t _ _ .xS)
  |iface t x v h=>exact cr.one (.t _ _ (.iface t x v h))
 |bJ=>exact cr.one .bJ
 |j4 es a h=>exact cr.one (.j4 es a h)
 |ref k off len n bE cap v hd ha hle ho hv=>rw[D1 (by obtain⟨_,_,rfl⟩:=ho;rfl)];exact cr.one (.ref k off len n bE cap v hd ha hle ho hv)
 |agg cs vs hl h=>exact⟨hl,h⟩
 |dr cs vs hl h=>exact cr.one (.dr cs vs hl h)
 |ptr k off hd hn=>exact cr.one (.ptr k off hd hn)
 |jB k n off n' bE cap v hd ha hle ho hv=>rw[D1 (by obtain⟨_,rfl⟩:=ho;rfl)];exact cr.one (.jB k n off n' bE cap v hd ha hle ho hv)
 |jC cs off b o vals hF hv=>exact cr.one (.jC cs off b o vals hF hv)
 |map k hd hn=>exact cr.one (.map k hd hn)
 |fn f fs cs vs ws hl h hl' h'=>exact cr.one (.fn f fs cs vs ws hl h hl' h')
 |iface t x v h=>exact cr.one (.iface t x v h)
theorem AQ.nil (F:uh):AQ F [] []:=⟨rfl,by simp⟩
theorem AQ.cons {F:uh}{c:Tree}{v:Value}{cs:List Tree}{vs:List Value}(h:VT F c v)(hs:AQ F cs vs):AQ F (c::cs) (v::vs):=by
 refine⟨by simp[hs.1],λj d u hd hu=> ?_⟩;cases j with
 |zero=>simp at hd hu;subst hd;subst hu;exact h
 |succ j=>simp at hd hu;exact hs.2 j d u hd hu
theorem VT.cells {F:uh}{x:Tree}{v:Value}(h:VT F x v):AQ F x.cells v.cells.toList:=by
 cases h<;>first
  |(rename_i cs vs hl h;exact⟨hl,h⟩)
  |exact AQ.cons (by first|assumption|(constructor;done)|(constructor<;>assumption)) (AQ.nil F)
theorem D2 {G:Gh}{v:Value}{x:TV}(h:wP v=some x):VR G x v:=by
 unfold wP at h;split at h<;>simp at h<;>(try subst h)
 ·exact .t _ _ (.bool _)
 ·exact .t _ _ (.int _ _)
 ·rename_i s;have:(Value.string s)=.string ⟨s.data.toList.toArray⟩:=by simp
  rw[this];exact .t _ _ (.str _)
 ·exact .bJ
 ·exact .t _ _ .fq
 ·exact .t _ _ .iQ
 ·exact .t _ _ .qx
 ·exact .t _ _ .xS
 ·obtain⟨⟨h1,h2⟩,h3⟩:=h;subst h3;subst h1;subst h2;exact .t _ _ (.fn _)
theorem xW {G:Gh}{vs:List Value}{xs:List TV}(h:l6 vs=some xs):cr G xs vs:=by
 induction vs generalizing xs with
 |nil=>simp[l6] at h;subst h;exact cr.nil G
 |cons v r ih=>
  simp only[l6] at h
  cases h1:wP v<;>cases h2:l6 r<;>simp[h1,h2] at h
  subst h
  exact cr.cons (D2 h1) (ih h2)
theorem uq {G:Gh}{v:Value}{x:TV}(h:valOf v=some x):VR G x v:=by
 unfold valOf at h;split at h
 ·rename_i cs;cases h1:l6 cs.toList<;>simp[h1] at h;subst h;have:=uo (xW (G:=G) h1);simpa using this
 ·rename_i cs;cases h1:l6 cs.toList<;>simp[h1] at h;subst h;have:=mg (xW (G:=G) h1);simpa using this
 ·exact D2 h
theorem HB {G:Gh}{x:TV}{u v:Value}(h:By x=some u)(hr:VR G x v):v=u:=by
 cases hr with
 |t x v ht=>cases ht<;>simp[By] at h<;>exact h
 |bJ=>simp[By] at h;exact h
 |_=>simp[By] at h
theorem BE {G:Gh}{xs:List TV}{us vs:List Value}(h:pG xs=some us)(hr:cr G xs vs):vs=us:=by
 induction xs generalizing us vs with
 |nil=>simp[pG] at h;subst h;have:=hr.1;simpa using this
 |cons x r ih=>
  obtain⟨v,vs',rfl,h1,h2⟩:=hr.gQ
  simp only[pG] at h
  cases h3:By x<;>cases h4:pG r<;>simp[h3,h4] at h
  subst h
  rw[HB h3 h1,ih h4 h2]
theorem BF {G:Gh}{x:TV}{u v:Value}(h:Bz x=some u)(hr:VR G x v):v=u:=by
 unfold Bz at h;split at h
 ·rename_i cs;cases h1:pG (cs.map .t)<;>simp[h1] at h;subst h;cases hr with|t _ _ ht=>cases ht with|agg _ vs hl hh=>
   rw[BE h1 (AQ.HA (G:=G) ⟨hl,hh⟩)]
 ·rename_i cs;cases h1:pG cs<;>simp[h1] at h;subst h;cases hr with|agg _ vs hl hh=>rw[BE h1 ⟨hl,hh⟩]
 ·exact HB h hr
theorem mh {G:Gh}{x:TV}{u v:Value}(h:j5 x=some u)(hr:VR G x v):v=u:=by
 unfold j5 at h;split at h
 ·rename_i t x;cases h1:Bz (.t x)<;>simp[h1] at h;subst h;cases hr with|t _ _ ht=>cases ht with|iface _ _ w hw=>rw[BF (G:=G) h1 (.t _ _ hw)]
 ·rename_i t x;cases h1:Bz x<;>simp[h1] at h;subst h;cases hr with|iface _ _ w hw=>rw[BF h1 hw]
 ·exact BF h hr
theorem nQ {α:Type}{P:Program}{s:Sem α}{a:α}(h:dK P s=some a)(w:World):s.run P w=.ok a w:=by
 induction s with
 |pure x=>simp[dK] at h;subst h;rfl
 |program k ih=>simp only[dK] at h;exact ih P h
 |_=>simp[dK] at h
def mo (vs:Array Value)(fr:Nat×Nat):Prop:=∀o,o<vs.size->¬(fr.1<=o/\o<fr.2)
def BG (bE:Nat)(fr:Nat×Nat):Prop:=bE≠1->fr=(0,0)
def MR (G:Gh):List (TV×TV×Nat)->List MapEntry->Prop
 | [],[]=>True
 |(k,v,b)::r,e::es=>VR G k e.key/\VR G v e.val/\e.born=b/\MR G r es
 |_,_=>False
def OR (G:Gh)(w:World)(k:Nm):aO->Prop
 |.cells Fo cs=>G.arr k=none/\∃vs ty fr,w.heap[G.mu k]?=some (.cells vs ty fr)/\(mo vs fr/\ty=Fo)/\cr G cs vs.toList/\∀o,G.F (G.mu k) o=none
 | .arr g bE fz cs=>0<bE/\∃cap vs ty fr,G.arr k=some (cs.length,bE,cap)/\w.heap[G.mu k]?=some (.cells vs ty fr)/\(mo vs fr/\ty=g.1/\BG bE fr)/\vs.size=cap*bE/\cs.length<=vs.size/\
   cr G cs (vs.toList.take cs.length)/\∀o,(fz=false\/cs.length<=o)->G.F (G.mu k) o=none
 |.map es c=>G.arr k=none/\∃bF,w.heap[G.mu k]?=some (.map bF c)/\MR G es bF.toList/\∀o,G.F (G.mu k) o=none
 |.dead=>True
structure WF (G:Gh)(w:World):Prop where
 F:∀b o v,G.F b o=some v->∃vs ty fr,w.heap[b]?=some (.cells vs ty fr)/\vs[o]?=some v
 inj:∀k k',G.dom k->G.dom k'->G.alive k->G.alive k'->G.mu k=G.mu k'->k=k'
 lt:∀k,G.dom k->G.mu k<w.heap.size
def HR (G:Gh)(w:World)(H:Heap):Prop:=∀k o,H.get k=some o->G.dom k/\OR G w k o
structure Step (W N:Nm->Prop)(G:Gh)(w:World)(G':Gh)(w':World):Prop where
 le:G.le G'
 wf:WF G' w'
 same:∀k,G.dom k->¬W k->G'.mu k=G.mu k/\G'.arr k=G.arr k
 blocks:∀b,b<w.heap.size->(∀k,W k->G.dom k->G.alive k->G.mu k≠b)->w'.heap[b]?=w.heap[b]? /\∀o,G'.F b o=G.F b o
 news:∀k,G'.dom k->G.dom k\/N k
 fresh:∀k,G'.dom k->(∃k0,G.dom k0/\G'.mu k=G.mu k0/\(k0=k\/(W k0/\G.alive k0)))\/w.heap.size<=G'.mu k
 size:w.heap.size<=w'.heap.size
 os:w'.os=w.os
 tape:w'.tape=w.tape
 output:w'.output=w.output
theorem Step.refl {G:Gh}{w:World}(hw:WF G w)(W N:Nm->Prop):Step W N G w G w:=
 ⟨.refl G,hw,λ_ _ _=>⟨rfl,rfl⟩,λ_ _ _=>⟨rfl,λ_=>rfl⟩,λ_ h=>.inl h,λk h=>.inl ⟨k,h,rfl,.inl rfl⟩,Nat.le_refl _,rfl,rfl,rfl⟩
theorem Step.mono {W N W' N':Nm->Prop}{G G':Gh}{w w':World}(h:Step W N G w G' w')(hW:∀k,G.dom k->W k->W' k)(hN:∀k,N k->N' k):Step W' N' G w G' w':=
 ⟨h.le,h.wf,λk d n=>h.same k d (λx=>n (hW k d x)),λb hb hn=>h.blocks b hb (λk hk d=>hn k (hW k d hk) d),λk d=>(h.news k d).imp id (hN k),λk d=>(h.fresh k d).imp (λ⟨k0,a,b,c⟩=>⟨k0,a,b,c.imp id λx=>⟨hW k0 a x.1,x.2⟩⟩) id,h.size,h.os,h.tape,h.output⟩
theorem Step.trans {W N W' N':Nm->Prop}{A B C:Gh}{u v w:World}(h:Step W N A u B v)(k:Step W' N' B v C w):
 Step (λx=>W x\/W' x) (λx=>N x\/N' x) A u C w:=by
 refine⟨h.le.trans k.le,k.wf,λx d n=> ?_,λb hb hn=> ?_,λx d=> ?_,λx d=> ?_,Nat.le_trans h.size k.size,k.os.trans h.os,k.tape.trans h.tape,k.output.trans h.output⟩
 ·obtain⟨a1,a2⟩:=h.same x d (λy=>n (.inl y));obtain⟨b1,b2⟩:=k.same x (h.le.dom _ d) (λy=>n (.inr y));exact⟨b1.trans a1,b2.trans a2⟩
 ·obtain⟨a1,a2⟩:=h.blocks b hb (λx hx d=>hn x (.inl hx) d);obtain⟨b1,b2⟩:=k.blocks b (Nat.lt_of_lt_of_le hb h.size) (λx hx d=>by
   intro al;rcases h.fresh x d with ⟨k0,d0,e,rfl|⟨hw,a0⟩⟩|e
   ·rw[e];exact hn k0 (.inr hx) d0 (h.le.alive d0 al)
   ·rw[e];exact hn k0 (.inl hw) d0 a0
   ·omega)
  exact⟨b1.trans a1,λo=>(b2 o).trans (a2 o)⟩
 ·rcases k.news x d with d|d
  ·exact(h.news x d).imp id .inl
  ·exact .inr (.inr d)
 ·rcases k.fresh x d with ⟨k1,d1,e1,o1⟩|e1
  ·rcases h.fresh k1 d1 with ⟨k0,d0,e0,o0⟩|e0
   ·refine .inl ⟨k0,d0,e1.trans e0, ?_⟩;rcases o0 with rfl|⟨w0,a0⟩
    ·rcases o1 with rfl|⟨w1,a1⟩
     ·exact .inl rfl
     ·exact .inr ⟨.inr w1,h.le.alive d0 a1⟩
    ·exact .inr ⟨.inl w0,a0⟩
   ·exact .inr (by rw[e1];exact e0)
  ·exact .inr (Nat.le_trans h.size e1)
theorem MR.mono {G G':Gh}(hG:G.le G'){es:List (TV×TV×Nat)}{bF:List MapEntry}(h:MR G es bF):MR G' es bF:=by
 induction es generalizing bF with
 |nil=>cases bF<;>simp_all [MR]
 | cons e r ih=>
  obtain⟨k,v,b⟩:=e
  cases bF with
  |nil=>simp[MR] at h
  |cons x xs=>
   simp only[MR] at h ⊢
   exact⟨h.1.mono hG,h.2.1.mono hG,h.2.2.1,ih h.2.2.2⟩
theorem OR.alive {G:Gh}{w:World}{k:Nm}{o:aO}(h:OR G w k o)(hd:o≠ .dead):G.alive k:=by
 cases o with
 |cells ty cs=>exact Gh.jt h.1
 |arr g e fz cs=>obtain⟨he,cap,_,_,_,ha,_⟩:=h;exact Gh.iF ha he
 |map es c=>exact Gh.jt h.1
 |dead=>exact absurd rfl hd
theorem Step.keeps {W N:Nm->Prop}{G G':Gh}{w w':World}(h:Step W N G w G' w')(hw:WF G w){k:Nm}(hk:G.dom k)(hn:¬W k){o:aO}(ho:OR G w k o):OR G' w' k o:=by
 by_cases XK:o=.dead
 ·subst XK;trivial
 have ak:=ho.alive XK;obtain⟨em,ea⟩:=h.same k hk hn;obtain⟨hb,hF⟩:=h.blocks (G.mu k) (hw.lt k hk) (λx hx dx ax e=>hn (by rw[← hw.inj x k dx hk ax ak e];exact hx));cases o with
 |cells Fo cs=>
  obtain⟨ha,vs,ty,fr,hh,ht,hv,hf⟩:=ho
  exact⟨by rw[ea];exact ha,vs,ty,fr,by rw[em,hb];exact hh,ht,hv.mono h.le,λo=>by rw[em,hF];exact hf o⟩
 |arr g bE fz cs=>
  obtain⟨he,cap,vs,ty,fr,ha,hh,ht,hs,hl,hv,hf⟩:=ho
  exact⟨he,cap,vs,ty,fr,by rw[ea];exact ha,by rw[em,hb];exact hh,ht,hs,hl,hv.mono h.le,λo ho=>by rw[em,hF];exact hf o ho⟩
 |map es c=>
  obtain⟨ha,bF,hh,hv,hf⟩:=ho
  exact⟨by rw[ea];exact ha,bF,by rw[em,hb];exact hh,hv.mono h.le,λo=>by rw[em,hF];exact hf o⟩
 |dead=>trivial
theorem Heap.xX (H:Heap)(k k':Nm)(o:aO):(H.put k o).get k'=if k=k' then some o else H.get k':=by
 induction H with
 |nil=>simp only[Heap.put,Heap.get]
 | cons p r ih=>
   obtain⟨k0,o0⟩:=p
   simp only[Heap.put]
   by_cases h:k0=k
   · subst h
     simp only[if_true,Heap.get]
     split<;>rfl
   · simp only[if_neg h,Heap.get,ih]
     by_cases h2:k0=k'
     · subst h2
       rw[if_pos rfl,if_neg (λe=>h e.symm),if_pos rfl]
     · rw[if_neg h2,if_neg h2]
theorem Heap.rA (H:Heap)(u:List (Nm×aO))(k:Nm)(o:aO)(h:(H.dH u).get k=some o):
 (k,o)∈u\/(H.get k=some o/\k∉u.map (·.1)):=by
 unfold Heap.dH at h
 induction u generalizing H with
 |nil=>exact .inr ⟨h,by simp⟩
 | cons p r ih=>
   simp only[List.foldl_cons] at h
   rcases ih (H.put p.1 p.2) h with h|⟨h,hn⟩
   · exact .inl (List.mem_cons_of_mem _ h)
   · rw[Heap.xX] at h
     split at h
     · rename_i e;simp at h;subst h;subst e;exact .inl List.mem_cons_self
     · rename_i e;exact .inr ⟨h,by simp only[List.map_cons,List.mem_cons,not_or];exact⟨λx=>e x.symm,hn⟩⟩
theorem Heap.get_filter (H:Heap)(q:Nm->Bool)(k:Nm):Heap.get (H.filter λp=>q p.1) k=if q k=true then H.get k else none:=by
 induction H with
 |nil=>simp[Heap.get]
 | cons p r ih=>
   obtain⟨k0,o0⟩:=p
   simp only[List.filter_cons]
   by_cases h:q k0=true
   · simp only[h,if_true,Heap.get,ih]
     by_cases e:k0=k
     · subst e;simp[h]
     · simp[e]
   · simp only[h,Heap.get]
     by_cases e:k0=k
     · subst e;simp[ih,h]
     · simp[e,ih]
theorem Heap.ur (H:Heap)(ks:List Nm)(k:Nm):(H.sC ks).get k=if k∈ks then none else H.get k:=by
 unfold Heap.sC;rw[Heap.get_filter H (λk=> !(ks.contains k)) k];by_cases h:k∈ks<;>simp[h]
theorem HR.dH {W N:Nm->Prop}{G G':Gh}{w w':World}{H:Heap}{u:List (Nm×aO)}(h:Step W N G w G' w')(hw:WF G w)(hH:HR G w H)
 (hu:∀k o,(k,o)∈u->G'.dom k/\OR G' w' k o)(hW:∀k,G.dom k->W k->k∈u.map (·.1)):HR G' w' (H.dH u):=by
 intro k o hk
 rcases Heap.rA H u k o hk with h1|⟨h1,hn⟩
 ·exact hu k o h1
 ·obtain⟨d,ho⟩:=hH k o h1;exact⟨h.le.dom _ d,h.keeps hw d (λx=>hn (hW k d x)) ho⟩
theorem uv {α β:Type}{P:Program}{s:Sem α}{f:α->Sem β}{w w':World}{a:α}(h:s.run P w=.ok a w'):(s.bind f).run P w=(f a).run P w':=by
 induction s generalizing w with
 |pure x=>simp[Sem.run] at h;obtain⟨rfl,rfl⟩:=h;rfl
 | load m x k ih=>
   simp only[Sem.bind,Sem.run] at h ⊢
   split at h
   · exact ih _ h
   · split at h
     · exact ih _ h
     · simp at h
 | store m x v k ih=>
   cases v<;>simp only[Sem.bind,Sem.run] at h ⊢<;>first
     |(simp at h;done)
     |( split at h
        · split at h
          · simp at h
          · rename_i hf;rw[if_neg hf];exact ih h
        · split at h
          · exact ih h
          · simp at h)
 |new o k ih=>exact ih _ h
 |shape r k ih=>exact ih _ h
 |freeze x n k ih=>exact ih h
 |frozen x k ih=>exact ih _ h
 | getObj r k ih=>
   simp only[Sem.bind,Sem.run] at h ⊢
   split at h
   · simp at h
   · exact ih _ h
   · simp at h
 | setObj r o k ih=>
   simp only[Sem.bind,Sem.run] at h ⊢
   split at h
   · simp at h
   · exact ih h
   · simp at h
 | choose q k ih=>
   simp only[Sem.bind,Sem.run] at h ⊢
   split at h
   · rename_i hf;rw[if_pos hf];exact ih _ h
   · rename_i hf;rw[if_neg hf];exact ih _ h
 |sys c k ih=>exact ih _ h
 |program k ih=>exact ih _ h
 |mark m k ih=>exact ih h
 |halt x=>simp[Sem.run] at h
theorem gA {α β:Type}{P:Program}{s:Sem α}{f:α->Sem β}{w w':World}{a:α}(h:s.run P w=.ok a w'):(s>>=f).run P w=(f a).run P w':=uv h
theorem nR (b o n:Nat):(Addr.add ⟨b,o,none⟩ n)=⟨b,o+n,none⟩:=by
 unfold Addr.add;split
 ·rename_i h;subst h;rfl
 ·rfl
theorem cell_of {w:World}{b:Nat}{vs:Array Value}{ty:TypeId}{fr:Nat×Nat}(h:w.heap[b]?=some (.cells vs ty fr))(o:Nat):w.cell? ⟨b,o,none⟩=vs[o]?:=by
 simp[World.cell?,h]
theorem zu {w:World}{b:Nat}{vs:Array Value}{ty:TypeId}{fr:Nat×Nat}(h:w.heap[b]?=some (.cells vs ty fr))(o:Nat):w.frozen? ⟨b,o,none⟩=(decide (fr.1<=o)&&decide (o<fr.2)):=by
 simp[World.frozen?,h]
theorem HC {P:Program}{w:World}{a:Addr}{v:Value}(h:w.cell? a=some v):(load a).run P w=.ok v w:=by
 simp[load,Sem.run,h]
theorem xY {P:Program}{w:World}{b o:Nat}(vs:List Value):∀(i:Nat) (acc:Array Value),(∀j v,vs[j]?=some v->w.cell? ⟨b,o+i+j,none⟩=some v)->
 (loadCellsFrom ⟨b,o,none⟩ i vs.length acc).run P w=.ok (acc++vs.toArray) w:=by
 induction vs with
 |nil=>intro i acc _;simp[loadCellsFrom]
 |cons v r ih=>
  intro i acc h
  simp only[List.length_cons,loadCellsFrom,nR]
  rw[gA (HC (by simpa using h 0 v rfl))]
  rw[ih (i+1) (acc.push v) (λj u hu=>by have:=h (j+1) u (by simpa using hu);rw[← this];congr 2;omega)]
  simp
theorem nI {P:Program}{w:World}{b o:Nat}(vs:List Value)(h:∀j v,vs[j]?=some v->w.cell? ⟨b,o+j,none⟩=some v):
 (loadCells ⟨b,o,none⟩ vs.length).run P w=.ok vs.toArray w:=by
 unfold loadCells
 have:=xY (P:=P) vs 0 #[] (by simpa using h)
 simpa using this
def World.bk (w:World)(b:Nat)(vs:Array Value)(ty:TypeId)(fr:Nat×Nat):World:={w with heap:=w.heap.setIfInBounds b (.cells vs ty fr)}
theorem mq {w:World}{b:Nat}{vs:Array Value}{ty:TypeId}{fr:Nat×Nat}(h:w.heap[b]?=some (.cells vs ty fr))(o:Nat)(v:Value):
 w.setCell ⟨b,o,none⟩ v=World.bk w b (vs.setIfInBounds o v) ty fr:=by
 unfold World.setCell World.bk
 congr 1
 apply Array.ext_getElem?
 intro i
 rw[Array.getElem?_modify,Array.getElem?_setIfInBounds]
 by_cases e:b=i
 ·subst e;have hb:b<w.heap.size:=(Array.getElem?_eq_some_iff.1 h).1;rw[h];simp[hb]
 ·simp[e]
theorem b9 {w:World}{b:Nat}(hb:b<w.heap.size)(vs:Array Value)(ty:TypeId)(fr:Nat×Nat):(World.bk w b vs ty fr).heap[b]?=some (.cells vs ty fr):=by
 simp[World.bk,hb]
theorem iG {w:World}{b c:Nat}(h:b≠c)(vs:Array Value)(ty:TypeId)(fr:Nat×Nat):(World.bk w b vs ty fr).heap[c]?=w.heap[c]?:=by
 simp[World.bk,Array.getElem?_setIfInBounds,h]
theorem lu (w:World)(b:Nat)(vs us:Array Value)(ty ty':TypeId)(fr fr':Nat×Nat):World.bk (World.bk w b vs ty fr) b us ty' fr'=World.bk w b us ty' fr':=by
 simp[World.bk]
theorem mz {w:World}{b:Nat}{vs:Array Value}{ty:TypeId}{fr:Nat×Nat}(h:w.heap[b]?=some (.cells vs ty fr)):World.bk w b vs ty fr=w:=by
 unfold World.bk;have:w.heap.setIfInBounds b (.cells vs ty fr)=w.heap:=by
  apply Array.ext_getElem?;intro i;rw[Array.getElem?_setIfInBounds];by_cases e:b=i
  ·subst e;obtain⟨hb,he⟩:=Array.getElem?_eq_some_iff.1 h;simp[hb,he]
  ·simp[e]
 rw[this]
theorem mA (w:World)(b:Nat)(vs:Array Value)(ty:TypeId)(fr:Nat×Nat):(World.bk w b vs ty fr).heap.size=w.heap.size:=by
 simp[World.bk]
def over (vs:List Value)(o:Nat)(xs:List Value):List Value:=vs.take o++xs++vs.drop (o+xs.length)
theorem uw (vs:List Value)(o:Nat):over vs o []=vs:=by simp[over]
theorem D3 {vs:List Value}{o:Nat}{x:Value}{xs:List Value}(h:o+(x::xs).length<=vs.length):over (vs.set o x) (o+1) xs=over vs o (x::xs):=by
 unfold over;simp only[List.length_cons] at h;apply List.ext_getElem?;intro i;simp only[List.getElem?_append,List.length_append,List.length_take,List.length_set,List.getElem?_take,List.getElem?_drop,List.getElem?_set,List.length_cons];have e1:min (o+1) vs.length=o+1:=by omega
 have e2:min o vs.length=o:=by omega
 rw[e1,e2];by_cases c1:i<o
 ·simp[show i<o+1+xs.length by omega,show i<o+1 by omega,show i<o+(xs.length+1) by omega,c1,show ¬o=i by omega]
 ·by_cases c2:i=o
  ·subst c2;simp[show i<i+1+xs.length by omega,show i<vs.length by omega]
  ·by_cases c3:i<o+1+xs.length
   ·simp[c3,show ¬i<o+1 by omega,show i<o+(xs.length+1) by omega,c1];rw[show i - o=(i - (o+1))+1 by omega];simp
   ·simp[c3,show ¬i<o+(xs.length+1) by omega];rw[if_neg (by omega)];congr 1;omega
theorem Nl {P:Program}{w:World}{a:Addr}{u v:Value}(ho:one v=true)(h:w.cell? a=some u)(hf:w.frozen? a=false):(store a v).run P w=.ok () (w.setCell a v):=by
 cases v<;>simp_all [store,Sem.run,one]
theorem ia {P:Program}{b o:Nat}{ty:TypeId}{fr:Nat×Nat}(xs:List Value):∀(w:World) (i:Nat) (vs:List Value),(∀x∈xs,one x=true)->w.heap[b]?=some (.cells vs.toArray ty fr)->mo vs.toArray fr->
 o+i+xs.length<=vs.length->(storeCells ⟨b,o,none⟩ xs i).run P w=.ok () (World.bk w b (over vs (o+i) xs).toArray ty fr):=by
 induction xs with
 |nil=>
  intro w i vs _ h _ _
  simp only[storeCells,uw]
  rw[mz h];rfl
 | cons x r ih=>
  intro w i vs ho h ht hl
  have hl':o+i<vs.length:=by simp at hl;omega
  simp only[storeCells,nR]
  have hc:w.cell? ⟨b,o+i,none⟩=some vs[o+i]:=by rw[cell_of h];simp[hl']
  have hf:w.frozen? ⟨b,o+i,none⟩=false:=by
   rw[zu h]
   have:=ht (o+i) (by simpa using hl')
   simp only[Bool.and_eq_false_iff,decide_eq_false_iff_not]
   by_cases h1:fr.1<=o+i
   · right;exactλh2=>this ⟨h1,h2⟩
   · left;exact h1
  rw[gA (Nl (ho x List.mem_cons_self) hc hf),mq h]
  have hb:b<w.heap.size:=(Array.getElem?_eq_some_iff.1 h).1
  have JU:vs.toArray.setIfInBounds (o+i) x=(vs.set (o+i) x).toArray:=by simp
  rw[JU,ih _ (i+1) (vs.set (o+i) x) (λy hy=>ho y (List.mem_cons_of_mem _ hy)) (b9 hb _ _ _) (by simpa [mo] using ht) (by simp at hl ⊢;omega)]
  rw[lu,← Nat.add_assoc,D3 (by simpa [Nat.add_assoc] using hl)]
theorem jx {P:Program}{w:World}(elem:TypeId)(cells:Array Value):(newRow elem cells).run P w=.ok ⟨w.heap.size,0,none⟩ {w with heap:=w.heap.push (.cells cells elem)}:=by
 rfl
theorem bD {P:iP}{t:TypeId}{ti:TI}(h:bh P t=some ti):
 ∃i,P.prog.info? t=some i/\P.prog.underlying t=some ti.desc/\i.size=ti.size/\i.bytes=ti.bytes/\i.zero.bind valOf=ti.zero/\ti.agg=(match ti.desc with|.struct _|.array _ _=>true|_=>false):=by
 have h:=P.abg _ _ h
 unfold PB at h
 cases h1:P.prog.info? t<;>cases h2:P.prog.underlying t<;>simp[h1,h2] at h
 subst h
 exact⟨_,rfl,rfl,rfl,rfl,rfl,rfl⟩
theorem aH {P:Program}{t:TypeId}{d:TypeDesc}(h:P.underlying t=some d)(w:World):(underlying t).run P w=.ok d w:=by
 unfold underlying program;simp only[bind,Sem.bind,Sem.run,h];rfl
theorem pH {P:Program}{t:TypeId}{i:TypeInfo}(h:P.info? t=some i)(w:World):(typeInfo t).run P w=.ok i w:=by
 unfold typeInfo program;simp only[bind,Sem.bind,Sem.run,h];rfl
theorem eB {P:iP}{t:TypeId}{ti:TI}(h:bh P t=some ti)(w:World):(sizeOf t).run P w=.ok ti.size w:=by
 obtain⟨i,hi,_,hs,_⟩:=bD h;unfold sizeOf;rw[gA (pH hi w),hs];rfl
theorem D4 {P:iP}{t:TypeId}{ti:TI}(h:bh P t=some ti)(w:World):(isAgg t).run P w=.ok ti.agg w:=by
 obtain⟨i,hi,hu,_,_,_,ha⟩:=bD h;unfold isAgg;rw[gA (aH hu w),ha];cases ti.desc<;>rfl
theorem fu {P:iP}{t:TypeId}{ti:TI}{z:TV}(h:bh P t=some ti)(hz:ti.zero=some z)(w:World)(G:Gh):∃v,(zeroValue t).run P w=.ok v w/\VR G z v:=by
 obtain⟨i,hi,_,_,_,h0,_⟩:=bD h;rw[hz] at h0;cases hv:i.zero with
 |none=>rw[hv] at h0;simp at h0
 |some v=>
  rw[hv] at h0
  simp only[Option.bind_some] at h0
  refine⟨v, ?_,uq h0⟩
  unfold zeroValue
  rw[gA (pH hi w),hv];rfl
theorem Nn {v:Value}{x:TV}(h:wP v=some x):x≠ .any:=by
 rintro rfl;unfold wP at h;split at h<;>simp at h
theorem PL (l:List TV):wA l≠ .any:=by
 unfold wA;split<;>simp
theorem PN (l:List TV):pn l≠ .any:=by
 unfold pn;split<;>simp
theorem PO {v:Value}{x:TV}(h:valOf v=some x):x≠ .any:=by
 unfold valOf at h;split at h
 ·split at h<;>simp at h;subst h;exact PL _
 ·split at h<;>simp at h;subst h;exact PN _
 ·exact Nn h
theorem pI {P:iP}{t:TypeId}{ti:TI}{z:TV}(h:bh P t=some ti)(hz:ti.zero=some z):z≠ .any:=by
 obtain⟨i,hi,_,_,_,h0,_⟩:=bD h;rw[hz] at h0;cases hv:i.zero with
 |none=>rw[hv] at h0;simp at h0
 |some v=>
  rw[hv] at h0
  simp only[Option.bind_some] at h0
  exact PO h0
theorem Ba {x:TV}(h:x.cells.all TV.leaf=true):x≠ .any:=by
 rintro rfl;simp[TV.cells,TV.leaf] at h
end Go.Abs
namespace Go.Abs
open Go
def iA (C:cE)(G:Gh):Prop:=∀g cs,C.iC g=some cs->∃vals:Nat->Value,(∀(j:Nat) c,cs[j]?=some c->G.F g (0+j)=some (vals j))/\∀(j:Nat) c,cs[j]?=some c->VT G.F c (vals j)
theorem iA.mono {C:cE}{G G':Gh}(h:iA C G)(hG:G.le G'):iA C G':=λg cs hg=>
 let⟨vals,h1,h2⟩:=h g cs hg
 ⟨vals,λj c hc=>hG.F _ _ _ (h1 j c hc),λj c hc=>(h2 j c hc).mono hG.F⟩
def SR (G:Gh)(slots:List TV)(a:Act):Prop:=cr G slots a.tmps.toList
theorem mB (G:Gh):VR G bR undef:=.t _ _ (.dr [] [] rfl (by simp))
theorem SR.getD {G:Gh}{slots:List TV}{a:Act}(h:SR G slots a)(t:Nat):VR G (slots.getD t bR) (a.tmps.getD t undef):=by
 by_cases ht:t<slots.length
 ·have ht':t<a.tmps.size:=by have:=h.1;simp at this;omega
  have e1:slots[t]?=some slots[t]:=List.getElem?_eq_getElem ht;have e2:a.tmps.toList[t]?=some a.tmps[t]:=by simp[ht']
  have:=h.2 t _ _ e1 e2;simpa [List.getD,e1,ht'] using this
 ·have ht':¬t<a.tmps.size:=by have:=h.1;simp at this;omega
  have e1:slots[t]?=none:=List.getElem?_eq_none (by omega);simpa [List.getD,e1,ht'] using mB G
theorem bM {C:cE}{G:Gh}{slots:List TV}{a:Act}(hs:SR G slots a)(hg:iA C G){x:Operand}{v:TV}(h:bU C slots x=some v):VR G v (a.eval x):=by
 cases x with
 |tmp t=>simp[bU,Fi] at h;subst h;exact hs.getD t
 |const c=>exact uq h
 |global g=>
  simp only[bU] at h
  cases hc:C.iC g<;>simp[hc] at h
  subst h
  obtain⟨vals,h1,h2⟩:=hg g _ hc
  exact .jC _ 0 g 0 vals h1 h2
 |func f=>simp[bU] at h;subst h;exact .t _ _ (.fn _)
theorem vA {C:cE}{G:Gh}{slots:List TV}{a:Act}(hs:SR G slots a)(hg:iA C G){xs:List Operand}{vs:List TV}(h:jd C slots xs=some vs):cr G vs (xs.map a.eval):=by
 induction xs generalizing vs with
 |nil=>simp[jd] at h;subst h;exact cr.nil G
 |cons x r ih=>
  simp only[jd] at h
  cases h1:bU C slots x<;>cases h2:jd C slots r<;>simp[h1,h2] at h
  subst h
  exact cr.cons (bM hs hg h1) (ih h2)
def cF (P:Program)(nm:Nm)(o:Oper)(a:Act)(w:World)(G:Gh)(v:TV)(u:List (Nm×aO)):Prop:=
 ∃x w' G',((execOp a.eval o).run P w=.ok (.value x) w'\/((execOp a.eval o).run P w=.ok .skip w'/\x=undef))/\Step (λk=>k∈u.map (·.1)) (λk=>k=nm) G w G' w'/\
  (∀k ob,(k,ob)∈u->G'.dom k/\OR G' w' k ob)/\VR G' v x
theorem cF.fF {P:Program}{nm:Nm}{o:Oper}{a:Act}{w w':World}{G G':Gh}{v:TV}{u:List (Nm×aO)}{x:Value}
 (hr:(execOp a.eval o).run P w=.ok (.value x) w')(hs:Step (λk=>k∈u.map (·.1)) (λk=>k=nm) G w G' w')
 (hu:∀k ob,(k,ob)∈u->G'.dom k/\OR G' w' k ob)(hv:VR G' v x):cF P nm o a w G v u:=
 ⟨x,w',G',.inl hr,hs,hu,hv⟩
theorem cF.Bb {P:Program}{nm:Nm}{o:Oper}{a:Act}{w w':World}{G G':Gh}{u:List (Nm×aO)}
 (hr:(execOp a.eval o).run P w=.ok .skip w')(hs:Step (λk=>k∈u.map (·.1)) (λk=>k=nm) G w G' w')
 (hu:∀k ob,(k,ob)∈u->G'.dom k/\OR G' w' k ob):cF P nm o a w G bR u:=
 ⟨undef,w',G',.inr ⟨hr,rfl⟩,hs,hu,mB G'⟩
theorem cF.quiet {P:Program}{nm:Nm}{o:Oper}{a:Act}{w:World}{G:Gh}{v:TV}{x:Value}(hw:WF G w)
 (hr:(execOp a.eval o).run P w=.ok (.value x) w)(hv:VR G v x):cF P nm o a w G v []:=
 cF.fF hr (Step.refl hw _ _) (λ_ _ h=>by simp at h) hv
theorem VR.bool {G:Gh}{b:Bool}{v:Value}(h:VR G (.t (.bool b)) v):v=.bool b:=by cases h with|t _ _ h=>cases h;rfl
theorem VR.int {G:Gh}{k:IntKind}{n:Int}{v:Value}(h:VR G (.t (.int k n)) v):v=.int k n:=by cases h with|t _ _ h=>cases h;rfl
theorem VR.str {G:Gh}{s:List UInt8}{v:Value}(h:VR G (.t (.str s)) v):v=.string ⟨s.toArray⟩:=by cases h with|t _ _ h=>cases h;rfl
theorem bytesLess_eq:∀(a b:List UInt8),Op.bytesLess a b=dw a b
 |_,[]=>by cases ‹List UInt8›<;>rfl
 | [],_::_=>rfl
 |a::x,b::y=>by simp only[Op.bytesLess,dw,bytesLess_eq x y]
theorem toList_mk (s:List UInt8):(ByteArray.mk s.toArray).toList=s:=by
 rw[Go.ByteArray.toList_eq]
theorem PT {P:Program}{G:Gh}{op:BinOp}{s u:List UInt8}{v:TV}(h:Vc op s u=some v)(w:World):
 ∃x,(Op.stringOp op ⟨s.toArray⟩ ⟨u.toArray⟩).run P w=.ok x w/\VR G v x:=by
 cases op<;>simp only[Vc] at h<;>(try (simp at h;done))<;>
  simp only[Op.stringOp,toList_mk,bytesLess_eq]
 case add=>
  split at h
  ·rename_i hle;simp at h;subst h;rw[if_neg]
   ·refine⟨_,rfl, ?_⟩;have e:(ByteArray.mk s.toArray++ByteArray.mk u.toArray)=⟨(s++u).toArray⟩:=by
     apply Go.WideShapes.bytes_inj;simp
    rw[e];exact .t _ _ (.str _)
   ·have e:IntKind.i64.max=9223372036854775807:=by decide
    rw[e];simp only[ByteArray.size,PD,List.size_toArray] at hle ⊢;omega
  ·simp at h
 all_goals
  simp only[Option.some.injEq] at h;subst h
  exact⟨_,rfl,.t _ _ (.bool _)⟩
section quiet
variable {C:cE}{f:FuncId}{nm:Nm}{H:Heap}{slots:List TV}{o:Oper}{a:Act}{w:World}{G:Gh}{v:TV}{u:List (Nm×aO)}
theorem ic {x:Option TV}(h:xO x=some (v,u)):x=some v/\u=[]:=by
 cases x<;>simp[xO] at h;exact⟨by rw[h.1],h.2⟩
theorem ux {op:BinOp}{t:TypeId}{x y:Operand}{b c:TV}{p q:Value}(hb:VR G b p)(hc:VR G c q)(h:sy C.P op t x y b c=some v):
 ∃r,(do eqGuard op t x y p q;binOp op t p q:Sem Value).run C.P w=.ok r w/\VR G v r:=by
 unfold sy at h
 cases h1:j5 b<;>cases h2:j5 c<;>simp[h1,h2] at h
 rename_i p' q'
 have e1:=mh h1 hb
 have e2:=mh h2 hc
 subst e1;subst e2
 cases h3:dK C.P (do eqGuard op t x y p q;binOp op t p q)<;>simp[h3] at h
 exact⟨_,nQ h3 w,uq h⟩
theorem qB {op:BinOp}{t:TypeId}{x y:Operand}{p q:Value}(h:∀z,q≠ .agg z)(h':q≠ .nilIface):eqGuard op t x y p q=pure ():=by
 unfold eqGuard;cases q<;>first
  |(exact absurd rfl (h _))
  |(exact absurd rfl h')
  |(cases op<;>cases p<;>rfl)
theorem fO {t:TypeId}{x y:Operand}{p q:Value}{r:Bool}(hq:∀z,q≠ .agg z)(hq':q≠ .nilIface)(hp1:binOp .eql t p q=do pure (.bool (← Op.equal t p q)))(hp2:binOp .neq t p q=do pure (.bool (!(← Op.equal t p q))))
 (he:(Op.equalIn (9999+1) t p q).run C.P w=.ok r w):
 (do eqGuard .eql t x y p q;binOp .eql t p q:Sem Value).run C.P w=.ok (.bool r) w/\(do eqGuard .neq t x y p q;binOp .neq t p q:Sem Value).run C.P w=.ok (.bool (!r)) w:=by
 have he:(Op.equal t p q).run C.P w=.ok r w:=he
 rw[qB hq hq',qB hq hq',hp1,hp2]
 constructor
 ·show(Sem.bind (Op.equal t p q) _).run C.P w=_;rw[uv he];rfl
 ·show(Sem.bind (Op.equal t p q) _).run C.P w=_;rw[uv he];rfl
section eqs
variable {t e k:TypeId}{ps rs:Array TypeId}{va:Bool}{d:Nat}
theorem xZ (hu:C.P.prog.underlying t=some (.slice e))(b:Option Addr)(n m l c:Nat):(Op.equalIn (d+1) t (.slice b n m) (.slice none l c)).run C.P w=.ok b.isNone w:=by
 simp only[Op.equalIn];rw[gA (aH hu w)];cases b<;>rfl
theorem D5 (hu:C.P.prog.underlying t=some (.map k e))(b:Option Nat):(Op.equalIn (d+1) t (.map b) (.map none)).run C.P w=.ok b.isNone w:=by
 simp only[Op.equalIn];rw[gA (aH hu w)];cases b<;>rfl
theorem PU (hu:C.P.prog.underlying t=some (.func ps rs va)):(Op.equalIn (d+1) t .nilFunc .nilFunc).run C.P w=.ok true w:=by
 simp only[Op.equalIn];rw[gA (aH hu w)];rfl
theorem HD (hu:C.P.prog.underlying t=some (.func ps rs va))(f:Fn)(a b:Array Value):(Op.equalIn (d+1) t (.func f a b) .nilFunc).run C.P w=.ok false w:=by
 simp only[Op.equalIn];rw[gA (aH hu w)];rfl
theorem zw (hu:C.P.prog.underlying t=some (.pointer e))(b:Option Addr):(Op.equalIn (d+1) t (.pointer b) (.pointer none)).run C.P w=.ok b.isNone w:=by
 simp only[Op.equalIn];rw[gA (aH hu w)];cases b<;>rfl
end eqs
theorem D6 {t:TypeId}{x y:Operand}{b c:TV}{p q:Value}{ti:TI}{r:Bool}(ht:bh C.P t=some ti)(hb:VR G b p)(hc:VR G c q)(h:DX ti.desc b c=some r)(w:World):
 (do eqGuard .eql t x y p q;binOp .eql t p q:Sem Value).run C.P w=.ok (.bool r) w/\(do eqGuard .neq t x y p q;binOp .neq t p q:Sem Value).run C.P w=.ok (.bool (!r)) w:=by
 obtain⟨i,hi,hu,_⟩:=bD ht
 unfold DX at h
 split at h<;>simp only[Option.some.injEq,reduceCtorEq] at h<;>subst h<;>rename_i hd<;>rw[hd] at hu
 ·cases hb;cases hc;exact fO (by intro z;simp) (by simp) rfl rfl (xZ hu none 0 0 0 0)
 ·cases hb with|t _ _ hb=>cases hb with|sl=>cases hc;exact fO (by intro z;simp) (by simp) rfl rfl (xZ hu (some _) _ _ 0 0)
 ·cases hb with|j4 _ _ hb=>cases hb with|sl=>cases hc;exact fO (by intro z;simp) (by simp) rfl rfl (xZ hu (some _) _ _ 0 0)
 ·cases hb with|t _ _ hb=>cases hb;cases hc with|t _ _ hc=>cases hc;exact fO (by intro z;simp) (by simp) rfl rfl (D5 hu none)
 ·cases hb;cases hc with|t _ _ hc=>cases hc;exact fO (by intro z;simp) (by simp) rfl rfl (D5 hu (some _))
 ·cases hb with|t _ _ hb=>cases hb;cases hc with|t _ _ hc=>cases hc;exact fO (by intro z;simp) (by simp) rfl rfl (PU hu)
 ·cases hb;cases hc with|t _ _ hc=>cases hc;exact fO (by intro z;simp) (by simp) rfl rfl (HD hu _ _ _)
 ·cases hb with|t _ _ hb=>cases hb;cases hc with|t _ _ hc=>cases hc;exact fO (by intro z;simp) (by simp) rfl rfl (HD hu _ _ _)
 ·cases hb with|t _ _ hb=>cases hb;cases hc with|t _ _ hc=>cases hc;exact fO (by intro z;simp) (by simp) rfl rfl (zw hu none)
 ·cases hb;cases hc with|t _ _ hc=>cases hc;exact fO (by intro z;simp) (by simp) rfl rfl (zw hu (some _))
 ·cases hb;cases hc with|t _ _ hc=>cases hc;exact fO (by intro z;simp) (by simp) rfl rfl (zw hu (some _))
end quiet
end Go.Abs
namespace Go.Abs
open Go
section
variable {C:cE}{f:FuncId}{nm:Nm}{H:Heap}{slots:List TV}{a:Act}{w:World}{G:Gh}{v:TV}
theorem PV {P:Program}{op:BinOp}{k:IntKind}{n m:Int}(h:Ni op k n m=some v)(t:TypeId)(w:World):
 ∃r,(binOp op t (.int k n) (.int k m)).run P w=.ok r w/\VR G v r:=by
 cases op<;>simp only[Ni] at h<;>first
  |(simp at h;done)
  |(simp only[Option.some.injEq] at h;subst h;exact⟨_,by simp[binOp,Op.intArith,Op.intCmp]<;>rfl,.t _ _ (by first|exact .int _ _|exact .bool _)⟩)
  |( split at h
     · simp at h
     · rename_i h0
       simp only[Option.some.injEq] at h;subst h;exact⟨_,by simp[binOp,Op.intDiv,h0]<;>rfl,.t _ _ (.int _ _)⟩)
theorem PW {op:BinOp}{t:TypeId}{x y:Operand}{b c:TV}{p q:Value}(hb:VR G b p)(hc:VR G c q)(h:qT C.P op t x y b c=some v)(w:World):
 ∃r,(do eqGuard op t x y p q;binOp op t p q:Sem Value).run C.P w=.ok r w/\VR G v r:=by
 unfold qT at h
 split at h
 ·rename_i s u;have e1:=hb.str;have e2:=hc.str;subst e1;subst e2;obtain⟨r,h1,h2⟩:=PT h w (P:=C.P) (G:=G);refine⟨r, ?_,h2⟩;rw[qB (by intro z;simp) (by simp)];cases op<;>first|exact h1|(simp[Vc] at h)
 ·rename_i k n k' m;split at h;case isFalse=>exact ux hb hc h
  rename_i hk;subst hk;split at h
  ·rename_i v' hv;simp only[Option.some.injEq] at h;subst h;have e1:=hb.int;have e2:=hc.int;subst e1;subst e2;obtain⟨r,h1,h2⟩:=PV (P:=C.P) (G:=G) hv t w;refine⟨r, ?_,h2⟩;rw[qB (by intro z;simp) (by simp)];exact h1
  ·exact ux hb hc h
 ·split at h
  ·split at h
   ·rename_i ti ht;cases hn:DX ti.desc b c<;>simp[hn] at h;subst h;exact⟨_,(D6 ht hb hc hn w).1,.t _ _ (.bool _)⟩
   ·rename_i ti ht;cases hn:DX ti.desc b c<;>simp[hn] at h;subst h;exact⟨_,(D6 ht hb hc hn w).2,.t _ _ (.bool _)⟩
   ·simp at h
  ·exact ux hb hc h
theorem Vf {op:UnOp}{b:TV}{p:Value}(hb:VR G b p)(h:unT C.P op b=some v)(w:World):∃r,(Op.unary op p).run C.P w=.ok r w/\VR G v r:=by
 unfold unT at h;cases h1:j5 b<;>simp[h1] at h;have e:=mh h1 hb;subst e;cases h2:dK C.P (Op.unary op p)<;>simp[h2] at h;exact⟨_,nQ h2 w,uq h⟩
theorem Ai {p:TV}{x:Value}{cs:List TV}{off:Nat}(hH:HR G w H)(hw:WF G w)(hp:VR G p x)(h:sx H p=some (cs,off)):
 ∃b o vs,x=.pointer (some ⟨b,o+off,none⟩)/\cr G cs vs/\∀(j:Nat) u,vs[j]?=some u->w.cell? ⟨b,o+j,none⟩=some u:=by
 unfold sx at h
 split at h
 ·rename_i k o;split at h<;>simp at h;rename_i cs' hk;obtain⟨rfl,rfl⟩:=h;obtain⟨hd,ha,vs,ty,fr,hh,ht,hv,hf⟩:=hH k _ hk;cases hp with|ptr _ _ _ _=>
   refine⟨G.mu k,0,vs.toList,by simp,hv,λj u hu=> ?_⟩
   rw[cell_of hh];simpa using hu
 ·rename_i k n o;split at h
  ·rename_i g bE fz cs' hk;split at h<;>simp at h;rename_i hn;obtain⟨rfl,rfl⟩:=h;obtain⟨hd,he,cap,vs,ty,fr,ha,hh,ht,hs,hl,hv,hf⟩:=hH k _ hk;cases hp with|jB _ _ _ n' PX cap' _ hd' qC hle ho uy=>
    rw[ha] at qC
    simp at qC
    obtain⟨e1,e2,e3⟩:=qC
    have hx:=uy (by omega)
    refine⟨G.mu k,0,vs.toList.take cs'.length,by simpa using hx,hv,λj u hu=> ?_⟩
    rw[cell_of hh]
    rw[List.getElem?_take] at hu
    split at hu
    ·simpa using hu
    ·simp at hu
  ·simp at h
 ·rename_i cs' o;simp at h;obtain⟨rfl,rfl⟩:=h;cases hp with|jC _ _ b o' vals hF hv=>
   refine⟨b,o',(List.range cs'.length).map vals,rfl,⟨by simp,λj c u hc hu=> ?_⟩,λj u hu=> ?_⟩
   ·rw[List.getElem?_map] at hc hu;cases hj:cs'[j]? with
    |none=>rw[hj] at hc;simp at hc
    | some t=>
      rw[hj] at hc;simp at hc;subst hc
      have hlt:j<cs'.length:=(List.getElem?_eq_some_iff.1 hj).1
      simp[hlt] at hu
      subst hu
      exact .t _ _ (hv j t hj)
   ·rw[List.getElem?_map] at hu;by_cases hlt:j<cs'.length
    ·simp[hlt] at hu;subst hu;obtain⟨vs,ty,fr,h1,h2⟩:=hw.F _ _ _ (hF j cs'[j] (List.getElem?_eq_getElem hlt));rw[cell_of h1];exact h2
    ·rw[List.getElem?_eq_none (by simpa using hlt)] at hu;simp at hu
 ·simp at h
theorem BH {t:TypeId}{ti:TI}{cs:List TV}{vs:List Value}{b o off:Nat}(ht:bh C.P t=some ti)(hv:cr G cs vs)(hc:∀(j:Nat) u,vs[j]?=some u->w.cell? ⟨b,o+j,none⟩=some u)
 (h:partT ti.agg ti.size cs off=some v):∃r,(loadVar t ⟨b,o+off,none⟩).run C.P w=.ok r w/\VR G v r:=by
 unfold partT at h
 unfold loadVar
 rw[gA (D4 ht w)]
 cases hag:ti.agg<;>rw[hag] at h<;>simp only[Bool.false_eq_true,if_true,if_false] at h ⊢
 ·obtain⟨u,hu,XL⟩:=hv.at h;refine⟨u, ?_,XL⟩;exact HC (hc off u hu)
 ·split at h<;>simp at h;rename_i hle;subst h;have hlen:((vs.drop off).take ti.size).length=ti.size:=by have:=hv.1;simp;omega
  refine⟨.agg ((vs.drop off).take ti.size).toArray, ?_,uo ((hv.drop off).take ti.size)⟩;rw[gA (eB ht w)];have hl:=nI (P:=C.P) (w:=w) (b:=b) (o:=o+off) ((vs.drop off).take ti.size) (λj u hu=>by
   rw[List.getElem?_take] at hu;split at hu
   ·rw[List.getElem?_drop] at hu;rw[Nat.add_assoc];exact hc _ u hu
   ·simp at hu)
  rw[hlen] at hl;rw[gA hl];rfl
theorem Np {t:TypeId}{p:TV}{x:Value}(hH:HR G w H)(hw:WF G w)(hp:VR G p x)(h:loadT C.P H t p=some v):∃r,(Instr.loadAt t x).run C.P w=.ok r w/\VR G v r:=by
 unfold loadT at h;cases ht:bh C.P t<;>cases hc:sx H p<;>simp[ht,hc] at h;rename_i ti co;obtain⟨cs,off⟩:=co;obtain⟨b,o,vs,rfl,hv,hcell⟩:=Ai hH hw hp hc;exact BH ht hv hcell h
theorem BI {t:TypeId}{ti:TI}{cs:List TV}{vs:List Value}{off:Nat}(ht:bh C.P t=some ti)(hv:cr G cs vs)
 (h:partT ti.agg ti.size cs off=some v)(w:World):∃r,(part t vs.toArray off).run C.P w=.ok r w/\VR G v r:=by
 unfold partT at h
 unfold part
 rw[gA (D4 ht w)]
 cases hag:ti.agg<;>rw[hag] at h<;>simp only[Bool.false_eq_true,if_true,if_false] at h ⊢
 ·obtain⟨u,hu,XL⟩:=hv.at h;refine⟨u, ?_,XL⟩;have:vs.toArray[off]?=some u:=by simpa using hu
  rw[this];rfl
 ·split at h<;>simp at h;rename_i hle;subst h;refine⟨.agg ((vs.drop off).take ti.size).toArray, ?_,uo ((hv.drop off).take ti.size)⟩;rw[gA (eB ht w)];have:vs.toArray.extract off (off+ti.size)=((vs.drop off).take ti.size).toArray:=by
   simp[List.extract_eq_take_drop]
  rw[this];rfl
theorem VR.PY {p:TV}{x:Value}(hp:VR G p x)(hx:zo p=true):∃vs:List Value,x=.agg vs.toArray/\cr G p.cells vs:=by
 cases hp with
 |t y v h=>
  cases h with
  |agg cs vs hl h=>exact⟨vs,rfl,AQ.HA ⟨hl,h⟩⟩
  |_=>simp[zo] at hx
 |agg cs vs hl h=>exact⟨vs,rfl,hl,h⟩
 |_=>simp[zo] at hx
theorem D7 {p:TV}{x:Value}{n:Nat}(hH:HR G w H)(hp:VR G p x)(h:pU H p n=some v):
 ∃b o,x=.pointer (some ⟨b,o,none⟩)/\VR G v (.pointer (some ⟨b,o+n,none⟩)):=by
 unfold pU at h
 split at h
 ·simp at h;subst h;cases hp with|ptr k o hd hn=>exact⟨_,_,rfl,.ptr _ _ hd hn⟩
 ·rename_i k m o;split at h
  ·rename_i g bE fz cs hk;split at h<;>simp at h;rename_i hm;subst h;obtain⟨hd,he,cap,vs,ty,fr,ha,hh,ht,hs,hl,hv,hf⟩:=hH k _ hk;cases hp with|jB _ _ _ n' PX cap' _ hd' qC hle ho uy=>
    rw[ha] at qC
    simp at qC
    obtain⟨e1,e2,e3⟩:=qC
    have hx:=uy (by omega)
    exact⟨_,_,hx,.jB k m _ cs.length bE cap _ hd ha (by omega) ⟨_,rfl⟩ (λ_=>rfl)⟩
  ·simp at h
 ·simp at h;subst h;cases hp with|jC cs o b o' vals hF hv=>exact⟨b,_,rfl,by rw[Nat.add_assoc];exact .jC _ _ b o' vals hF hv⟩
 ·simp at h
theorem BJ {fd:Field}{ti:TI}{b o:Nat}(ht:bh C.P fd.type=some ti)(hs:ti.size≠0)(w:World):(fieldPlace ⟨b,o,none⟩ fd).run C.P w=.ok ⟨b,o+fd.offset,none⟩ w:=by
 unfold fieldPlace;rw[gA (eB ht w),if_neg hs,nR];rfl
theorem Dz {s:TypeId}{x:Value}{p:TV}{i:Nat}{ti tf:TI}{fs:Array Field}{fd:Field}(hH:HR G w H)(hp:VR G p x)(ht:bh C.P s=some ti)(hd:ti.desc=.struct fs)(hi:fs[i]?=some fd)
 (PZ:bh C.P fd.type=some tf)(hs:tf.size≠0)(h:pU H p fd.offset=some v):∃r,(Instr.fieldAt s x i).run C.P w=.ok r w/\VR G v r:=by
 obtain⟨b,o,rfl,hv⟩:=D7 hH hp h
 refine⟨_, ?_,hv⟩
 obtain⟨_,_,hu,_⟩:=bD ht
 rw[hd] at hu
 simp[Instr.fieldAt,aH hu w,hi,Instr.sureAddr,BJ PZ hs w]
theorem Nq {t:TypeId}{x:Value}{p:TV}{i:Nat}{ti tf:TI}{fs:Array Field}{fd:Field}(hp:VR G p x)(ht:bh C.P t=some ti)(hd:ti.desc=.struct fs)(hi:fs[i]?=some fd)
 (PZ:bh C.P fd.type=some tf)(YI:zo p=true)(h:partT tf.agg tf.size p.cells fd.offset=some v)(w:World):∃r,(Instr.field t x i).run C.P w=.ok r w/\VR G v r:=by
 obtain⟨vs,rfl,hv⟩:=hp.PY YI
 obtain⟨r,h1,h2⟩:=BI PZ hv h w
 refine⟨r, ?_,h2⟩
 obtain⟨_,_,hu,_⟩:=bD ht
 rw[hd] at hu
 simp[Instr.field,aH hu w,hi,asAgg,h1]
theorem p0 {p:TV}{x:Value}{n:Nat}(hp:VR G p x)(h:fV p=some n):∃k,x=.int k (n:Int):=by
 unfold fV at h;split at h
 ·rename_i k m;split at h<;>simp at h;subst h;have:=hp.int;subst this;exact⟨k,by rw[Int.toNat_of_nonneg (by assumption)]⟩
 ·simp at h
theorem Nr {t:TypeId}{x y:Value}{p q:TV}(hp:VR G p x)(hq:VR G q y)(h:pV C.P t p q=some v)(w:World):∃r,(Instr.index t x y).run C.P w=.ok r w/\VR G v r:=by
 unfold pV at h;cases ht:bh C.P t<;>cases hi:fV q<;>simp only[ht,hi,reduceCtorEq] at h;rename_i ti i;obtain⟨k,rfl⟩:=p0 hq hi;obtain⟨_,_,hu,_⟩:=bD ht;split at h
 ·rename_i s hd;have:=hp.str;subst this;rw[hd] at hu;cases hb:s[i]? <;>simp[hb] at h;subst h;refine⟨_, ?_,.t _ _ (.int _ _)⟩;have hs:(ByteArray.mk s.toArray)[i]?=some ‹UInt8›:=by
   obtain⟨h1,h2⟩:=List.getElem?_eq_some_iff.1 hb;rw[getElem?_pos _ _ (by simpa [ByteArray.size] using h1)];have e:(ByteArray.mk s.toArray)[i]'(by simpa [ByteArray.size] using h1)=s[i]:=rfl;rw[e,h2]
  simp[Instr.index,asIntOf,aH hu w,hs]
 ·rename_i len elem hd;cases hte:bh C.P elem<;>simp only[hte,reduceCtorEq] at h;rename_i te;split at h
  ·rename_i hc;obtain⟨h1,h2,h3⟩:=hc;obtain⟨vs,rfl,hv⟩:=hp.PY h3;obtain⟨r,h4,h5⟩:=BI hte hv h w;refine⟨r, ?_,h5⟩;rw[hd] at hu;simp[Instr.index,asIntOf,aH hu w,h1,eB hte w,h4]
  ·simp at h
 ·simp at h
theorem HE {x:Value}{p:TV}{i:Nat}(hp:VR G p x)(h:BA p i=some v)(w:World):∃r,(Instr.extract x i).run C.P w=.ok r w/\VR G v r:=by
 unfold BA at h;split at h
 ·cases hp with|dr _ vs hl hh=>
   obtain⟨u,h1,h2⟩:=cr.at ⟨hl,hh⟩ h
   refine⟨u, ?_,h2⟩
   have:vs.toArray[i]?=some u:=by simpa using h1
   simp[Instr.extract,this]
 ·rename_i cs;cases hp with|t _ _ ht=>cases ht with|dr _ vs hl hh=>
   obtain⟨u,h1,h2⟩:=cr.at (AQ.HA (G:=G) ⟨hl,hh⟩) (by simpa using h)
   refine⟨u, ?_,h2⟩
   have:vs.toArray[i]?=some u:=by simpa using h1
   simp[Instr.extract,this]
 ·simp at h
theorem JV {x:Value}{p:TV}{xt t:TypeId}{ok:Bool}(hp:VR G p x)(h:Fh C.P p t ok=some v)(w:World):∃r,(Instr.typeAssert x xt t ok).run C.P w=.ok r w/\VR G v r:=by
 unfold Fh at h;cases ht:bh C.P t<;>simp only[ht,reduceCtorEq] at h;rename_i ta;obtain⟨_,_,hu,_⟩:=bD ht;have hx:∀t' v',(match p with|.iface t v=>some (t,v)|.t (.iface t v)=>some (t,.t v)|_=>none)=some (t',v')->∃y,x=.iface t' y/\VR G v' y:=by
  intro t' v' he;split at he<;>simp at he
  ·obtain⟨rfl,rfl⟩:=he;cases hp with|iface _ _ y hy=>exact⟨y,rfl,hy⟩
  ·obtain⟨rfl,rfl⟩:=he;cases hp with|t _ _ hy=>cases hy with|iface _ _ y hy=>exact⟨y,rfl,.t _ _ hy⟩
 split at h
 ·simp at h
 ·rename_i t' v' he hni;obtain⟨y,rfl,hy⟩:=hx t' v' he;split at h
  ·rename_i P0;subst P0;simp at h;subst h;refine⟨if ok then .tuple #[y,.bool true] else y, ?_, ?_⟩
   ·unfold Instr.typeAssert;rw[gA (aH hu w)];cases hdd:ta.desc<;>first
     |(exact absurd hdd (hni _))
     |(cases ok<;>simp)
   ·cases ok
    ·exact hy
    ·exact mg (cr.cons hy (cr.one (.t _ _ (.bool true))))
  ·rename_i P0;split at h
   ·rename_i hok;subst hok;cases hz:ta.zero<;>simp[hz] at h;subst h;obtain⟨z,hz1,HF⟩:=fu ht hz w G;refine⟨.tuple #[z,.bool false], ?_,mg (cr.cons HF (cr.one (.t _ _ (.bool false))))⟩;unfold Instr.typeAssert;rw[gA (aH hu w)];cases hdd:ta.desc<;>first
     |(exact absurd hdd (hni _))
     |simp[P0,hz1]
   ·simp at h
 ·simp at h
def sure:Value->Prop
 |.pointer (some _)=>True
 |.func (.func _) _ _=>True
 |_=>False
theorem HG {x:Value}{p:TV}(hp:VR G p x)(h:Hw p=true):sure x:=by
 unfold Hw at h;split at h<;>simp at h
 ·cases hp;trivial
 ·cases hp with|jB _ _ _ _ _ _ _ _ _ _ ho _=>obtain⟨_,rfl⟩:=ho;trivial
 ·cases hp;trivial
 ·cases hp with|t _ _ hp=>cases hp;trivial
 ·cases hp;trivial
end
end Go.Abs
namespace Go.Abs
open Go
theorem Tree.BK {x:Tree}(h:x.leaf=true):x.cells=[x]:=by cases x<;>simp_all [Tree.leaf,Tree.cells]
theorem sG {g:Bool}{size:Nat}:∀{n:Nat} {cs es:List Tree},chunk g size n cs=some es->es.length=n/\flat es=cs/\∀e∈es,e.cells.length=size:=by
 intro n;induction n with
 | zero=>
   intro cs es h
   simp only[chunk] at h
   split at h<;>simp at h
   rename_i hc
   subst h
   simp at hc
   subst hc
   simp[flat]
 | succ n ih =>
   intro cs es h
   simp only[chunk] at h
   split at h
   · rename_i hle
     cases hr:chunk g size n (cs.drop size) with
     |none=>rw[hr] at h;simp at h
     | some r=>
       rw[hr] at h
       simp only at h
       obtain⟨h1,h2,h3⟩:=ih hr
       split at h
       · simp at h;subst h
         refine⟨by simp[h1], ?_,λe he=> ?_⟩
         · simp only[flat,List.flatMap_cons,Tree.cells] at h2 ⊢
           rw[h2,List.take_append_drop]
         · rcases List.mem_cons.1 he with rfl|he
           · simp[Tree.cells,hle]
           · exact h3 e he
       · split at h
         · rename_i c rest
           split at h<;>simp at h
           rename_i hc
           obtain⟨rfl,hl⟩:=hc
           subst h
           refine⟨by simp[h1], ?_,λe he=> ?_⟩
           · simp only[flat,List.flatMap_cons,Tree.BK hl] at h2 ⊢
             rw[h2];simp
           · rcases List.mem_cons.1 he with rfl|he
             · simp[Tree.BK hl]
             · exact h3 e he
         · simp at h
   · simp at h
section
variable {G:Gh}{w:World}{H:Heap}
open Classical in
noncomputable def Fp (G:Gh)(w:World)(H:Heap)(ks:List Nm):uh:=λb o=>
 if ∃k,k∈ks/\G.dom k/\∃g e fz cs,H.get k=some (.arr g e fz cs)/\G.mu k=b/\o<cs.length then w.cell? ⟨b,o,none⟩ else G.F b o
noncomputable def Gh.frozen (G:Gh)(w:World)(H:Heap)(ks:List Nm):Gh:={G with F:=Fp G w H ks}
theorem uz (hw:WF G w)(ks:List Nm):∀b o v,G.F b o=some v->Fp G w H ks b o=some v:=by
 intro b o v h;unfold Fp;split
 ·obtain⟨vs,ty,fr,h1,h2⟩:=hw.F b o v h;rw[cell_of h1];exact h2
 ·exact h
theorem zx (    hw:WF G w)(hH:HR G w H)(ks:List Nm):∀(n:Nat) (v:TV) (x:Tree) (k0:List Nm) (val:Value),pq H n v=some (x,k0)->(∀k∈k0,k∈ks)->VR G v val->VT (Fp G w H ks) x val:=by
 intro n;induction n with
 | zero=>
   intro v x k0 val h hk hv
   cases v<;>simp only[pq] at h<;>try (simp at h;done)
   · simp at h;obtain⟨rfl,rfl⟩:=h;exact hv.tree.mono (uz hw ks)
   · simp at h;obtain⟨rfl,rfl⟩:=h;cases hv;exact .zm _ _
   · simp at h;obtain⟨rfl,rfl⟩:=h;cases hv with|j4 _ _ hv=>exact hv.mono (uz hw ks)
 | succ n ih =>
   have ihs:∀(vs:List TV) (xs:List Tree) (k0:List Nm) (vals:List Value),xT (pq H n) vs=some (xs,k0)->(∀k∈k0,k∈ks)->cr G vs vals->AQ (Fp G w H ks) xs vals:=by
     intro vs
     induction vs with
     |nil=>intro xs k0 vals h _ hv;simp[xT] at h;obtain⟨rfl,rfl⟩:=h;have:=hv.1;simp at this;subst this;exact AQ.nil _
     | cons v r ihr=>
       intro xs k0 vals h hk hv
       obtain⟨u,us,rfl,h1,h2⟩:=hv.gQ
       simp only[xT] at h
       cases h3:pq H n v<;>cases h4:xT (pq H n) r<;>simp[h3,h4] at h
       rename_i p q
       obtain⟨rfl,rfl⟩:=h
       exact AQ.cons (ih v p.1 p.2 u (by rw[h3]) (λk hk'=>hk k (List.mem_append.2 (.inl hk'))) h1)
         (ihr q.1 q.2 us (by rw[h4]) (λk hk'=>hk k (List.mem_append.2 (.inr hk'))) h2)
   intro v x k0 val h hk hv
   cases v with
   |any=>simp[pq] at h
   |t y=>simp only[pq] at h;simp at h;obtain⟨rfl,rfl⟩:=h;exact hv.tree.mono (uz hw ks)
   |bJ=>simp only[pq] at h;simp at h;obtain⟨rfl,rfl⟩:=h;cases hv;exact .zm _ _
   |j4 es=>simp only[pq] at h;simp at h;obtain⟨rfl,rfl⟩:=h;cases hv with|j4 _ _ hv=>exact hv.mono (uz hw ks)
   | ref k off len =>
     simp only[pq] at h
     split at h
     · rename_i g bE fz cs hk'
       split at h
       · rename_i hc
         obtain⟨hpos,hlen⟩:=hc
         split at h
         · rename_i ts ks' hts
           split at h
           · rename_i es wD
             simp at h
             obtain⟨rfl,rfl⟩:=h
             obtain⟨hd,he,cap,vs,ty,fr,ha,hh,ht,hs,hl,hvs,hf⟩:=hH k _ hk'
             cases hv with|ref _ _ _ n' PX cap' _ hd' qC hle ho uy=>
               rw[ha] at qC
               simp at qC
               obtain⟨e1,e2,e3⟩:=qC
               subst e2;subst e3
               obtain⟨a,rfl,abh⟩:=uy (by rw[hlen];exact e1)
               obtain⟨c1,c2,c3⟩:=sG wD
               by_cases hne:es=[]
               · subst hne
                 simp at c1
                 subst c1
                 exact .zm _ _
               · have L8:len≠0:=by intro e;subst e;exact hne (List.length_eq_zero_iff.1 c1)
                 have hcap:off+len<=cap:=by
                   have:(off+len) *bE<=cap*bE:=by rw[hlen,← hs];exact hl
                   exact Nat.le_of_mul_le_mul_right this hpos
                 rw[abh (by omega),← c1]
                 have hsub:=(hvs.drop (off*bE)).take (len*bE)
                 have hVT:=ihs _ ts ks' _ hts (λk hk2=>hk k (List.mem_cons_of_mem _ hk2)) hsub
                 have htl:ts.length=len*bE:=by
                   have:=hVT.1
                   have h2:=hsub.1
                   simp at h2 this
                   rw[← this,h2]
                   have:(off+len) *bE=off*bE+len*bE:=Nat.add_mul _ _ _
                   omega
                 have hmul:(off+len) *bE=off*bE+len*bE:=Nat.add_mul _ _ _
                 refine .sl bE es (G.mu k) (off*bE) (cap - off) (λj=>vs.toList.getD (off*bE+j) undef) hne (by omega) c3 ?_ ?_
                 · intro j c hj
                   rw[c2] at hj
                   have hjl:j<ts.length:=(List.getElem?_eq_some_iff.1 hj).1
                   have hbound:off*bE+j<cs.length:=by omega
                   unfold Fp
                   rw[if_pos ⟨k,hk k List.mem_cons_self,hd,g,bE,fz,cs,hk',rfl,hbound⟩,cell_of hh]
                   have:off*bE+j<vs.size:=by omega
                   simp[List.getD,this]
                 · intro j c hj
                   rw[c2] at hj
                   have hjl:j<ts.length:=(List.getElem?_eq_some_iff.1 hj).1
                   have hbound:off*bE+j<cs.length:=by omega
                   have hvl:off*bE+j<vs.size:=by omega
                   refine hVT.2 j c _ hj ?_
                   rw[List.getElem?_take,if_pos (by omega),List.getElem?_drop,List.getElem?_take,if_pos hbound]
                   simp[List.getD,hvl]
           · simp at h
         · simp at h
       · simp at h
     · simp at h
   | agg cs=>
     simp only[pq] at h
     cases h1:xT (pq H n) cs<;>simp[h1] at h
     obtain⟨rfl,rfl⟩:=h
     cases hv with|agg _ vs hl hh=>exact(ihs cs _ _ vs (by rw[h1]) hk ⟨hl,hh⟩).agg
   | dr cs=>
     simp only[pq] at h
     cases h1:xT (pq H n) cs<;>simp[h1] at h
     obtain⟨rfl,rfl⟩:=h
     cases hv with|dr _ vs hl hh=>exact(ihs cs _ _ vs (by rw[h1]) hk ⟨hl,hh⟩).dr
   | iface ty y=>
     simp only[pq] at h
     cases h1:pq H n y<;>simp[h1] at h
     obtain⟨rfl,rfl⟩:=h
     cases hv with|iface _ _ u hu=>exact .iface _ _ _ (ih y _ _ u (by rw[h1]) hk hu)
   | fn f fs cs=>
     cases fs<;>cases cs<;>simp only[pq] at h<;>simp at h
     obtain⟨rfl,rfl⟩:=h
     cases hv with|fn _ _ _ vs ws hl _ hl' _=>simp at hl hl';subst hl;subst hl';exact .fn f
   |ptr=>simp[pq] at h
   |jB=>simp[pq] at h
   |jC=>simp[pq] at h
   |map=>simp[pq] at h
theorem iJ (hw:WF G w)(hH:HR G w H)(ks:List Nm):Step (λk=>k∈ks/\∃g e fz cs,H.get k=some (.arr g e fz cs)) (λ_=>False) G w (G.frozen w H ks) w:=by
 refine⟨⟨uz hw ks,λ_ d=>d,λ_ _ a=>⟨a,rfl⟩,λ_ n e c _ a=>⟨n,e,c,a,Nat.le_refl _,λ_=>⟨rfl,rfl,rfl⟩,.inl rfl⟩⟩,⟨λb o v h=> ?_,hw.inj,hw.lt⟩,λ_ _ _=>⟨rfl,rfl⟩,λb hb hn=>⟨rfl,λo=> ?_⟩,λ_ d=>.inl d,λk d=>.inl ⟨k,d,rfl,.inl rfl⟩,Nat.le_refl _,rfl,rfl,rfl⟩
 ·simp only[Gh.frozen,Fp] at h;split at h
  ·unfold World.cell? at h;split at h
   ·rename_i c ty fr hb;simp at h;exact⟨c,ty,fr,hb,h⟩
   ·simp at h
  ·exact hw.F b o v h
 ·simp only[Gh.frozen,Fp];rw[if_neg];rintro ⟨k,hk,hd,g,e,fz,cs,h1,h2,h3⟩;exact hn k ⟨hk,g,e,fz,cs,h1⟩ hd ((hH k _ h1).2.alive (by simp)) h2
theorem HH {H:Heap}{ks:List Nm}{k:Nm}{ob:aO}(h:(k,ob)∈cH H ks):k∈ks/\∃g e fz cs,H.get k=some (.arr g e fz cs)/\ob=.arr g e true cs:=by
 unfold cH at h;rw[List.mem_filterMap] at h;obtain⟨k',hk',h⟩:=h;split at h
 ·rename_i g e fz cs hg;simp at h;obtain⟨rfl,rfl⟩:=h;exact⟨hk',g,e,fz,cs,hg,rfl⟩
 ·simp at h
theorem mC {H:Heap}{ks:List Nm}{k:Nm}(hk:k∈ks)(h:∃g e fz cs,H.get k=some (.arr g e fz cs)):k∈(cH H ks).map (·.1):=by
 obtain⟨g,e,fz,cs,hg⟩:=h;rw[List.mem_map];refine⟨(k,.arr g e true cs), ?_,rfl⟩;unfold cH;rw[List.mem_filterMap];exact⟨k,hk,by rw[hg]⟩
theorem rB (hw:WF G w)(hH:HR G w H){ks:List Nm}{k:Nm}{ob:aO}(h:(k,ob)∈cH H ks):(G.frozen w H ks).dom k/\OR (G.frozen w H ks) w k ob:=by
 obtain⟨hk,g,e,fz,cs,hg,rfl⟩:=HH h;obtain⟨hd,he,cap,vs,ty,fr,ha,hh,ht,hs,hl,hv,hf⟩:=hH k _ hg;refine⟨hd,he,cap,vs,ty,fr,ha,hh,ht,hs,hl,hv.mono (iJ hw hH ks).le,λo ho=> ?_⟩;rcases ho with ho|ho
 ·simp at ho
 ·simp only[Gh.frozen,Fp];rw[if_neg]
  ·exact hf o (.inr ho)
  ·rintro ⟨k',hk',hd',g',e',fz',cs',h1,h2,h3⟩;have:=hw.inj k' k hd' hd ((hH k' _ h1).2.alive (by simp)) (Gh.iF ha he) h2;subst this;rw[hg] at h1;simp at h1;obtain⟨_,_,_,rfl⟩:=h1;omega
end
end Go.Abs
