/- The abstract interpreter: trees and abstract values, the heap of a call, the operations on them. Program-independent. -/
import Derived.WalkKit
set_option linter.unusedVariables false
set_option linter.unusedSimpArgs false
namespace Go.Abs
open Go
inductive Nm where
 |arg (i:Nat)
 |loc (p:List Nat)
 deriving DecidableEq,Repr,Inhabited
inductive Tree where
 |bool (b:Bool)
 |int (k:IntKind) (n:Int)
 |str (s:List UInt8)
 |sl (es:List Tree)
 |agg (cs:List Tree)
 |cv (vs:List Tree)
 |bT
 |iI
 |rD
 |fn (f:Fn)
 |zj
 |iface (t:TypeId) (v:Tree)
 deriving Inhabited
inductive TV where
 |t (x:Tree)
 |cc
 |jS (es:List Tree)
 |ref (k:Nm) (off len:Nat)
 |agg (cs:List TV)
 |cv (vs:List TV)
 |ptr (k:Nm) (off:Nat)
 |js (k:Nm) (n off:Nat)
 |jt (cs:List Tree) (off:Nat)
 |map (k:Nm)
 |fn (f:Fn) (first captured:List TV)
 |iface (t:TypeId) (v:TV)
 |any
 deriving Inhabited
inductive aO where
 |cells (ty:TypeId) (cs:List TV)
 |arr (g:TypeId×Bool) (bD:Nat) (fz:Bool) (cs:List TV)
 |map (es:List (TV×TV×Nat)) (clock:Nat)
 |dead
 deriving Inhabited
abbrev Heap:=List (Nm×aO)
def Heap.get (H:Heap)(k:Nm):Option aO:=
 match H with
 | []=>none
 |(k',o)::r=>if k'=k then some o else Heap.get r k
def Heap.put (H:Heap)(k:Nm)(o:aO):Heap:=
 match H with
 | []=>[(k,o)]
 |(k',o')::r=>if k'=k then(k,o)::r else(k',o')::Heap.put r k o
def Heap.dX (H:Heap)(u:List (Nm×aO)):Heap:=u.foldl (λh p=>h.put p.1 p.2) H
def Tree.cells:Tree->List Tree
 |.agg cs=>cs
 |x=>[x]
def TV.cells:TV->List TV
 |.t (.agg cs)=>cs.map .t
 |.agg cs=>cs
 |v=>[v]
def Tree.leaf:Tree->Bool
 |.agg _=>false
 |.cv _=>false
 |_=>true
def TV.leaf:TV->Bool
 |.t x=>x.leaf
 |.any=>false
 |.agg _=>false
 |.cv _=>false
 |_=>true
def AQ:TV->Bool
 |.t (.agg _)=>true
 |.agg _=>true
 |_=>false
def allT:List TV->Option (List Tree)
 | []=>some []
 |.t x::r=>match allT r with
  |some xs=>some (x::xs)
  |none=>none
 |_::_=>none
def xY (cs:List TV):TV:=
 match allT cs with
 |some ts=>.t (.agg ts)
 |none=>.agg cs
def pP (cs:List TV):TV:=
 match allT cs with
 |some ts=>.t (.cv ts)
 |none=>.cv cs
def bS:TV:=.t (.cv [])
def flat (es:List Tree):List Tree:=es.flatMap Tree.cells
def ym:Value->Option TV
 |.bool b=>some (.t (.bool b))
 |.int k n=>some (.t (.int k n))
 |.string s=>some (.t (.str s.data.toList))
 |.slice none 0 0=>some .cc
 |.pointer none=>some (.t .bT)
 |.map none=>some (.t .iI)
 |.nilFunc=>some (.t .rD)
 |.nilIface=>some (.t .zj)
 |.func f fs cs=>if fs.isEmpty&&cs.isEmpty then some (.t (.fn f)) else none
 |_=>none
def lR:List Value->Option (List TV)
 | []=>some []
 |v::r=>match ym v,lR r with
  |some x,some xs=>some (x::xs)
  |_,_=>none
def valOf:Value->Option TV
 |.agg cs=>match lR cs.toList with
  |some xs=>some (xY xs)
  |none=>none
 |.tuple cs=>match lR cs.toList with
  |some xs=>some (pP xs)
  |none=>none
 |v=>ym v
def CW:TV->Option Value
 |.t (.bool b)=>some (.bool b)
 |.t (.int k n)=>some (.int k n)
 |.t (.str s)=>some (.string ⟨s.toArray⟩)
 |.cc=>some (.slice none 0 0)
 |.t .bT=>some (.pointer none)
 |.t .iI=>some (.map none)
 |.t .rD=>some .nilFunc
 |.t .zj=>some .nilIface
 |_=>none
def pT:List TV->Option (List Value)
 | []=>some []
 |v::r=>match CW v,pT r with
  |some x,some xs=>some (x::xs)
  |_,_=>none
def CX:TV->Option Value
 |.t (.agg cs)=>match pT (cs.map .t) with
  |some vs=>some (.agg vs.toArray)
  |none=>none
 |.agg cs=>match pT cs with
  |some vs=>some (.agg vs.toArray)
  |none=>none
 |v=>CW v
def jT:TV->Option Value
 |.t (.iface t x)=>match CX (.t x) with
  |some v=>some (.iface t v)
  |none=>none
 |.iface t x=>match CX x with
  |some v=>some (.iface t v)
  |none=>none
 |v=>CX v
def cQ {α:Type}(P:Program):Sem α->Option α
 |.pure a=>some a
 |.program k=>cQ P (k P)
 |_=>none
structure TI where
 size:Nat
 bytes:Nat
 agg:Bool
 zero:Option TV
 desc:TypeDesc
def Sg (P:Program)(t:TypeId):Option TI:=
 match P.info? t,P.underlying t with
 |some i,some d=>some {size:=i.size,bytes:=i.bytes,agg:=(match d with|.struct _|.array _ _=>true|_=>false),zero:=i.zero.bind valOf,desc:=d}
 |_,_=>none
structure iE where
 prog:Program
 ty:TypeId->Option TI
 fn:FuncId->Option Func
 adu:∀t i,ty t=some i->Sg prog t=some i
 P9:∀f g,fn f=some g->prog.funcs[f]?=some g
instance:Coe iE Program:=⟨iE.prog⟩
def bf (P:iE)(t:TypeId):Option TI:=P.ty t
def partT (agg:Bool)(size:Nat)(cs:List TV)(off:Nat):Option TV:=
 if agg then(if off+size<=cs.length then some (xY ((cs.drop off).take size)) else none) else cs[off]?
def tP (H:Heap):TV->Option (List TV×Nat)
 |.ptr k off=>match H.get k with
  |some (.cells _ cs)=>some (cs,off)
  |_=>none
 |.js k n off=>match H.get k with
  |some (.arr _ _ _ cs)=>if cs.length=n then some (cs,off) else none
  |_=>none
 |.jt cs off=>some (cs.map .t,off)
 |_=>none
def loadT (P:iE)(H:Heap)(t:TypeId)(a:TV):Option TV:=
 match bf P t,tP H a with
 |some ti,some (cs,off)=>partT ti.agg ti.size cs off
 |_,_=>none
def cD (cs:List TV)(off:Nat)(vs:List TV):List TV:=cs.take off++vs++cs.drop (off+vs.length)
def storeT (P:iE)(H:Heap)(t:TypeId)(a x:TV):Option (List (Nm×aO)):=
 match bf P t with
 |none=>none
 | some ti=>
  if x.cells.length=ti.size/\x.cells.all TV.leaf=true then
   match a with
   |.ptr k off=>match H.get k with
    |some (.cells ty cs)=>if off+ti.size<=cs.length then some [(k,.cells ty (cD cs off x.cells))] else none
    |_=>none
   |.js k n off=>match H.get k with
    |some (.arr g bD false cs)=>if cs.length=n/\off+ti.size<=cs.length then some [(k,.arr g bD false (cD cs off x.cells))] else none
    |_=>none
   |_=>none
  else none
def qo (H:Heap)(a:TV)(n:Nat):Option TV:=
 match a with
 |.ptr k o=>some (.ptr k (o+n))
 |.js k m o=>match H.get k with
  |some (.arr _ _ _ cs)=>if cs.length=m then some (.js k m (o+n)) else none
  |_=>none
 |.jt cs o=>some (.jt cs (o+n))
 |_=>none
def rE (place:Nat->Option (Nat×Nat))(cells:List TV):List (Nat×TV)->Option (List TV)
 | []=>some cells
 |(i,v)::rest=>
  match place i with
  |none=>none
  |some (off,size)=>if v.cells.length=size/\off+size<=cells.length/\v.cells.all TV.leaf=true then rE place (cD cells off v.cells) rest else none
def jU (P:iE)(fs:List Field):Option (List (Nat×Nat)):=
 match fs with
 | []=>some []
 |f::r=>match bf P f.type,jU P r with
  |some ti,some ps=>some ((f.offset,ti.size)::ps)
  |_,_=>none
def Mq (P:iE)(t:TypeId)(parts:List (Nat×TV)):Option TV:=
 match bf P t with
 |none=>none
 | some ti=>
  match ti.zero,ti.desc with
  | some z,.struct fs=>match jU P fs.toList with
   |some ps=>match rE (λi=>ps[i]?) z.cells parts with
    |some cs=>some (xY cs)
    |none=>none
   |none=>none
  | some z,.array _ elem=>match bf P elem with
   |some te=>match rE (λi=>some (i*te.size,te.size)) z.cells parts with
    |some cs=>some (xY cs)
    |none=>none
   |none=>none
  |_,_=>none
def chunk (agg:Bool)(size:Nat):Nat->List Tree->Option (List Tree)
 |0,cs=>if cs.isEmpty then some [] else none
 | n+1,cs=>
  if size<=cs.length then
   match chunk agg size n (cs.drop size) with
   |some r=>if agg then some (.agg (cs.take size)::r) else match cs with
    |c::_=>if size=1/\c.leaf=true then some (c::r) else none
    | []=>none
   |none=>none
  else none
def r7 (n:Nat)(z:List TV):List TV:=match n with
 |0=>[]
 |n+1=>z++r7 n z
def fA:TV->Option Nat
 |.t (.int _ n)=>if 0<=n then some n.toNat else none
 |_=>none
abbrev vI:=Nat->Nat->Option Value
inductive VT (F:vI):Tree->Value->Prop
 |bool (b):VT F (.bool b) (.bool b)
 |int (k n):VT F (.int k n) (.int k n)
 |str (s):VT F (.str s) (.string ⟨s.toArray⟩)
 |AO (a cap):VT F (.sl []) (.slice a 0 cap)
 | sl (bD es b o cap) (vals:Nat->Value) (hne:es≠ []) (hc:es.length<=cap)
   (hu:∀e∈es,e.cells.length=bD) (hF:∀j c,(flat es)[j]?=some c->F b (o+j)=some (vals j))
   (hv:∀j c,(flat es)[j]?=some c->VT F c (vals j)):VT F (.sl es) (.slice (some ⟨b,o,none⟩) es.length cap)
 |agg (cs) (vs:List Value) (hl:vs.length=cs.length) (h:∀(j:Nat) c v,cs[j]?=some c->vs[j]?=some v->VT F c v):VT F (.agg cs) (.agg vs.toArray)
 |cv (cs) (vs:List Value) (hl:vs.length=cs.length) (h:∀(j:Nat) c v,cs[j]?=some c->vs[j]?=some v->VT F c v):VT F (.cv cs) (.tuple vs.toArray)
 |bT:VT F .bT (.pointer none)
 |iI:VT F .iI (.map none)
 |rD:VT F .rD .nilFunc
 |fn (f):VT F (.fn f) (.func f #[] #[])
 |zj:VT F .zj .nilIface
 |iface (t x v) (h:VT F x v):VT F (.iface t x) (.iface t v)
theorem VT.mono {F F':vI}(hF:∀b o v,F b o=some v->F' b o=some v){x:Tree}{v:Value}(h:VT F x v):VT F' x v:=by
 induction h with
 |bool=>exact .bool _
 |int=>exact .int _ _
 |str=>exact .str _
 |AO a c=>exact .AO a c
 |sl e es b o cap vals hne hc hu hf hv ih=>exact .sl e es b o cap vals hne hc hu (λj c h=>hF _ _ _ (hf j c h)) ih
 |agg cs vs hl h ih=>exact .agg cs vs hl ih
 |cv cs vs hl h ih=>exact .cv cs vs hl ih
 |bT=>exact .bT
 |iI=>exact .iI
 |rD=>exact .rD
 |fn=>exact .fn _
 |zj=>exact .zj
 |iface t x v h ih=>exact .iface t x v ih
structure Gh where
 F:vI
 mu:Nm->Nat
 arr:Nm->Option (Nat×Nat×Nat)
 dom:Nm->Prop
def one:Value->Bool
 |.agg _=>false
 |.tuple _=>false
 |_=>true
inductive VR (G:Gh):TV->Value->Prop
 |t (x v) (h:VT G.F x v):VR G (.t x) v
 |cc:VR G .cc (.slice none 0 0)
 |jS (es a) (h:VT G.F (.sl es) (.slice a es.length es.length)):VR G (.jS es) (.slice a es.length es.length)
 | ref (k off len n bD cap v) (hd:G.dom k) (ha:G.arr k=some (n,bD,cap)) (hle:(off+len) *bD<=n) (ho:∃a c,v=.slice a len c)
   (hv:(off+len) *bD=n->∃a,v=.slice a len (cap - off)/\(off<cap->a=some ⟨G.mu k,off*bD,none⟩)):VR G (.ref k off len) v
 |agg (cs) (vs:List Value) (hl:vs.length=cs.length) (h:∀(j:Nat) c v,cs[j]?=some c->vs[j]?=some v->VR G c v):VR G (.agg cs) (.agg vs.toArray)
 |cv (cs) (vs:List Value) (hl:vs.length=cs.length) (h:∀(j:Nat) c v,cs[j]?=some c->vs[j]?=some v->VR G c v):VR G (.cv cs) (.tuple vs.toArray)
 |ptr (k off) (hd:G.dom k) (hn:G.arr k=none):VR G (.ptr k off) (.pointer (some ⟨G.mu k,off,none⟩))
 |js (k n off n' bD cap v) (hd:G.dom k) (ha:G.arr k=some (n',bD,cap)) (hle:n<=n') (ho:∃ad,v=.pointer (some ad)) (hv:n=n'->v=.pointer (some ⟨G.mu k,off,none⟩)):VR G (.js k n off) v
 | jt (cs off b o) (vals:Nat->Value) (hF:∀j c,cs[j]?=some c->G.F b (o+j)=some (vals j)) (hv:∀j c,cs[j]?=some c->VT G.F c (vals j)):
   VR G (.jt cs off) (.pointer (some ⟨b,o+off,none⟩))
 |map (k) (hd:G.dom k) (hn:G.arr k=none):VR G (.map k) (.map (some (G.mu k)))
 | fn (f fs cs) (vs ws:List Value) (hl:vs.length=fs.length) (h:∀(j:Nat) c v,fs[j]?=some c->vs[j]?=some v->VR G c v)
   (hl':ws.length=cs.length) (h':∀(j:Nat) c v,cs[j]?=some c->ws[j]?=some v->VR G c v):VR G (.fn f fs cs) (.func f vs.toArray ws.toArray)
 |iface (t x v) (h:VR G x v):VR G (.iface t x) (.iface t v)
 |any (v):VR G .any v
structure Gh.le (G G':Gh):Prop where
 F:∀b o v,G.F b o=some v->G'.F b o=some v
 dom:∀k,G.dom k->G'.dom k
 plain:∀k,G.dom k->G.arr k=none->G'.arr k=none/\G'.mu k=G.mu k
 arr:∀k n e c,G.dom k->G.arr k=some (n,e,c)->∃n' e' c',G'.arr k=some (n',e',c')/\n<=n'/\(n=n'->e'=e/\c'=c/\G'.mu k=G.mu k)/\(e'=e\/e'=0)
def Gh.alive (G:Gh)(k:Nm):Prop:=∀n c,G.arr k≠some (n,0,c)
theorem Gh.jf {G:Gh}{k:Nm}(h:G.arr k=none):G.alive k:=λn c e=>by rw[h] at e;cases e
theorem Gh.fW {G:Gh}{k:Nm}{n e c:Nat}(h:G.arr k=some (n,e,c))(he:0<e):G.alive k:=λn' c' x=>by rw[h] at x;cases x;omega
theorem Gh.le.alive {G G':Gh}(h:G.le G'){k:Nm}(d:G.dom k)(ha:G'.alive k):G.alive k:=λn c e=>by
 obtain⟨n',e',c',a,_,_,r⟩:=h.arr k n 0 c d e;rcases r with rfl|rfl<;>exact ha _ _ a
theorem Gh.le.refl (G:Gh):G.le G:=⟨λ_ _ _ h=>h,λ_ h=>h,λ_ _ h=>⟨h,rfl⟩,λ_ n e c _ h=>⟨n,e,c,h,Nat.le_refl _,λ_=>⟨rfl,rfl,rfl⟩,.inl rfl⟩⟩
theorem Gh.le.trans {A B C:Gh}(h:A.le B)(k:B.le C):A.le C:=by
 refine⟨λb o v x=>k.F _ _ _ (h.F _ _ _ x),λx d=>k.dom _ (h.dom _ d),λx d a=> ?_,λx n e c d a=> ?_⟩
 ·obtain⟨a1,m1⟩:=h.plain x d a;obtain⟨a2,m2⟩:=k.plain x (h.dom _ d) a1;exact⟨a2,m2.trans m1⟩
 ·obtain⟨n1,f1,c1,a1,l1,e1,o1⟩:=h.arr x n e c d a;obtain⟨n2,f2,c2,a2,l2,e2,o2⟩:=k.arr x n1 f1 c1 (h.dom _ d) a1;refine⟨n2,f2,c2,a2,Nat.le_trans l1 l2,λe=> ?_, ?_⟩
  ·obtain⟨g1,p1,q1⟩:=e1 (by omega);obtain⟨g2,p2,q2⟩:=e2 (by omega);exact⟨g2.trans g1,p2.trans p1,q2.trans q1⟩
  ·rcases o2 with rfl|rfl
   ·exact o1
   ·exact .inr rfl
theorem VR.mono {G G':Gh}(hG:G.le G'){x:TV}{v:Value}(h:VR G x v):VR G' x v:=by
 induction h with
 |t x v h=>exact .t x v (h.mono hG.F)
 |cc=>exact .cc
 |jS es a h=>exact .jS es a (h.mono hG.F)
 | ref k off len n bD cap v hd ha hle ho hv=>
   obtain⟨n',f',c',a',l',e',o'⟩:=hG.arr k n bD cap hd ha
   refine .ref k off len n' f' c' v (hG.dom _ hd) a' ?_ ho λhh=> ?_
   · rcases o' with rfl|rfl
     · exact Nat.le_trans hle l'
     · rw[Nat.mul_zero];exact Nat.zero_le _
   · have hn:n=n':=by
       rcases o' with rfl|rfl
       · omega
       · rw[Nat.mul_zero] at hh;omega
     obtain⟨r,p,q⟩:=e' hn
     subst r
     obtain⟨a,hva,hb⟩:=hv (by omega)
     rw[p,q]
     exact⟨a,hva,hb⟩
 |agg cs vs hl h ih=>exact .agg cs vs hl ih
 |cv cs vs hl h ih=>exact .cv cs vs hl ih
 | ptr k off hd hn=>
   obtain⟨a,m⟩:=hG.plain k hd hn
   rw[← m]
   exact .ptr k off (hG.dom _ hd) a
 | js k n off n' bD cap v hd ha hle ho hv=>
   obtain⟨n2,f',c',a',l',e',_⟩:=hG.arr k n' bD cap hd ha
   refine .js k n off n2 f' c' v (hG.dom _ hd) a' (Nat.le_trans hle l') ho λhh=> ?_
   obtain⟨_,p,q⟩:=e' (by omega)
   rw[hv (by omega),q]
 |jt cs off b o vals hF hv=>exact .jt cs off b o vals (λj c h=>hG.F _ _ _ (hF j c h)) (λj c h=>(hv j c h).mono hG.F)
 | map k hd hn=>
   obtain⟨a,m⟩:=hG.plain k hd hn
   rw[← m]
   exact .map k (hG.dom _ hd) a
 |fn f fs cs vs ws hl h hl' h' ih JK=>exact .fn f fs cs vs ws hl ih hl' JK
 |iface t x v h ih=>exact .iface t x v ih
 |any v=>exact .any v
def cB (G:Gh)(cs:List TV)(vs:List Value):Prop:=vs.length=cs.length/\∀(j:Nat) c v,cs[j]?=some c->vs[j]?=some v->VR G c v
theorem cB.mono {G G':Gh}(hG:G.le G'){cs:List TV}{vs:List Value}(h:cB G cs vs):cB G' cs vs:=⟨h.1,λj c v a b=>(h.2 j c v a b).mono hG⟩
theorem cB.nil (G:Gh):cB G [] []:=⟨rfl,by simp⟩
theorem cB.cons {G:Gh}{c:TV}{v:Value}{cs:List TV}{vs:List Value}(h:VR G c v)(hs:cB G cs vs):cB G (c::cs) (v::vs):=by
 refine⟨by simp[hs.1],λj d u hd hu=> ?_⟩;cases j with
 |zero=>simp at hd hu;subst hd;subst hu;exact h
 |succ j=>simp at hd hu;exact hs.2 j d u hd hu
theorem cB.fQ {G:Gh}{c:TV}{cs:List TV}{vs:List Value}(h:cB G (c::cs) vs):∃v vs',vs=v::vs'/\VR G c v/\cB G cs vs':=by
 obtain⟨hl,hp⟩:=h;cases vs with
 |nil=>simp at hl
 |cons v vs'=>
  refine⟨v,vs',rfl,hp 0 c v rfl rfl,by simpa using hl,λj d u hd hu=>hp (j+1) d u (by simpa using hd) (by simpa using hu)⟩
theorem cB.at {G:Gh}{cs:List TV}{vs:List Value}(h:cB G cs vs){j:Nat}{c:TV}(hc:cs[j]?=some c):∃v,vs[j]?=some v/\VR G c v:=by
 have hj:j<cs.length:=(List.getElem?_eq_some_iff.1 hc).1;have hj':j<vs.length:=by rw[h.1];exact hj
 exact⟨vs[j],List.getElem?_eq_getElem hj',h.2 j c _ hc (List.getElem?_eq_getElem hj')⟩
theorem cB.append {G:Gh}{cs ds:List TV}{vs ws:List Value}(h:cB G cs vs)(k:cB G ds ws):cB G (cs++ds) (vs++ws):=by
 refine⟨by simp[h.1,k.1],λj c v hc hv=> ?_⟩;by_cases hj:j<cs.length
 ·rw[List.getElem?_append_left hj] at hc;rw[List.getElem?_append_left (by rw[h.1];exact hj)] at hv;exact h.2 j c v hc hv
 ·rw[List.getElem?_append_right (by omega)] at hc;rw[List.getElem?_append_right (by rw[h.1];omega),h.1] at hv;exact k.2 _ c v hc hv
theorem cB.drop {G:Gh}{cs:List TV}{vs:List Value}(h:cB G cs vs)(n:Nat):cB G (cs.drop n) (vs.drop n):=
 ⟨by simp[h.1],λj c v hc hv=>by rw[List.getElem?_drop] at hc hv;exact h.2 _ c v hc hv⟩
theorem cB.take {G:Gh}{cs:List TV}{vs:List Value}(h:cB G cs vs)(n:Nat):cB G (cs.take n) (vs.take n):=
 ⟨by simp[h.1],λj c v hc hv=>by
  rw[List.getElem?_take] at hc hv
  split at hc
  · rename_i hlt;rw[if_pos hlt] at hv;exact h.2 _ c v hc hv
  · simp at hc⟩
end Go.Abs
noncomputable section
namespace Go.Abs
open Go
def zk (g:TV->Option (Tree×List Nm)):List TV->Option (List Tree×List Nm)
 | []=>some ([],[])
 |v::r=>match g v,zk g r with
  |some (x,ks),some (xs,ks')=>some (x::xs,ks++ks')
  |_,_=>none
def pQ (H:Heap):Nat->TV->Option (Tree×List Nm)
 |_,.t x=>some (x,[])
 |_,.cc=>some (.sl [],[])
 |_,.jS es=>some (.sl es,[])
 |0,_=>none
 | n +1,.ref k off len=>match H.get k with
  | some (.arr g bD _ cs)=>
   if 0<bD/\(off+len) *bD=cs.length then
    match zk (pQ H n) ((cs.drop (off*bD)).take (len*bD)) with
    |some (ts,ks)=>match chunk g.2 bD len ts with
     |some es=>some (.sl es,k::ks)
     |none=>none
    |none=>none
   else none
  |_=>none
 |n+1,.agg cs=>match zk (pQ H n) cs with
  |some (ts,ks)=>some (.agg ts,ks)
  |none=>none
 |n+1,.cv cs=>match zk (pQ H n) cs with
  |some (ts,ks)=>some (.cv ts,ks)
  |none=>none
 |n+1,.iface t v=>match pQ H n v with
  |some (x,ks)=>some (.iface t x,ks)
  |none=>none
 |_+1,.fn f [] []=>some (.fn f,[])
 |_+1,_=>none
def fL:Nat:=24
def Heap.freeze (H:Heap):List Nm->Heap
 | []=>H
 |k::ks=>match H.get k with
  |some (.arr g bD _ cs)=>Heap.freeze (H.put k (.arr g bD true cs)) ks
  |_=>Heap.freeze H ks
def cF:List UInt8->List UInt8->Bool
 |_,[]=>false
 | [],_::_=>true
 |a::x,b::y=>a<b||(a==b&&cF x y)
def Sh:Nat:=4611686018427387904
def Xw (op:BinOp)(x y:List UInt8):Option TV:=
 match op with
 |.add=>if x.length+y.length<=Sh then some (.t (.str (x++y))) else none
 |.eql=>some (.t (.bool (x==y)))
 |.neq=>some (.t (.bool (!(x==y))))
 |.lss=>some (.t (.bool (cF x y)))
 |.leq=>some (.t (.bool (cF x y||x==y)))
 |.gtr=>some (.t (.bool (!(cF x y||x==y))))
 |.geq=>some (.t (.bool (!(cF x y))))
 |_=>none
def F4 (d:TypeDesc)(a b:TV):Option Bool:=
 match d,a,b with
 |.slice _,.cc,.cc=>some true
 |.slice _,.t (.sl (_::_)),.cc=>some false
 |.slice _,.jS (_::_),.cc=>some false
 |.slice _,.ref _ _ _,.cc=>none
 |.map _ _,.t .iI,.t .iI=>some true
 |.map _ _,.map _,.t .iI=>some false
 |.func _ _ _,.t .rD,.t .rD=>some true
 |.func _ _ _,.fn _ _ _,.t .rD=>some false
 |.func _ _ _,.t (.fn _),.t .rD=>some false
 |.pointer _,.t .bT,.t .bT=>some true
 |.pointer _,.ptr _ _,.t .bT=>some false
 |.pointer _,.jt _ _,.t .bT=>some false
 |_,_,_=>none
def tQ (P:iE)(op:BinOp)(t:TypeId)(x y:Operand)(a b:TV):Option TV:=
 match jT a,jT b with
 |some u,some v=>match cQ P (do eqGuard op t x y u v;binOp op t u v) with
  |some r=>valOf r
  |none=>none
 |_,_=>none
def isNil:TV->Bool
 |.cc=>true
 |.t .iI=>true
 |.t .rD=>true
 |.t .bT=>true
 |_=>false
def Qa (op:BinOp)(k:IntKind)(a b:Int):Option TV:=
 match op with
 |.add=>some (.t (.int k (k.wrap (a+b))))
 |.sub=>some (.t (.int k (k.wrap (a - b))))
 |.mul=>some (.t (.int k (k.wrap (a*b))))
 |.quo=>if b=0 then none else some (.t (.int k (k.wrap (a.tdiv b))))
 |.rem=>if b=0 then none else some (.t (.int k (a.tmod b)))
 |.eql=>some (.t (.bool (a==b)))
 |.neq=>some (.t (.bool (a != b)))
 |.lss=>some (.t (.bool (decide (a<b))))
 |.leq=>some (.t (.bool (decide (a<=b))))
 |.gtr=>some (.t (.bool (decide (a>b))))
 |.geq=>some (.t (.bool (decide (a>=b))))
 |_=>none
def r8 (P:iE)(op:BinOp)(t:TypeId)(x y:Operand)(a b:TV):Option TV:=
 match a,b with
 |.t (.str s),.t (.str u)=>Xw op s u
 |.t (.int k n),.t (.int k' m)=>if k=k' then(match Qa op k n m with|some v=>some v|none=>tQ P op t x y (.t (.int k n)) (.t (.int k' m))) else tQ P op t x y (.t (.int k n)) (.t (.int k' m))
 | a,b=>
  if isNil b then
   match op,bf P t with
   |.eql,some ti=>(F4 ti.desc a b).map λr=>.t (.bool r)
   |.neq,some ti=>(F4 ti.desc a b).map λr=>.t (.bool (!r))
   |_,_=>none
  else tQ P op t x y a b
def unT (P:iE)(op:UnOp)(a:TV):Option TV:=
 match jT a with
 |some u=>match cQ P (Op.unary op u) with
  |some r=>valOf r
  |none=>none
 |none=>none
def yo (H:Heap):TV->Option Nat
 |.t (.str s)=>some s.length
 |.t (.sl es)=>some es.length
 |.cc=>some 0
 |.jS es=>some es.length
 |.ref _ _ len=>some len
 |.t .iI=>some 0
 |.map k=>match H.get k with
  |some (.map es _)=>some es.length
  |_=>none
 |_=>none
def iR (H:Heap)(k:Nm)(off len:Nat):Option ((TypeId×Bool)×Nat×Bool×List TV):=
 match H.get k with
 |some (.arr g bD fz cs)=>if 0<bD/\(off+len) *bD=cs.length then some (g,bD,fz,cs) else none
 |_=>none
def dI (P:iE)(H:Heap)(t:TypeId)(x i:TV):Option TV:=
 match bf P t,fA i with
 | some ti,some i=>
  match ti.desc,x with
  |.slice elem,.t (.sl es)=>match bf P elem,es[i]? with
   |some te,some e=>if e.cells.length=te.size then some (.jt e.cells 0) else none
   |_,_=>none
  |.slice elem,.jS es=>match bf P elem,es[i]? with
   |some te,some e=>if e.cells.length=te.size then some (.jt e.cells 0) else none
   |_,_=>none
  |.slice elem,.ref k off len=>match bf P elem,iR H k off len with
   |some te,some (_,bD,_,cs)=>if te.size=bD/\i<len then some (.js k cs.length ((off+i) *bD)) else none
   |_,_=>none
  |.array len elem,x=>match bf P elem with
   |some te=>if i<len then qo H x (i*te.size) else none
   |none=>none
  |_,_=>none
 |_,_=>none
def qp (P:iE)(t:TypeId)(x i:TV):Option TV:=
 match bf P t,fA i with
 | some ti,some i=>
  match ti.desc,x with
  |.string,.t (.str s)=>match s[i]? with
   |some b=>some (.t (.int .u8 b.toNat))
   |none=>none
  |.array len elem,x=>match bf P elem with
   |some te=>if i<len/\te.size≠0/\AQ x=true then partT te.agg te.size x.cells (i*te.size) else none
   |none=>none
  |_,_=>none
 |_,_=>none
def ez (o:Option TV)(d:Nat):Option Nat:=
 match o with
 |none=>some d
 |some v=>fA v
def jV (size:Nat):List Tree->Bool
 | []=>true
 |e::_=>e.cells.length==size
def Qb (tight:Bool)(es:List Tree)(l h:Nat):TV:=if tight then .jS ((es.take h).drop l) else .t (.sl ((es.take h).drop l))
def qq (P:iE)(H:Heap)(t:TypeId)(x:TV)(lo hi mx:Option TV):Option (TV×List Nm):=
 match bf P t with
 |none=>none
 | some ti=>
  match ti.desc with
  | .string=>match x with
   |.t (.str s)=>match ez lo 0,ez hi s.length,mx with
    |some l,some h,none=>if l<=h/\h<=s.length then some (.t (.str ((s.take h).drop l)),[]) else none
    |_,_,_=>none
   |_=>none
  | .slice elem=>match bf P elem,yo H x with
   | some te,some n=>
    match ez lo 0,ez hi n,ez mx n,(mx.isNone||hi.isSome) with
    | some l,some h,some m,true=>
     if l<=h/\h<=m/\m<=n then
      match x with
      |.cc=>some (.cc,[])
      |.t (.sl es)=>if jV te.size es=true then some (Qb (mx.isSome&&m==h) es l h,[]) else none
      |.jS es=>if jV te.size es=true then some (Qb ((mx.isSome&&m==h)||(mx.isNone&&h==n)) es l h,[]) else none
      | .ref k off len=>
       if h=len/\mx.isNone=true then(match iR H k off len with
        |some (_,bD,_,_)=>if bD=te.size then some (.ref k (off+l) (h - l),[]) else none
        |none=>none)
       else match pQ H fL (.ref k off len) with
        |some (.sl es,ks)=>if jV te.size es=true then some (Qb (mx.isSome&&m==h) es l h,ks) else none
        |_=>none
      |_=>none
     else none
    |_,_,_,_=>none
   |_,_=>none
  |_=>none
def yp (P:iE)(H:Heap)(nm:Nm)(t:TypeId)(x:TV)(lo hi mx:Option TV):Option (TV×List (Nm×aO)):=
 match x,lo,hi,mx with
 | .ref k 0 len,none,some hv,none=>(match bf P t,fA hv,iR H k 0 len with
  | some ti,some h,some (g,bD,false,cs)=>(match ti.desc with
   |.slice elem=>(match bf P elem with
    |some te=>if te.size=bD/\h<=len then some (.ref nm 0 h,[(k,.dead),(nm,.arr g bD false (cs.take (h*bD)))]) else none
    |none=>none)
   |_=>none)
  |_,_,_=>none)
 |_,_,_,_=>none
def xZ (b:Bool)(P:iE)(H:Heap)(nm:Nm)(t:TypeId)(x:TV)(lo hi mx:Option TV):Option (TV×List (Nm×aO)):=if b=true then yp P H nm t x lo hi mx else none
theorem Hq {b:Bool}{P:iE}{H:Heap}{nm:Nm}{t:TypeId}{x:Tree}{lo hi mx:Option TV}:xZ b P H nm t (.t x) lo hi mx=none:=by
 cases b<;>rfl
def eO (H:Heap)(g:Bool)(bD:Nat):TV->Option (Nat×List TV)
 |.cc=>some (0,[])
 |.t (.sl es)=>if jV bD es=true then some (es.length,(flat es).map .t) else none
 |.jS es=>if jV bD es=true then some (es.length,(flat es).map .t) else none
 |.ref k off len=>match iR H k off len with
  |some (_,e,_,cs)=>if e=bD then some (len,cs.drop (off*bD)) else none
  |none=>none
 |.t (.str s)=>if bD=1/\g=false then some (s.length,s.map λb=>.t (.int .u8 b.toNat)) else none
 |_=>none
def eP:Nat:=70368744177664
def jM (P:iE)(nm:Nm)(H:Heap)(st xt:TypeId)(s x:TV):Option (TV×List (Nm×aO)):=
 match bf P st,bf P xt with
 | some ti,some tx=>
  match ti.desc,(match tx.desc with|.slice _=>true|.string=>true|_=>false) with
  | .slice elem,true=>match bf P elem with
   | some te=>match te.zero with
    |none=>none
    | some z=>
     if te.size=0\/z.cells.length≠te.size\/te.bytes=0 then none else
     match eO H te.agg te.size x with
     | some (m,cs)=>
      if m=0 then(match s with
       |.cc=>some (.cc,[])
       |.t (.sl es)=>some (.t (.sl es),[])
       |.jS es=>some (.jS es,[])
       |.ref k off len=>if(iR H k off len).isSome=true then some (.ref k off len,[]) else none
       |_=>none)
      else if cs.all TV.leaf=true then
       match s with
       |.cc=>if m*te.bytes<=eP then some (.ref nm 0 m,[(nm,.arr (elem,te.agg) te.size false cs)]) else none
       |.jS es=>match eO H te.agg te.size (.jS es) with
        |some (n,old)=>if(n+m) *te.bytes<=eP then some (.ref nm 0 (n+m),[(nm,.arr (elem,te.agg) te.size false (old++cs))]) else none
        |none=>none
       |.ref k 0 len=>match iR H k 0 len with
        |some (g,e,fz,old)=>if e=te.size/\g.1=elem/\(len+m) *te.bytes<=eP then some (.ref k 0 (len+m),[(k,.arr g e fz (old++cs))]) else none
        |none=>none
       |_=>none
      else none
     |none=>none
   |none=>none
  |_,_=>none
 |_,_=>none
def Si (P:iE)(H:Heap)(dt:TypeId)(d x:TV):Option (TV×List (Nm×aO)):=
 match bf P dt with
 | some ti=>match ti.desc with
  | .slice elem=>match bf P elem with
   | some te=>match d,eO H te.agg te.size x with
    |.cc,some _=>some (.t (.int .i64 0),[])
    |.ref k off len,some (m,cs)=>match iR H k off len with
     |some (g,e,false,old)=>if e=te.size/\cs.all TV.leaf=true then some (.t (.int .i64 ((min m len:Nat):Int)),[(k,.arr g e false (cD old (off*e) (cs.take ((min m len) *e))))]) else none
     |_=>none
    |_,_=>none
   |none=>none
  |_=>none
 |none=>none
def yq (P:iE)(H:Heap)(t:TypeId)(x:TV):Option (TV×List (Nm×aO)):=
 match bf P t with
 | some ti=>match ti.desc with
  | .slice elem=>match bf P elem with
   | some te=>match te.zero,x with
    |some z,.ref k off len=>match iR H k off len with
     |some (g,e,false,old)=>if e=te.size/\z.cells.length=te.size/\z.cells.all TV.leaf=true then some (.t (.cv []),[(k,.arr g e false (cD old (off*e) (r7 len z.cells)))]) else none
     |_=>none
    |_,_=>none
   |none=>none
  |_=>none
 |none=>none
def yu (P:iE)(nm:Nm)(t:TypeId)(len cap:TV):Option (TV×List (Nm×aO)):=
 match bf P t,fA len,fA cap with
 | some ti,some l,some c=>match ti.desc with
  | .slice elem=>match bf P elem with
   |some te=>match te.zero with
    |some z=>if l<=c/\c*te.bytes<=eP/\c<=eP/\0<te.size/\z.cells.length=te.size/\z.cells.all TV.leaf=true then some (.ref nm 0 l,[(nm,.arr (elem,te.agg) te.size false (r7 l z.cells))]) else none
    |none=>none
   |none=>none
  |_=>none
 |_,_,_=>none
def OG:TV->TV
 |.jS es=>.t (.sl es)
 |.cc=>.t (.sl [])
 |x=>x
def rF (P:iE)(jN:Bool)(nm:Nm)(t:TypeId)(len:Nat)(parts:List (Nat×TV)):Option (TV×List (Nm×aO)):=
 match bf P t with
 | some ti=>match ti.desc with
  | .slice elem=>match bf P elem with
   | some te=>match te.zero with
    | some z=>
     if 0<te.size/\len*te.size<=16777216/\z.cells.length=te.size/\z.cells.all TV.leaf=true then
      match rE (λi=>some (i*te.size,te.size)) (r7 len z.cells) parts with
      |some cs=>match jN,(allT (cs.map OG)).bind (chunk te.agg te.size len) with
       |false,some es=>some (.jS es,[])
       |_,_=>some (.ref nm 0 len,[(nm,.arr (elem,te.agg) te.size false cs)])
      |none=>none
     else none
    |none=>none
   |none=>none
  |_=>none
 |none=>none
def JL (P:iE)(kt:TypeId)(d:TypeDesc)(k k':TV):Option Bool:=
 match jT k,jT k' with
 | some u,some u'=>
  match d with
  |.struct _=>match u,u' with
   |.agg _,.agg _=>cQ P (Op.equal kt u u')
   |_,_=>none
  |d=>Instr.sameNow d u u'
 |_,_=>none
def lS (P:iE)(kt:TypeId)(d:TypeDesc)(k:TV):List (TV×TV×Nat)->Nat->Option (Option (Nat×TV×Nat))
 | [],_=>some none
 | (k',v,b)::r,i=>match JL P kt d k k' with
  |some true=>match jT k,jT k' with
   |some u,some u'=>if Instr.sameBits 10000 u' u=true then some (some (i,v,b)) else none
   |_,_=>none
  |some false=>lS P kt d k r (i+1)
  |none=>none
def vJ (P:iE)(empty:Bool)(kt:TypeId)(k:TV):Bool:=
 match jT k with
 |some u=>(cQ P (Instr.checkKey empty 10000 kt u)).isSome
 |none=>false
def mapOf (H:Heap):TV->Option (List (TV×TV×Nat)×Nat)
 |.map k=>match H.get k with
  |some (.map es c)=>some (es,c)
  |_=>none
 |_=>none
def tT (P:iE)(H:Heap)(t:TypeId)(x k:TV)(ok:Bool):Option TV:=
 match bf P t with
 | some ti=>match ti.desc with
  | .map kt et=>match bf P kt,bf P et,(match x with|.t .iI=>some ([],0)|x=>mapOf H x) with
   | some tk,some te,some (es,_)=>
    if vJ P es.isEmpty kt k=true then
     match lS P kt tk.desc k es 0,te.zero with
     |some (some (_,v,_)),_=>some (if ok then pP [v,.t (.bool true)] else v)
     |some none,some z=>some (if ok then pP [z,.t (.bool false)] else z)
     |_,_=>none
    else none
   |_,_,_=>none
  |_=>none
 |none=>none
def jg (P:iE)(H:Heap)(t:TypeId)(x k v:TV):Option (List (Nm×aO)):=
 match bf P t,x with
 | some ti,.map m=>match ti.desc,H.get m with
  | .map kt _,some (.map es c)=>match bf P kt with
   | some tk=>
    if vJ P false kt k=true then
     match lS P kt tk.desc k es 0 with
     |some (some (i,_,b))=>some [(m,.map (es.set i (k,v,b)) c)]
     |some none=>some [(m,.map (es++[(k,v,c)]) (c+1))]
     |none=>none
    else none
   |none=>none
  |_,_=>none
 |_,_=>none
def lz (P:iE)(H:Heap)(t:TypeId)(x k:TV):Option (TV×List (Nm×aO)):=
 match bf P t,x with
 | some ti,.map m=>match ti.desc,H.get m with
  | .map kt et,some (.map es c)=>match bf P kt,bf P et with
   | some tk,some te=>
    if vJ P false kt k=true then
     match lS P kt tk.desc k es 0,te.zero with
     |some (some (i,v,b)),_=>some (pP [v,.t (.int .i64 b)],[(m,.map (es.set i (k,v,b)) c)])
     |some none,some z=>some (pP [z,.t (.int .i64 c)],[(m,.map (es++[(k,z,c)]) (c+1))])
     |_,_=>none
    else none
   |_,_=>none
  |_,_=>none
 |_,_=>none
def pU:List (TV×TV×Nat)->Int->Nat->Option Nat
 | [],_,_=>none
 |(_,_,b)::r,n,i=>if(b:Int)=n then some i else pU r n (i+1)
def jc (H:Heap)(x s v:TV):Option (List (Nm×aO)):=
 match x,s with
 | .map m,.t (.int _ n)=>match H.get m with
  | some (.map es c)=>match pU es n 0 with
   |some i=>match es[i]? with
    |some (k,_,b)=>some [(m,.map (es.set i (k,v,b)) c)]
    |none=>none
   |none=>none
  |_=>none
 |_,_=>none
def bytesOf:List TV->Option (List UInt8)
 | []=>some []
 |.t (.int .u8 n)::r=>match bytesOf r with
  |some bs=>some (UInt8.ofNat n.toNat::bs)
  |none=>none
 |_::_=>none
def sG (P:iE)(jN:Bool)(nm:Nm)(H:Heap)(src dst:TypeId)(x:TV):Option (TV×List (Nm×aO)):=
 match bf P src,bf P dst with
 | some ts,some td=>
  match ts.desc,td.desc,x with
  |.string,.string,.t (.str s)=>some (.t (.str s),[])
  | .string,.slice e,.t (.str s)=>match bf P e with
   |some te=>match te.desc with
    |.int .u8=>if jN then some (.ref nm 0 s.length,[(nm,.arr (e,false) 1 false (s.map λb=>.t (.int .u8 b.toNat)))]) else some (.t (.sl (s.map λb=>.int .u8 b.toNat)),[])
    |_=>none
   |none=>none
  | .slice e,.string,x=>match bf P e with
   | some te=>match te.desc,eO H false 1 x with
    |.int .u8,some (_,cs)=>match bytesOf cs with
     |some bs=>(match x with|.t (.str _)=>none|_=>some (.t (.str bs),[]))
     |none=>none
    |_,_=>none
   |none=>none
  |.int _,.int _,.t (.int k n)=>match cQ P (convert src dst (.int k n)) with
   |some r=>(valOf r).map λv=>(v,[])
   |none=>none
  |_,_,_=>none
 |_,_=>none
def Hr (P:iE)(x:TV)(asserted:TypeId)(ok:Bool):Option TV:=
 match bf P asserted with
 | some ta=>match ta.desc,(match x with|.iface t v=>some (t,v)|.t (.iface t v)=>some (t,.t v)|_=>none) with
  |.interface _,_=>none
  |_,some (t,v)=>
   if t=asserted then some (if ok then pP [v,.t (.bool true)] else v)
   else if ok then ta.zero.map λz=>pP [z,.t (.bool false)] else none
  |_,none=>none
 |none=>none
def CY:TV->Nat->Option TV
 |.cv vs,i=>vs[i]?
 |.t (.cv vs),i=>vs[i]?.map .t
 |_,_=>none
def aaV (f:Fn)(first captured:List TV):TV:=if first.isEmpty/\captured.isEmpty then .t (.fn f) else .fn f first captured
def JM:TV->Bool
 |.ptr _ _=>true
 |.js _ _ _=>true
 |.jt _ _=>true
 |.t (.fn (.func _))=>true
 |.fn (.func _) _ _=>true
 |_=>false
def cT (H:Heap)(ks:List Nm):List (Nm×aO):=ks.filterMap λk=>match H.get k with
 |some (.arr g e _ cs)=>some (k,.arr g e true cs)
 |_=>none
structure cE where
 P:iE
 iT:Nat->Option (List Tree)
 jN:FuncId->Tmp->Bool
def Xx (l:List TV):Nat->TV:=
 List.rec (motive:=λ_=>Nat->TV) (λ_=>bS) (λx _ ih n=>Nat.rec (motive:=λ_=>TV) x (λm _=>ih m) n) l
theorem Hs:∀(l:List TV) (t:Nat),Xx l t=l.getD t bS:=by
 intro l;induction l with
 |nil=>intro t;rfl
 |cons x r ih=>
  intro t
  cases t with
  |zero=>rfl
  |succ t=>exact(ih t).trans (by simp)
def cg (C:cE)(slots:List TV):Operand->Option TV
 |.tmp t=>some (Xx slots t)
 |.const v=>valOf v
 |.global g=>match C.iT g with
  |some cs=>some (.jt cs 0)
  |none=>none
 |.func f=>some (.t (.fn (.func f)))
def iU (C:cE)(slots:List TV):List Operand->Option (List TV)
 | []=>some []
 |x::r=>match cg C slots x,iU C slots r with
  |some v,some vs=>some (v::vs)
  |_,_=>none
def qt (C:cE)(slots:List TV):List (Nat×Operand)->Option (List (Nat×TV))
 | []=>some []
 |(i,x)::r=>match cg C slots x,qt C slots r with
  |some v,some vs=>some ((i,v)::vs)
  |_,_=>none
def vK (C:cE)(slots:List TV):Option Operand->Option (Option TV)
 |none=>some none
 |some x=>(cg C slots x).map some
def zi (v:Option TV):Option (TV×List (Nm×aO)):=v.map λx=>(x,[])
def x4 (u:Option (List (Nm×aO))):Option (TV×List (Nm×aO)):=u.map λx=>(bS,x)
def kY.k9 (k:IntKind):List TV->Option (List Int)
 | []=>some []
 |.t (.int k' y)::r=>match kY.k9 k r with
  |some ys=>if k'=k then some (y::ys) else none
  |none=>none
 |_::_=>none
def kY (mx:Bool):List TV->Option TV
 |.t (.int k x)::r=>match kY.k9 k r with
  |some ys=>some (.t (.int k (ys.foldl (λx y=>if mx then(if y>x then y else x) else(if y<x then y else x)) x)))
  |none=>none
 |_=>none
def kR (C:cE)(nm:Nm)(H:Heap)(b:Builtin)(ats:List TypeId)(args:List TV):Option (TV×List (Nm×aO)):=
 match b,ats,args with
 | .len,[t],[x]=>match bf C.P t with
  |some ti=>match ti.desc with
   |.array n _=>some (.t (.int .i64 n),[])
   |.string=>(match x with|.t (.str s)=>some (.t (.int .i64 s.length),[])|_=>none)
   |.slice _=>(match x with|.t (.str _)=>none|.t .iI=>none|.map _=>none|x=>(yo H x).map λn=>(.t (.int .i64 n),[]))
   |.map _ _=>(match x with|.t .iI=>some (.t (.int .i64 0),[])|.map k=>(yo H (.map k)).map λn=>(.t (.int .i64 n),[])|_=>none)
   |_=>none
  |none=>none
 |.append,[s,t],[x,y]=>jM C.P nm H s t x y
 |.copy,[s,_],[x,y]=>Si C.P H s x y
 |.clear,[t],[x]=>yq C.P H t x
 |.min,_,xs=>zi (kY false xs)
 |.max,_,xs=>zi (kY true xs)
 | .cap,[t],[.cc]=>match bf C.P t with
  |some ti=>(match ti.desc with
   |.slice _=>some (.t (.int .i64 0),[])
   |_=>none)
  |none=>none
 |_,_,_=>none
def evalOp (C:cE)(f:FuncId)(nm:Nm)(H:Heap)(slots:List TV)(o:Oper):Option (TV×List (Nm×aO)):=
 let ρ:=cg C slots
 match o.op with
 |.move x=>zi (ρ x)
 |.assign x=>zi (ρ x)
 |.pick c a b=>match ρ c,ρ a,ρ b with
  |some (.t (.bool c)),some a,some b=>some (if c then a else b,[])
  |_,_,_=>none
 | .alloc elem=>match bf C.P elem with
  |some ti=>match ti.zero with
   |some z=>if z.cells.all TV.leaf=true then some (.ptr nm 0,[(nm,.cells elem z.cells)]) else none
   |none=>none
  |none=>none
 |.box elem x=>match ρ x with
  |some v=>if v.cells.all TV.leaf=true then some (.ptr nm 0,[(nm,.cells elem v.cells)]) else none
  |none=>none
 |.build t parts=>match qt C slots parts.toList with
  |some ps=>zi (Mq C.P t ps)
  |none=>none
 |.buildSlice t len parts=>match qt C slots parts.toList with
  |some ps=>rF C.P (o.dst.any (C.jN f)) nm t len ps
  |none=>none
 |.load t a=>match ρ a with
  |some a=>zi (loadT C.P H t a)
  |none=>none
 |.store t a x=>match ρ a,ρ x with
  |some a,some x=>x4 (storeT C.P H t a x)
  |_,_=>none
 |.nilCheck x=>match ρ x with
  |some v=>if JM v=true then some (v,[]) else none
  |none=>none
 |.binOp op t x y _=>match ρ x,ρ y with
  |some a,some b=>zi (r8 C.P op t x y a b)
  |_,_=>none
 |.unOp op _ x=>match ρ x with
  |some a=>zi (unT C.P op a)
  |none=>none
 |.convert s d x=>match ρ x with
  |some a=>sG C.P (o.dst.any (C.jN f)) nm H s d a
  |none=>none
 | .makeInterface t x=>match ρ x,bf C.P t with
  |some v,some ti=>match ti.desc with
   |.interface _=>none
   |_=>some ((match v with|.t x=>.t (.iface t x)|v=>.iface t v),[])
  |_,_=>none
 |.makeFunc fn first captured=>match iU C slots first.toList,iU C slots captured.toList with
  |some fs,some cs=>some (aaV fn fs cs,[])
  |_,_=>none
 |.makeMap t r=>match vK C slots r,bf C.P t with
  |some none,some _=>some (.map nm,[(nm,.map [] 0)])
  |_,_=>none
 |.makeSlice t l c=>match ρ l,ρ c with
  |some l,some c=>yu C.P nm t l c
  |_,_=>none
 | .slice t x lo hi mx=>match ρ x,vK C slots lo,vK C slots hi,vK C slots mx with
  | some v,some l,some h,some m=>match xZ (o.dst.any (C.jN f)) C.P H nm t v l h m with
   |some r=>some r
   |none=>match qq C.P H t v l h m with
    |some (r,ks)=>some (r,cT H ks)
    |none=>none
  |_,_,_,_=>none
 | .fieldAddr s x i=>match ρ x,bf C.P s with
  | some a,some ti=>match ti.desc with
   | .struct fs=>match fs[i]? with
    |some fd=>match bf C.P fd.type with
     |some tf=>if tf.size=0 then none else zi (qo H a fd.offset)
     |none=>none
    |none=>none
   |_=>none
  |_,_=>none
 | .field t x i=>match ρ x,bf C.P t with
  | some v,some ti=>match ti.desc with
   | .struct fs=>match fs[i]? with
    |some fd=>match bf C.P fd.type with
     |some tf=>if AQ v=true then zi (partT tf.agg tf.size v.cells fd.offset) else none
     |none=>none
    |none=>none
   |_=>none
  |_,_=>none
 |.indexAddr t x i=>match ρ x,ρ i with
  |some v,some j=>zi (dI C.P H t v j)
  |_,_=>none
 |.index t x i=>match ρ x,ρ i with
  |some v,some j=>zi (qp C.P t v j)
  |_,_=>none
 |.lookup t x k ok=>match ρ x,ρ k with
  |some v,some j=>zi (tT C.P H t v j ok)
  |_,_=>none
 |.mapUpdate t m k x=>match ρ m,ρ k,ρ x with
  |some m,some k,some x=>x4 (jg C.P H t m k x)
  |_,_,_=>none
 |.insert t m k x=>match ρ m,ρ k,ρ x with
  |some m,some k,some x=>x4 (jg C.P H t m k x)
  |_,_,_=>none
 |.mapEntry t m k=>match ρ m,ρ k with
  |some m,some k=>lz C.P H t m k
  |_,_=>none
 |.entryStore _ m s x=>match ρ m,ρ s,ρ x with
  |some m,some s,some x=>x4 (jc H m s x)
  |_,_,_=>none
 |.typeAssert x _ asserted ok=>match ρ x with
  |some v=>zi (Hr C.P v asserted ok)
  |none=>none
 |.extract t i=>match ρ t with
  |some v=>zi (CY v i)
  |none=>none
 |.call {callee:=.builtin b,args,argTypes}=>match iU C slots args.toList with
  |some vs=>kR C nm H b argTypes.toList vs
  |none=>none
 |_=>none
end Go.Abs
end
noncomputable section
namespace Go.Abs
open Go
mutual
def TV.names:TV->List Nm
 |.t _=>[]
 |.any=>[]
 |.cc=>[]
 |.jS _=>[]
 |.jt _ _=>[]
 |.ref k _ _=>[k]
 |.ptr k _=>[k]
 |.js k _ _=>[k]
 |.map k=>[k]
 |.agg cs=>TV.iV cs
 |.cv cs=>TV.iV cs
 |.fn _ fs cs=>TV.iV fs++TV.iV cs
 |.iface _ v=>v.names
def TV.iV:List TV->List Nm
 | []=>[]
 |v::r=>v.names++TV.iV r
end
def Ht:List (TV×TV×Nat)->List Nm
 | []=>[]
 |(k,v,_)::r=>k.names++v.names++Ht r
def aO.names:aO->List Nm
 |.cells _ cs=>TV.iV cs
 |.arr _ _ _ cs=>TV.iV cs
 |.map es _=>Ht es
 |.dead=>[]
def reach (H:Heap):Nat->List Nm->List Nm->Option (List Nm)
 |_,done,[]=>some done
 |0,_,_=>none
 | n+1,done,k::todo=>
  if k∈done then reach H n done todo
  else match H.get k with
   |some o=>reach H n (done++[k]) (todo++o.names)
   |none=>none
def eB:Nat:=4000
def idxOf (k:Nm):List Nm->Nat->Option Nat
 | [],_=>none
 |k'::r,i=>if k'=k then some i else idxOf k r (i+1)
mutual
def TV.rn (σ:Nm->Option Nm):TV->Option TV
 |.t x=>some (.t x)
 |.any=>some .any
 |.cc=>some .cc
 |.jS es=>some (.jS es)
 |.jt cs o=>some (.jt cs o)
 |.ref k o l=>(σ k).map λk=>.ref k o l
 |.ptr k o=>(σ k).map λk=>.ptr k o
 |.js k n o=>(σ k).map λk=>.js k n o
 |.map k=>(σ k).map .map
 |.agg cs=>(TV.AP σ cs).map .agg
 |.cv cs=>(TV.AP σ cs).map .cv
 |.fn f fs cs=>match TV.AP σ fs,TV.AP σ cs with
  |some fs,some cs=>some (.fn f fs cs)
  |_,_=>none
 |.iface ty v=>(v.rn σ).map (.iface ty)
def TV.AP (σ:Nm->Option Nm):List TV->Option (List TV)
 | []=>some []
 |v::r=>match v.rn σ,TV.AP σ r with
  |some v,some r=>some (v::r)
  |_,_=>none
end
def Sj (σ:Nm->Option Nm):List (TV×TV×Nat)->Option (List (TV×TV×Nat))
 | []=>some []
 |(k,v,b)::r=>match k.rn σ,v.rn σ,Sj σ r with
  |some k,some v,some r=>some ((k,v,b)::r)
  |_,_,_=>none
def aO.rn (σ:Nm->Option Nm):aO->Option aO
 |.cells ty cs=>(TV.AP σ cs).map (.cells ty)
 |.arr g e fz cs=>(TV.AP σ cs).map (.arr g e fz)
 |.map es c=>(Sj σ es).map (.map · c)
 |.dead=>some .dead
def Nm.dS:Nm->Bool
 |.loc _=>true
 |.arg _=>false
inductive bk where
 |ret (v:TV) (aU:List aO) (news:Heap)
 |panic (v:TV) (aU:List (Option aO))
 deriving Inhabited
abbrev aW:=FuncId->List TV->List aO->Option bk
structure St where
 slots:List TV
 H:Heap
 tick:Nat
 deriving Inhabited
inductive aK where
 |normal
 |exit (id:Nat)
 |ret
 |panic (v:TV)
 deriving Inhabited
def Xy (v:TV)(l:List TV):Nat->List TV:=
 List.rec (motive:=λ_=>Nat->List TV) (λ_=>[]) (λx xs ih n=>Nat.rec (motive:=λ_=>List TV) (v::xs) (λm _=>x::ih m) n) l
theorem nT (v:TV):∀(l:List TV) (t:Nat),Xy v l t=l.set t v:=by
 intro l;induction l with
 |nil=>intro t;rfl
 |cons x r ih=>
  intro t
  cases t with
  |zero=>rfl
  |succ t=>exact congrArg (x:: ·) (ih t)
def cU (slots:List TV)(dst:Option Tmp)(v:TV):List TV:=
 match dst with
 |some d=>Xy v slots d
 |none=>slots
def lT (H:Heap):List TV->List TV×List Nm
 | []=>([],[])
 |v::r=>
  let(vs,ks):=lT H r
  match pQ H fL v with
  |some (x,k)=>(TV.t x::vs,k++ks)
  |none=>(v::vs,ks)
def Xf (S:List Nm)(k:Nm):Option Nm:=(idxOf k S 0).map .arg
def oa (S:List Nm)(t:Nat):Nm->Option Nm
 |.arg i=>S[i]?
 |.loc p=>some (.loc (t::p))
def ni (H:Heap)(S:List Nm):List Nm->Option (List aO)
 | []=>some []
 |k::r=>match H.get k,ni H S r with
  |some o,some os=>(o.rn (Xf S)).map (· ::os)
  |_,_=>none
def nU (S:List Nm)(t:Nat):List Nm->List aO->Option Heap
 | [],[]=>some []
 |k::r,o::os=>match o.rn (oa S t),nU S t r os with
  |some o,some h=>some ((k,o)::h)
  |_,_=>none
 |_,_=>none
def kZ (S:List Nm)(t:Nat):Heap->Option Heap
 | []=>some []
 |(k,o)::r=>match oa S t k,o.rn (oa S t),kZ S t r with
  |some k,some o,some h=>some ((k,o)::h)
  |_,_,_=>none
def lU (S:List Nm)(t:Nat):List Nm->List (Option aO)->Option (Heap×List Nm)
 | [],[]=>some ([],[])
 |k::r,some o::os=>match o.rn (oa S t),lU S t r os with
  |some o,some (h,ks)=>some ((k,o)::h,ks)
  |_,_=>none
 |k::r,none::os=>match lU S t r os with
  |some (h,ks)=>some (h,k::ks)
  |none=>none
 |_,_=>none
def Heap.tU (H:Heap)(ks:List Nm):Heap:=H.filter λp=> !(ks.contains p.1)
inductive qu where
 |val (v:TV) (u:Heap)
 |panic (v:TV) (u:Heap) (lost:List Nm)
def JN (H:Heap)(keep:Bool)(args:List TV):List TV×List Nm:=match keep with
 |true=>(args,[])
 |false=>lT H args
def JO (C:cE)(f:FuncId)(o:Oper):Bool:=C.jN f (o.dst.getD 255)
def rG (ev:aW)(H:Heap)(g:FuncId)(args:List TV)(t:Nat)(keep:Bool:=false):Option qu:=
 let(args,ks):=JN H keep args
 let H1:=H.dX (cT H ks)
 match reach H1 eB [] (TV.iV args) with
 |none=>none
 | some S=>
  if S.Nodup then
   match TV.AP (Xf S) args,ni H1 S S with
   | some akb,some os=>
    match ev g akb os with
    |some (.ret v os' news)=>match v.rn (oa S t),nU S t S os',kZ S t news with
     |some v,some h,some h'=>some (.val v ((cT H ks).filter (λp=> !(S.contains p.1))++h++h'))
     |_,_,_=>none
    |some (.panic v os')=>match v.rn (oa S t),lU S t S os' with
     |some v,some (h,lost)=>some (.panic v ((cT H ks).filter (λp=> !(S.contains p.1))++h) lost)
     |_,_=>none
    |none=>none
   |_,_=>none
  else none
def lV (C:cE)(slots:List TV)(c:Call):Option (FuncId×List TV):=
 match c.callee with
 |.value fo=>match cg C slots fo,iU C slots c.args.toList with
  |some (.t (.fn (.func g))),some akb=>some (g,akb)
  |some (.fn (.func g) fs cs),some akb=>some (g,fs++akb++cs)
  |_,_=>none
 |_=>none
def Hu (P:iE)(H:Heap)(t:TypeId)(v:TV)(name:String):Option (FuncId×TV):=
 match(P.prog.info? t).bind (λi=>i.methods.find? (·.name==name)) with
 | some m=>match m.path.isEmpty,m.func,P.prog.underlying t with
  |true,some (f,true),some (.pointer _)=>some (f,v)
  |true,some (f,false),some (.pointer e)=>(match v with
   |.ptr k o=>(match loadT P H e (.ptr k o) with|some x=>some (f,x)|none=>none)
   |_=>none)
  |_,_,_=>none
 |none=>none
def CA (C:cE)(H:Heap)(slots:List TV)(recv:Operand)(name:String)(args:Array Operand):Option (FuncId×List TV):=
 match cg C slots recv,iU C slots args.toList with
 |some (.iface t v),some akb=>(match Hu C.P H t v name with|some (f,x)=>some (f,x::akb)|none=>none)
 |_,_=>none
def dH (ops:Array Oper)(slots:List TV)(o:Oper):Option Bool:=
 match o.guard with
 |none=>some true
 | some (j,want)=>match(ops[j]?).bind (·.dst) with
  |none=>some false
  |some d=>match slots[d]? with
   |some (.t (.bool b))=>some (b==want)
   |some (.t (.cv []))=>some false
   |none=>some false
   |_=>none
def Hv:TV->Option TV
 |.iface t v=>some (.iface t v)
 |.t (.iface t v)=>some (.t (.iface t v))
 |_=>none
def aT (C:cE)(ev:aW)(f:FuncId)(H:Heap)(slots:List TV)(t:Nat)(o:Oper):Option qu:=
 match o.op with
 |.panic x=>match(cg C slots x).bind Hv with
  |some v=>some (.panic v [] [])
  |none=>none
 |.call {callee:=.value fo,args,argTypes}=>match lV C slots {callee:=.value fo,args,argTypes} with
  |some (g,akb)=>rG ev H g akb t (JO C f o)
  |none=>none
 |.call {callee:=.invoke recv name,args,argTypes}=>match CA C H slots recv name args with
  |some (g,akb)=>rG ev H g akb t (JO C f o)
  |none=>none
 |_=>match evalOp C f (.loc [t]) H slots o with
  |some (v,u)=>some (.val v u)
  |none=>none
def Ch (C:cE)(ev:aW)(f:FuncId)(ops:Array Oper):List Oper->St->Option (aK×St)
 | [],st=>some (.normal,st)
 | o::r,st=>
  match dH ops st.slots o with
  |none=>none
  |some false=>Ch C ev f ops r {st with slots:=cU st.slots o.dst bS,tick:=st.tick+1}
  |some true=>match aT C ev f st.H st.slots st.tick o with
   |none=>none
   |some (.val v u)=>Ch C ev f ops r {slots:=cU st.slots o.dst v,H:=st.H.dX u,tick:=st.tick+1}
   |some (.panic v u l)=>some (.panic v,{st with H:=(st.H.tU l).dX u,tick:=st.tick+1})
def Mr (C:cE)(H:Heap)(slots:List TV)(o:Oper):Option (List Nm):=
 match o.op with
 |.move _|.assign _|.pick .. |.alloc _|.box .. |.build .. |.buildSlice .. |.nilCheck _|.makeInterface .. |.makeFunc .. |.makeMap .. |.makeSlice .. |.field .. |.extract .. |.typeAssert .. |.panic _|.unOp .. |.binOp .. |.index ..=>some []
 |.fieldAddr _ x _=>match cg C slots x with
  |some (.js k _ _)=>some [k]
  |_=>some []
 |.store _ p _=>match cg C slots p with
  |some v=>some v.names
  |none=>none
 |.call {callee:=.value fo,args,argTypes}=>match lV C slots {callee:=.value fo,args,argTypes} with
  |some (_,akb)=>reach H eB [] (TV.iV akb)
  |none=>none
 |.call {callee:=.invoke recv name,args,argTypes}=>match cg C slots recv,iU C slots args.toList with
  |some v,some akb=>reach H eB [] (v.names++TV.iV akb)
  |_,_=>none
 |.call {callee:=.builtin .len,args,argTypes}=>match iU C slots args.toList with
  |some [.ref _ _ _]=>some []
  |some vs=>some (TV.iV vs)
  |none=>none
 |op=>match iU C slots op.operands.toList with
  |some vs=>some (TV.iV vs)
  |none=>none
inductive Ci where
 |w5
 |unwanted
 |val (v:TV) (u:Heap)
 |panic (v:TV) (u:Heap) (lost:List Nm)
structure Rec where
 fp:List Nm
 res:Ci
def Ci.keys:Ci->List Nm
 |.val _ u=>u.map (·.1)
 |.panic _ u l=>u.map (·.1)++l
 |_=>[]
structure tN where
 slots:List TV
 H:Heap
def tN.after (s:tN)(o:Oper):Ci->tN
 |.w5=>s
 |.unwanted=>{s with slots:=cU s.slots o.dst bS}
 |.val v u=>{slots:=cU s.slots o.dst v,H:=s.H.dX u}
 |.panic ..=>s
def jW (i:Nat)(tO:Option Nat):Ci->Option Nat
 |.panic ..=>some i
 |_=>tO
def jH (ops:List Oper)(acc:List Nat):List Nat:=
 match ops with
 | []=>acc
 |o::r=>jH r (acc++[o.after.toList.foldl (λs e=>if Region.binds .any e then s|||2 ^ e.on|||acc.getD e.on 0 else s) 0])
def qv:Nat->List Oper->Bool
 |_,[]=>true
 |i,o::r=>o.after.toList.all (λe=> !Region.binds .any e||decide (e.on<i))&&qv (i+1) r
def fB (bs:List Nat)(i j:Nat):Bool:=(bs.getD j 0).testBit i
def jd (L:List Nat):Nat->List TV->List TV
 |_,[]=>[]
 |i,v::r=>(if L.contains i then v else bS)::jd L (i+1) r
def lW (H:Heap)(fp:List Nm):Heap:=fp.filterMap λk=>(H.get k).map (k, ·)
def Sk (C:cE)(ev:aW)(f:FuncId)(ops:Array Oper)(bs:List Nat)(t0 i:Nat)(o:Oper)(s:tN)(tO:Option Nat):Option Rec:=
 match(match tO with|some j=>fB bs j i|none=>false) with
 |true=>some ⟨[],.w5⟩
 | false=>
  match dH ops (jd (o.looksAt ops) 0 s.slots) o with
  |none=>none
  |some false=>some ⟨[],.unwanted⟩
  | some true=>
   match Mr C s.H s.slots o with
   |none=>none
   | some fp=>
    match aT C ev f (lW s.H fp) (jd (o.looksAt ops) 0 s.slots) (t0+i) o with
    |none=>none
    |some (.val v u)=>some ⟨fp,.val v u⟩
    |some (.panic v u l)=>match tO with
     |some _=>none
     |none=>some ⟨fp,.panic v u l⟩
def yw (C:cE)(ev:aW)(f:FuncId)(ops:Array Oper)(bs:List Nat)(t0:Nat):Nat->List Oper->tN->Option Nat->Option (List Rec)
 |_,[],_,_=>some []
 | i,o::r,s,tO=>match Sk C ev f ops bs t0 i o s tO with
  |none=>none
  |some rec=>match yw C ev f ops bs t0 (i+1) r (s.after o rec.res) (jW i tO rec.res) with
   |some rs=>some (rec::rs)
   |none=>none
def Hw (a b:List Nm):Bool:=a.all λk=> !(b.contains k)
def jX (ops:Array Oper)(x y:Oper):Bool:=
 (match x.dst with
  |some d=> !((y.looksAt ops).contains d)&&y.dst != some d
  |none=>true)&&
 (match y.dst with
  |some d=> !((x.looksAt ops).contains d)
  |none=>true)
def r9 (ops:Array Oper)(x y:Oper)(rx ry:Rec):Bool:=
 jX ops x y&&Hw rx.res.keys ry.fp&&Hw rx.res.keys ry.res.keys&&Hw ry.res.keys rx.fp
def zl (ops:Array Oper)(b:Nat)(j:Oper)(rj:Rec):Nat->List Oper->List Rec->Bool
 |i,x::xs,r::rs=>(b.testBit i||r9 ops x j r rj)&&zl ops b j rj (i+1) xs rs
 |_,_,_=>true
def jx (ops:Array Oper)(l:List Oper)(recs:List Rec):List Nat->List Oper->List Rec->Nat->Bool
 |b::bs,o::os,r::rs,n=>zl ops b o r 0 (l.take n) (recs.take n)&&jx ops l recs bs os rs (n+1)
 |_,_,_,_=>true
def iq:Nat->List Rec->Option (Nat×TV×Heap×List Nm)
 |_,[]=>none
 |i,r::rs=>match r.res with
  |.panic v u l=>some (i,v,u,l)
  |_=>iq (i+1) rs
def yx (b:Nat):Nat->List Rec->List Nm
 |_,[]=>[]
 |i,r::rs=>(if b.testBit i then [] else r.res.keys)++yx b (i+1) rs
def u6:List Oper->List Rec->tN->tN
 |o::os,r::rs,s=>u6 os rs (s.after o r.res)
 |_,_,s=>s
def BJ (ops:List Oper)(slots:List TV):List TV:=ops.foldl (λs o=>cU s o.dst .any) slots
def w6 (C:cE)(ev:aW)(f:FuncId)(ops:Array Oper)(st:St):Option (aK×St):=
 let l:=ops.toList
 let bs:=jH l []
 match yw C ev f ops bs st.tick 0 l {slots:=st.slots,H:=st.H} none with
 |none=>none
 | some recs=>
  if jx ops l recs bs l recs 0=true/\qv 0 l=true then
   let s:=u6 l recs {slots:=st.slots,H:=st.H}
   match iq 0 recs with
   |none=>some (.normal,{slots:=s.slots,H:=s.H,tick:=st.tick+ops.size})
   |some (j,v,u,lost)=>
    some (.panic v,{slots:=BJ l st.slots,H:=(s.H.tU (lost++yx (bs.getD j 0) 0 recs)).dX u,tick:=st.tick+ops.size})
  else none
def CZ (body:St->Option (aK×St)):Nat->St->Option (aK×St)
 |0,_=>none
 |n+1,st=>match body st with
  |some (.normal,st')=>CZ body n st'
  |r=>r
def evalCode (C:cE)(ev:aW)(f:FuncId)(fuel:Nat):Code->St->Option (aK×St)
 |.skip,st=>some (.normal,st)
 |.label _,st=>some (.normal,st)
 |.region _ ops draw,st=>if draw then w6 C ev f ops st else Ch C ev f ops ops.toList st
 |.seq a b,st=>match evalCode C ev f fuel a st with
  |some (.normal,st')=>evalCode C ev f fuel b st'
  |r=>r
 |.cond c a b,st=>match cg C st.slots c with
  |some (.t (.bool true))=>evalCode C ev f fuel a st
  |some (.t (.bool false))=>evalCode C ev f fuel b st
  |_=>none
 |.block id body,st=>match evalCode C ev f fuel body st with
  |some (.exit id',st')=>if id'=id then some (.normal,st') else some (.exit id',st')
  |r=>r
 |.loop body,st=>CZ (evalCode C ev f fuel body) fuel st
 |.exit id,st=>some (.exit id,st)
 |.ret,st=>some (.ret,st)
 |_,_=>none
def iP (C:cE)(st:St):List ResultVar->Option (List TV)
 | []=>some []
 |.tmp t::r=>match iP C st r with
  |some vs=>some (st.slots.getD t bS::vs)
  |none=>none
 |.cell a t::r=>match loadT C.P st.H t (st.slots.getD a bS),iP C st r with
  |some v,some vs=>some (v::vs)
  |_,_=>none
def u7:List TV->TV
 | [v]=>v
 |vs=>pP vs
def bX:Nat->List aO->Heap
 |_,[]=>[]
 |i,o::r=>(.arg i,o)::bX (i+1) r
def nj (H:Heap):Nat->Nat->Option (List aO)
 |_,0=>some []
 |i,n+1=>match H.get (.arg i),nj H (i+1) n with
  |some o,some os=>some (o::os)
  |_,_=>none
def pV (H:Heap):Nat->Nat->List (Option aO)
 |_,0=>[]
 | i,n+1=>(match H.get (.arg i) with
   |some o=>if o.names.any Nm.dS then none else some o
   |none=>none)::pV H (i+1) n
def jY (H:Heap):List Nm->Option Heap
 | []=>some []
 |k::r=>match jY H r with
  |some h=>if k.dS then(H.get k).map λo=>(k,o)::h else some h
  |none=>none
def finish (C:cE)(fn:Func)(n:Nat)(st:St):Option bk:=
 match iP C st fn.results.toList with
 |none=>none
 | some vs=>
  let v0:=u7 vs
  let(v,ks):=match pQ st.H fL v0 with
   |some (x,ks)=>(TV.t x,ks)
   |none=>(v0,[])
  let H:=st.H.dX (cT st.H ks)
  match nj H 0 n with
  |none=>none
  |some os=>match reach H eB [] (v.names++os.flatMap aO.names) with
   |none=>none
   |some R=>(jY H R).map λh=>.ret v os h
def JP (C:cE)(ev:aW)(fuel:Nat)(f:FuncId)(args:List TV)(aU:List aO):Option bk:=
 match C.P.fn f with
 |none=>none
 | some fn=>match fn.body with
  |none=>none
  |some body=>
   if fn.name= "runtime.NumGoroutine" then none else
   match evalCode C ev f fuel body {slots:=args++List.replicate (fn.ntmps - args.length) bS,H:=bX 0 aU,tick:=0} with
   |some (.normal,st)=>finish C fn aU.length st
   |some (.ret,st)=>finish C fn aU.length st
   |some (.panic v,st)=>if v.names.any Nm.dS then none else some (.panic v (pV st.H 0 aU.length))
   |_=>none
abbrev Ext:=FuncId->Option (aW->List TV->List aO->Option bk)
def C0 (C:cE)(X:Ext):Nat->aW
 |0,_,_,_=>none
 |n+1,f,args,aU=>match X f with
  |some s=>s (C0 C X n) args aU
  |none=>JP C (C0 C X n) n f args aU
end Go.Abs
namespace Go.Abs
open Go
def Cj (F:vI)(cs:List Tree)(vs:List Value):Prop:=vs.length=cs.length/\∀(j:Nat) c v,cs[j]?=some c->vs[j]?=some v->VT F c v
theorem Cj.JQ {G:Gh}{cs:List Tree}{vs:List Value}(h:Cj G.F cs vs):cB G (cs.map .t) vs:=by
 refine⟨by simp[h.1],λj c v hc hv=> ?_⟩;rw[List.getElem?_map] at hc;cases hx:cs[j]? with
 |none=>rw[hx] at hc;simp at hc
 |some x=>rw[hx] at hc;simp at hc;subst hc;exact .t x v (h.2 j x v hx hv)
theorem VR.tree {G:Gh}{x:Tree}{v:Value}(h:VR G (.t x) v):VT G.F x v:=by cases h;assumption
theorem cB.Sl {G:Gh}{cs:List Tree}{vs:List Value}(h:cB G (cs.map .t) vs):Cj G.F cs vs:=by
 refine⟨by have:=h.1;simpa using this,λj c v hc hv=> ?_⟩;exact(h.2 j (.t c) v (by rw[List.getElem?_map,hc];rfl) hv).tree
theorem Sm {G:Gh}{x:TV}{v:Value}(h:VR G x v):VR G (OG x) v:=by
 cases h with
 |cc=>exact .t _ _ (.AO _ _)
 |jS es a h=>exact .t _ _ h
 |t x v h=>exact .t _ _ h
 |ref k off len n bD cap v a b c d e=>exact .ref k off len n bD cap v a b c d e
 |agg cs vs a b=>exact .agg cs vs a b
 |cv cs vs a b=>exact .cv cs vs a b
 |ptr k off a b=>exact .ptr k off a b
 |js k n off n' bD cap v a b c d e=>exact .js k n off n' bD cap v a b c d e
 |jt cs off b o vals c d=>exact .jt cs off b o vals c d
 |map k a b=>exact .map k a b
 |fn f fs cs vs ws a b c d=>exact .fn f fs cs vs ws a b c d
 |iface t x v h=>exact .iface t x v h
 |any v=>exact .any v
theorem Qc {G:Gh}{cs:List TV}{vs:List Value}(h:cB G cs vs):cB G (cs.map OG) vs:=by
 refine⟨by rw[List.length_map];exact h.1,λj c v hc hv=> ?_⟩;rw[List.getElem?_map] at hc;cases hx:cs[j]? with
 |none=>rw[hx] at hc;cases hc
 |some x=>rw[hx] at hc;cases hc;exact Sm (h.2 j x v hx hv)
theorem AR {cs:List TV}{ts:List Tree}(h:allT cs=some ts):cs=ts.map .t:=by
 induction cs generalizing ts with
 |nil=>simp[allT] at h;subst h;rfl
 |cons c r ih=>
  cases c<;>simp only[allT] at h<;>try (simp at h;done)
  rename_i x
  cases hr:allT r with
  |none=>rw[hr] at h;simp at h
  |some xs=>rw[hr] at h;simp at h;subst h;simp[ih hr]
theorem Cj.agg {F:vI}{cs:List Tree}{vs:List Value}(h:Cj F cs vs):VT F (.agg cs) (.agg vs.toArray):=.agg cs vs h.1 h.2
theorem Cj.cv {F:vI}{cs:List Tree}{vs:List Value}(h:Cj F cs vs):VT F (.cv cs) (.tuple vs.toArray):=.cv cs vs h.1 h.2
theorem vL {G:Gh}{cs:List TV}{vs:List Value}(h:cB G cs vs):VR G (xY cs) (.agg vs.toArray):=by
 unfold xY;cases ha:allT cs with
 |none=>exact .agg cs vs h.1 h.2
 |some ts=>have:=AR ha;subst this;exact .t _ _ h.Sl.agg
theorem lX {G:Gh}{cs:List TV}{vs:List Value}(h:cB G cs vs):VR G (pP cs) (.tuple vs.toArray):=by
 unfold pP;cases ha:allT cs with
 |none=>exact .cv cs vs h.1 h.2
 |some ts=>have:=AR ha;subst this;exact .t _ _ h.Sl.cv
theorem VT.leaf {F:vI}{x:Tree}{v:Value}(h:VT F x v)(hx:x.leaf=true):one v=true:=by
 cases h<;>simp_all [Tree.leaf,one]
theorem VR.leaf {G:Gh}{x:TV}{v:Value}(h:VR G x v)(hx:x.leaf=true):one v=true:=by
 cases h with
 |t x v h=>exact h.leaf hx
 |ref k off len n bD cap v hd ha hle ho hv=>obtain⟨_,_,rfl⟩:=ho;rfl
 |js k n off n' bD cap v hd ha hle ho hv=>obtain⟨_,rfl⟩:=ho;rfl
 |_=>simp_all [TV.leaf,one]
theorem F5 {v:Value}(h:one v=true):v.cells= #[v]:=by cases v<;>simp_all [one,Value.cells]
theorem cB.one {G:Gh}{x:TV}{v:Value}(h:VR G x v):cB G [x] [v]:=cB.cons h (cB.nil G)
theorem VR.cells {G:Gh}{x:TV}{v:Value}(h:VR G x v)(hx:x≠ .any):cB G x.cells v.cells.toList:=by
 cases h with
 |any=>exact absurd rfl hx
 |t x v h=>
  cases h with
  |agg cs vs hl h=>exact Cj.JQ ⟨hl,h⟩
  |cv cs vs hl h=>exact cB.one (.t _ _ (.cv cs vs hl h))
  |bool=>exact cB.one (.t _ _ (.bool _))
  |int=>exact cB.one (.t _ _ (.int _ _))
  |str=>exact cB.one (.t _ _ (.str _))
  |AO=>exact cB.one (.t _ _ (.AO _ _))
  |sl e es b o cap vals h1 h2 h3 h4 h5=>exact cB.one (.t _ _ (.sl e es b o cap vals h1 h2 h3 h4 h5))
  |bT=>exact cB.one (.t _ _ .bT)
  |iI=>exact cB.one (.t _ _ .iI)
  |rD=>exact cB.one (.t _ _ .rD)
  |fn=>exact cB.one (.t _ _ (.fn _))
  |zj=>exact cB.one (.t _ _ .zj)
  |iface t x v h=>exact cB.one (.t _ _ (.iface t x v h))
 |cc=>exact cB.one .cc
 |jS es a h=>exact cB.one (.jS es a h)
 |ref k off len n bD cap v hd ha hle ho hv=>rw[F5 (by obtain⟨_,_,rfl⟩:=ho;rfl)];exact cB.one (.ref k off len n bD cap v hd ha hle ho hv)
 |agg cs vs hl h=>exact⟨hl,h⟩
 |cv cs vs hl h=>exact cB.one (.cv cs vs hl h)
 |ptr k off hd hn=>exact cB.one (.ptr k off hd hn)
 |js k n off n' bD cap v hd ha hle ho hv=>rw[F5 (by obtain⟨_,rfl⟩:=ho;rfl)];exact cB.one (.js k n off n' bD cap v hd ha hle ho hv)
 |jt cs off b o vals hF hv=>exact cB.one (.jt cs off b o vals hF hv)
 |map k hd hn=>exact cB.one (.map k hd hn)
 |fn f fs cs vs ws hl h hl' h'=>exact cB.one (.fn f fs cs vs ws hl h hl' h')
 |iface t x v h=>exact cB.one (.iface t x v h)
theorem Cj.nil (F:vI):Cj F [] []:=⟨rfl,by simp⟩
theorem Cj.cons {F:vI}{c:Tree}{v:Value}{cs:List Tree}{vs:List Value}(h:VT F c v)(hs:Cj F cs vs):Cj F (c::cs) (v::vs):=by
 refine⟨by simp[hs.1],λj d u hd hu=> ?_⟩;cases j with
 |zero=>simp at hd hu;subst hd;subst hu;exact h
 |succ j=>simp at hd hu;exact hs.2 j d u hd hu
theorem VT.cells {F:vI}{x:Tree}{v:Value}(h:VT F x v):Cj F x.cells v.cells.toList:=by
 cases h<;>first
  |(rename_i cs vs hl h;exact⟨hl,h⟩)
  |exact Cj.cons (by first|assumption|(constructor;done)|(constructor<;>assumption)) (Cj.nil F)
theorem F6 {G:Gh}{v:Value}{x:TV}(h:ym v=some x):VR G x v:=by
 unfold ym at h;split at h<;>simp at h<;>(try subst h)
 ·exact .t _ _ (.bool _)
 ·exact .t _ _ (.int _ _)
 ·rename_i s;have:(Value.string s)=.string ⟨s.data.toList.toArray⟩:=by simp
  rw[this];exact .t _ _ (.str _)
 ·exact .cc
 ·exact .t _ _ .bT
 ·exact .t _ _ .iI
 ·exact .t _ _ .rD
 ·exact .t _ _ .zj
 ·obtain⟨⟨h1,h2⟩,h3⟩:=h;subst h3;subst h1;subst h2;exact .t _ _ (.fn _)
theorem zm {G:Gh}{vs:List Value}{xs:List TV}(h:lR vs=some xs):cB G xs vs:=by
 induction vs generalizing xs with
 |nil=>simp[lR] at h;subst h;exact cB.nil G
 |cons v r ih=>
  simp only[lR] at h
  cases h1:ym v<;>cases h2:lR r<;>simp[h1,h2] at h
  subst h
  exact cB.cons (F6 h1) (ih h2)
theorem vM {G:Gh}{v:Value}{x:TV}(h:valOf v=some x):VR G x v:=by
 unfold valOf at h;split at h
 ·rename_i cs;cases h1:lR cs.toList<;>simp[h1] at h;subst h;have:=vL (zm (G:=G) h1);simpa using this
 ·rename_i cs;cases h1:lR cs.toList<;>simp[h1] at h;subst h;have:=lX (zm (G:=G) h1);simpa using this
 ·exact F6 h
theorem JR {G:Gh}{x:TV}{u v:Value}(h:CW x=some u)(hr:VR G x v):v=u:=by
 cases hr with
 |t x v ht=>cases ht<;>simp[CW] at h<;>exact h
 |cc=>simp[CW] at h;exact h
 |_=>simp[CW] at h
theorem C1 {G:Gh}{xs:List TV}{us vs:List Value}(h:pT xs=some us)(hr:cB G xs vs):vs=us:=by
 induction xs generalizing us vs with
 |nil=>simp[pT] at h;subst h;have:=hr.1;simpa using this
 |cons x r ih=>
  obtain⟨v,vs',rfl,h1,h2⟩:=hr.fQ
  simp only[pT] at h
  cases h3:CW x<;>cases h4:pT r<;>simp[h3,h4] at h
  subst h
  rw[JR h3 h1,ih h4 h2]
theorem C2 {G:Gh}{x:TV}{u v:Value}(h:CX x=some u)(hr:VR G x v):v=u:=by
 unfold CX at h;split at h
 ·rename_i cs;cases h1:pT (cs.map .t)<;>simp[h1] at h;subst h;cases hr with|t _ _ ht=>cases ht with|agg _ vs hl hh=>
   rw[C1 h1 (Cj.JQ (G:=G) ⟨hl,hh⟩)]
 ·rename_i cs;cases h1:pT cs<;>simp[h1] at h;subst h;cases hr with|agg _ vs hl hh=>rw[C1 h1 ⟨hl,hh⟩]
 ·exact JR h hr
theorem lY {G:Gh}{x:TV}{u v:Value}(h:jT x=some u)(hr:VR G x v):v=u:=by
 unfold jT at h;split at h
 ·rename_i t x;cases h1:CX (.t x)<;>simp[h1] at h;subst h;cases hr with|t _ _ ht=>cases ht with|iface _ _ w hw=>rw[C2 (G:=G) h1 (.t _ _ hw)]
 ·rename_i t x;cases h1:CX x<;>simp[h1] at h;subst h;cases hr with|iface _ _ w hw=>rw[C2 h1 hw]
 ·exact C2 h hr
theorem oc {α:Type}{P:Program}{s:Sem α}{a:α}(h:cQ P s=some a)(w:World):s.run P w=.ok a w:=by
 induction s with
 |pure x=>simp[cQ] at h;subst h;rfl
 |program k ih=>simp only[cQ] at h;exact ih P h
 |_=>simp[cQ] at h
def l5 (vs:Array Value)(fr:Nat×Nat):Prop:=∀o,o<vs.size->¬(fr.1<=o/\o<fr.2)
def C3 (bD:Nat)(fr:Nat×Nat):Prop:=bD≠1->fr=(0,0)
def MR (G:Gh):List (TV×TV×Nat)->List MapEntry->Prop
 | [],[]=>True
 |(k,v,b)::r,e::es=>VR G k e.key/\VR G v e.val/\e.born=b/\MR G r es
 |_,_=>False
def OR (G:Gh)(w:World)(k:Nm):aO->Prop
 |.cells Hy cs=>G.arr k=none/\∃vs ty fr,w.heap[G.mu k]?=some (.cells vs ty fr)/\(l5 vs fr/\ty=Hy)/\cB G cs vs.toList/\∀o,G.F (G.mu k) o=none
 | .arr g bD fz cs=>0<bD/\∃cap vs ty fr,G.arr k=some (cs.length,bD,cap)/\w.heap[G.mu k]?=some (.cells vs ty fr)/\(l5 vs fr/\ty=g.1/\C3 bD fr)/\vs.size=cap*bD/\cs.length<=vs.size/\
   cB G cs (vs.toList.take cs.length)/\∀o,(fz=false\/cs.length<=o)->G.F (G.mu k) o=none
 |.map es c=>G.arr k=none/\∃bG,w.heap[G.mu k]?=some (.map bG c)/\MR G es bG.toList/\∀o,G.F (G.mu k) o=none
 |.dead=>True
structure WF (G:Gh)(w:World):Prop where
 F:∀b o v,G.F b o=some v->∃vs ty fr,w.heap[b]?=some (.cells vs ty fr)/\vs[o]?=some v
 inj:∀k k',G.dom k->G.dom k'->G.alive k->G.alive k'->G.mu k=G.mu k'->k=k'
 lt:∀k,G.dom k->G.mu k<w.heap.size
def HR (G:Gh)(w:World)(H:Heap):Prop:=∀k o,H.get k=some o->G.dom k/\OR G w k o
structure Step (W N:Nm->Prop)(G:Gh)(w:World)(G':Gh)(w':World):Prop where
 le:G.le G'
 wf:WF G' w'
 same:∀k,G.dom k->¬W k->G'.mu k=G.mu k/\G'.arr k=G.arr k
 blocks:∀b,b<w.heap.size->(∀k,W k->G.dom k->G.alive k->G.mu k≠b)->w'.heap[b]?=w.heap[b]? /\∀o,G'.F b o=G.F b o
 news:∀k,G'.dom k->G.dom k\/N k
 fresh:∀k,G'.dom k->(∃k0,G.dom k0/\G'.mu k=G.mu k0/\(k0=k\/(W k0/\G.alive k0)))\/w.heap.size<=G'.mu k
 size:w.heap.size<=w'.heap.size
 os:w'.os=w.os
 tape:w'.tape=w.tape
 output:w'.output=w.output
theorem Step.refl {G:Gh}{w:World}(hw:WF G w)(W N:Nm->Prop):Step W N G w G w:=
 ⟨.refl G,hw,λ_ _ _=>⟨rfl,rfl⟩,λ_ _ _=>⟨rfl,λ_=>rfl⟩,λ_ h=>.inl h,λk h=>.inl ⟨k,h,rfl,.inl rfl⟩,Nat.le_refl _,rfl,rfl,rfl⟩
theorem Step.mono {W N W' N':Nm->Prop}{G G':Gh}{w w':World}(h:Step W N G w G' w')(hW:∀k,G.dom k->W k->W' k)(hN:∀k,N k->N' k):Step W' N' G w G' w':=
 ⟨h.le,h.wf,λk d n=>h.same k d (λx=>n (hW k d x)),λb hb hn=>h.blocks b hb (λk hk d=>hn k (hW k d hk) d),λk d=>(h.news k d).imp id (hN k),λk d=>(h.fresh k d).imp (λ⟨k0,a,b,c⟩=>⟨k0,a,b,c.imp id λx=>⟨hW k0 a x.1,x.2⟩⟩) id,h.size,h.os,h.tape,h.output⟩
theorem Step.trans {W N W' N':Nm->Prop}{A B C:Gh}{u v w:World}(h:Step W N A u B v)(k:Step W' N' B v C w):
 Step (λx=>W x\/W' x) (λx=>N x\/N' x) A u C w:=by
 refine⟨h.le.trans k.le,k.wf,λx d n=> ?_,λb hb hn=> ?_,λx d=> ?_,λx d=> ?_,Nat.le_trans h.size k.size,k.os.trans h.os,k.tape.trans h.tape,k.output.trans h.output⟩
 ·obtain⟨a1,a2⟩:=h.same x d (λy=>n (.inl y));obtain⟨b1,b2⟩:=k.same x (h.le.dom _ d) (λy=>n (.inr y));exact⟨b1.trans a1,b2.trans a2⟩
 ·obtain⟨a1,a2⟩:=h.blocks b hb (λx hx d=>hn x (.inl hx) d);obtain⟨b1,b2⟩:=k.blocks b (Nat.lt_of_lt_of_le hb h.size) (λx hx d=>by
   intro al;rcases h.fresh x d with ⟨k0,d0,e,rfl|⟨hw,a0⟩⟩|e
   ·rw[e];exact hn k0 (.inr hx) d0 (h.le.alive d0 al)
   ·rw[e];exact hn k0 (.inl hw) d0 a0
   ·omega)
  exact⟨b1.trans a1,λo=>(b2 o).trans (a2 o)⟩
 ·rcases k.news x d with d|d
  ·exact(h.news x d).imp id .inl
  ·exact .inr (.inr d)
 ·rcases k.fresh x d with ⟨k1,d1,e1,o1⟩|e1
  ·rcases h.fresh k1 d1 with ⟨k0,d0,e0,o0⟩|e0
   ·refine .inl ⟨k0,d0,e1.trans e0, ?_⟩;rcases o0 with rfl|⟨w0,a0⟩
    ·rcases o1 with rfl|⟨w1,a1⟩
     ·exact .inl rfl
     ·exact .inr ⟨.inr w1,h.le.alive d0 a1⟩
    ·exact .inr ⟨.inl w0,a0⟩
   ·exact .inr (by rw[e1];exact e0)
  ·exact .inr (Nat.le_trans h.size e1)
theorem MR.mono {G G':Gh}(hG:G.le G'){es:List (TV×TV×Nat)}{bG:List MapEntry}(h:MR G es bG):MR G' es bG:=by
 induction es generalizing bG with
 |nil=>cases bG<;>simp_all [MR]
 | cons e r ih=>
  obtain⟨k,v,b⟩:=e
  cases bG with
  |nil=>simp[MR] at h
  |cons x xs=>
   simp only[MR] at h ⊢
   exact⟨h.1.mono hG,h.2.1.mono hG,h.2.2.1,ih h.2.2.2⟩
theorem OR.alive {G:Gh}{w:World}{k:Nm}{o:aO}(h:OR G w k o)(hd:o≠ .dead):G.alive k:=by
 cases o with
 |cells ty cs=>exact Gh.jf h.1
 |arr g e fz cs=>obtain⟨he,cap,_,_,_,ha,_⟩:=h;exact Gh.fW ha he
 |map es c=>exact Gh.jf h.1
 |dead=>exact absurd rfl hd
theorem Step.keeps {W N:Nm->Prop}{G G':Gh}{w w':World}(h:Step W N G w G' w')(hw:WF G w){k:Nm}(hk:G.dom k)(hn:¬W k){o:aO}(ho:OR G w k o):OR G' w' k o:=by
 by_cases ZU:o=.dead
 ·subst ZU;trivial
 have ak:=ho.alive ZU;obtain⟨em,ea⟩:=h.same k hk hn;obtain⟨hb,hF⟩:=h.blocks (G.mu k) (hw.lt k hk) (λx hx dx ax e=>hn (by rw[← hw.inj x k dx hk ax ak e];exact hx));cases o with
 |cells Hy cs=>
  obtain⟨ha,vs,ty,fr,hh,ht,hv,hf⟩:=ho
  exact⟨by rw[ea];exact ha,vs,ty,fr,by rw[em,hb];exact hh,ht,hv.mono h.le,λo=>by rw[em,hF];exact hf o⟩
 |arr g bD fz cs=>
  obtain⟨he,cap,vs,ty,fr,ha,hh,ht,hs,hl,hv,hf⟩:=ho
  exact⟨he,cap,vs,ty,fr,by rw[ea];exact ha,by rw[em,hb];exact hh,ht,hs,hl,hv.mono h.le,λo ho=>by rw[em,hF];exact hf o ho⟩
 |map es c=>
  obtain⟨ha,bG,hh,hv,hf⟩:=ho
  exact⟨by rw[ea];exact ha,bG,by rw[em,hb];exact hh,hv.mono h.le,λo=>by rw[em,hF];exact hf o⟩
 |dead=>trivial
theorem Heap.zn (H:Heap)(k k':Nm)(o:aO):(H.put k o).get k'=if k=k' then some o else H.get k':=by
 induction H with
 |nil=>simp only[Heap.put,Heap.get]
 | cons p r ih=>
   obtain⟨k0,o0⟩:=p
   simp only[Heap.put]
   by_cases h:k0=k
   · subst h
     simp only[if_true,Heap.get]
     split<;>rfl
   · simp only[if_neg h,Heap.get,ih]
     by_cases h2:k0=k'
     · subst h2
       rw[if_pos rfl,if_neg (λe=>h e.symm),if_pos rfl]
     · rw[if_neg h2,if_neg h2]
theorem Heap.sH (H:Heap)(u:List (Nm×aO))(k:Nm)(o:aO)(h:(H.dX u).get k=some o):
 (k,o)∈u\/(H.get k=some o/\k∉u.map (·.1)):=by
 unfold Heap.dX at h
 induction u generalizing H with
 |nil=>exact .inr ⟨h,by simp⟩
 | cons p r ih=>
   simp only[List.foldl_cons] at h
   rcases ih (H.put p.1 p.2) h with h|⟨h,hn⟩
   · exact .inl (List.mem_cons_of_mem _ h)
   · rw[Heap.zn] at h
     split at h
     · rename_i e;simp at h;subst h;subst e;exact .inl List.mem_cons_self
     · rename_i e;exact .inr ⟨h,by simp only[List.map_cons,List.mem_cons,not_or];exact⟨λx=>e x.symm,hn⟩⟩
theorem Heap.get_filter (H:Heap)(q:Nm->Bool)(k:Nm):Heap.get (H.filter λp=>q p.1) k=if q k=true then H.get k else none:=by
 induction H with
 |nil=>simp[Heap.get]
 | cons p r ih=>
   obtain⟨k0,o0⟩:=p
   simp only[List.filter_cons]
   by_cases h:q k0=true
   · simp only[h,if_true,Heap.get,ih]
     by_cases e:k0=k
     · subst e;simp[h]
     · simp[e]
   · simp only[h,Heap.get]
     by_cases e:k0=k
     · subst e;simp[ih,h]
     · simp[e,ih]
theorem Heap.vN (H:Heap)(ks:List Nm)(k:Nm):(H.tU ks).get k=if k∈ks then none else H.get k:=by
 unfold Heap.tU;rw[Heap.get_filter H (λk=> !(ks.contains k)) k];by_cases h:k∈ks<;>simp[h]
theorem HR.dX {W N:Nm->Prop}{G G':Gh}{w w':World}{H:Heap}{u:List (Nm×aO)}(h:Step W N G w G' w')(hw:WF G w)(hH:HR G w H)
 (hu:∀k o,(k,o)∈u->G'.dom k/\OR G' w' k o)(hW:∀k,G.dom k->W k->k∈u.map (·.1)):HR G' w' (H.dX u):=by
 intro k o hk
 rcases Heap.sH H u k o hk with h1|⟨h1,hn⟩
 ·exact hu k o h1
 ·obtain⟨d,ho⟩:=hH k o h1;exact⟨h.le.dom _ d,h.keeps hw d (λx=>hn (hW k d x)) ho⟩
theorem vO {α β:Type}{P:Program}{s:Sem α}{f:α->Sem β}{w w':World}{a:α}(h:s.run P w=.ok a w'):(s.bind f).run P w=(f a).run P w':=by
 induction s generalizing w with
 |pure x=>simp[Sem.run] at h;obtain⟨rfl,rfl⟩:=h;rfl
 | load m x k ih=>
   simp only[Sem.bind,Sem.run] at h ⊢
   split at h
   · exact ih _ h
   · split at h
     · exact ih _ h
     · simp at h
 | store m x v k ih=>
   cases v<;>simp only[Sem.bind,Sem.run] at h ⊢<;>first
     |(simp at h;done)
     |( split at h
        · split at h
          · simp at h
          · rename_i hf;rw[if_neg hf];exact ih h
        · split at h
          · exact ih h
          · simp at h)
 |new o k ih=>exact ih _ h
 |shape r k ih=>exact ih _ h
 |freeze x n k ih=>exact ih h
 |frozen x k ih=>exact ih _ h
 | getObj r k ih=>
   simp only[Sem.bind,Sem.run] at h ⊢
   split at h
   · simp at h
   · exact ih _ h
   · simp at h
 | setObj r o k ih=>
   simp only[Sem.bind,Sem.run] at h ⊢
   split at h
   · simp at h
   · exact ih h
   · simp at h
 | choose q k ih=>
   simp only[Sem.bind,Sem.run] at h ⊢
   split at h
   · rename_i hf;rw[if_pos hf];exact ih _ h
   · rename_i hf;rw[if_neg hf];exact ih _ h
 |sys c k ih=>exact ih _ h
 |program k ih=>exact ih _ h
 |mark m k ih=>exact ih h
 |halt x=>simp[Sem.run] at h
theorem fR {α β:Type}{P:Program}{s:Sem α}{f:α->Sem β}{w w':World}{a:α}(h:s.run P w=.ok a w'):(s>>=f).run P w=(f a).run P w':=vO h
theorem oe (b o n:Nat):(Addr.add ⟨b,o,none⟩ n)=⟨b,o+n,none⟩:=by
 unfold Addr.add;split
 ·rename_i h;subst h;rfl
 ·rfl
theorem cell_of {w:World}{b:Nat}{vs:Array Value}{ty:TypeId}{fr:Nat×Nat}(h:w.heap[b]?=some (.cells vs ty fr))(o:Nat):w.cell? ⟨b,o,none⟩=vs[o]?:=by
 simp[World.cell?,h]
theorem AU {w:World}{b:Nat}{vs:Array Value}{ty:TypeId}{fr:Nat×Nat}(h:w.heap[b]?=some (.cells vs ty fr))(o:Nat):w.frozen? ⟨b,o,none⟩=(decide (fr.1<=o)&&decide (o<fr.2)):=by
 simp[World.frozen?,h]
theorem JS {P:Program}{w:World}{a:Addr}{v:Value}(h:w.cell? a=some v):(load a).run P w=.ok v w:=by
 simp[load,Sem.run,h]
theorem zo {P:Program}{w:World}{b o:Nat}(vs:List Value):∀(i:Nat) (acc:Array Value),(∀j v,vs[j]?=some v->w.cell? ⟨b,o+i+j,none⟩=some v)->
 (loadCellsFrom ⟨b,o,none⟩ i vs.length acc).run P w=.ok (acc++vs.toArray) w:=by
 induction vs with
 |nil=>intro i acc _;simp[loadCellsFrom]
 |cons v r ih=>
  intro i acc h
  simp only[List.length_cons,loadCellsFrom,oe]
  rw[fR (JS (by simpa using h 0 v rfl))]
  rw[ih (i+1) (acc.push v) (λj u hu=>by have:=h (j+1) u (by simpa using hu);rw[← this];congr 2;omega)]
  simp
theorem nV {P:Program}{w:World}{b o:Nat}(vs:List Value)(h:∀j v,vs[j]?=some v->w.cell? ⟨b,o+j,none⟩=some v):
 (loadCells ⟨b,o,none⟩ vs.length).run P w=.ok vs.toArray w:=by
 unfold loadCells
 have:=zo (P:=P) vs 0 #[] (by simpa using h)
 simpa using this
def World.aS (w:World)(b:Nat)(vs:Array Value)(ty:TypeId)(fr:Nat×Nat):World:={w with heap:=w.heap.setIfInBounds b (.cells vs ty fr)}
theorem l6 {w:World}{b:Nat}{vs:Array Value}{ty:TypeId}{fr:Nat×Nat}(h:w.heap[b]?=some (.cells vs ty fr))(o:Nat)(v:Value):
 w.setCell ⟨b,o,none⟩ v=World.aS w b (vs.setIfInBounds o v) ty fr:=by
 unfold World.setCell World.aS
 congr 1
 apply Array.ext_getElem?
 intro i
 rw[Array.getElem?_modify,Array.getElem?_setIfInBounds]
 by_cases e:b=i
 ·subst e;have hb:b<w.heap.size:=(Array.getElem?_eq_some_iff.1 h).1;rw[h];simp[hb]
 ·simp[e]
theorem bH {w:World}{b:Nat}(hb:b<w.heap.size)(vs:Array Value)(ty:TypeId)(fr:Nat×Nat):(World.aS w b vs ty fr).heap[b]?=some (.cells vs ty fr):=by
 simp[World.aS,hb]
theorem gp {w:World}{b c:Nat}(h:b≠c)(vs:Array Value)(ty:TypeId)(fr:Nat×Nat):(World.aS w b vs ty fr).heap[c]?=w.heap[c]?:=by
 simp[World.aS,Array.getElem?_setIfInBounds,h]
theorem gZ (w:World)(b:Nat)(vs us:Array Value)(ty ty':TypeId)(fr fr':Nat×Nat):World.aS (World.aS w b vs ty fr) b us ty' fr'=World.aS w b us ty' fr':=by
 simp[World.aS]
theorem l7 {w:World}{b:Nat}{vs:Array Value}{ty:TypeId}{fr:Nat×Nat}(h:w.heap[b]?=some (.cells vs ty fr)):World.aS w b vs ty fr=w:=by
 unfold World.aS;have:w.heap.setIfInBounds b (.cells vs ty fr)=w.heap:=by
  apply Array.ext_getElem?;intro i;rw[Array.getElem?_setIfInBounds];by_cases e:b=i
  ·subst e;obtain⟨hb,he⟩:=Array.getElem?_eq_some_iff.1 h;simp[hb,he]
  ·simp[e]
 rw[this]
theorem l8 (w:World)(b:Nat)(vs:Array Value)(ty:TypeId)(fr:Nat×Nat):(World.aS w b vs ty fr).heap.size=w.heap.size:=by
 simp[World.aS]
def over (vs:List Value)(o:Nat)(xs:List Value):List Value:=vs.take o++xs++vs.drop (o+xs.length)
theorem vP (vs:List Value)(o:Nat):over vs o []=vs:=by simp[over]
theorem F7 {vs:List Value}{o:Nat}{x:Value}{xs:List Value}(h:o+(x::xs).length<=vs.length):over (vs.set o x) (o+1) xs=over vs o (x::xs):=by
 unfold over;simp only[List.length_cons] at h;apply List.ext_getElem?;intro i;simp only[List.getElem?_append,List.length_append,List.length_take,List.length_set,List.getElem?_take,List.getElem?_drop,List.getElem?_set,List.length_cons];have e1:min (o+1) vs.length=o+1:=by omega
 have e2:min o vs.length=o:=by omega
 rw[e1,e2];by_cases c1:i<o
 ·simp[show i<o+1+xs.length by omega,show i<o+1 by omega,show i<o+(xs.length+1) by omega,c1,show ¬o=i by omega]
 ·by_cases c2:i=o
  ·subst c2;simp[show i<i+1+xs.length by omega,show i<vs.length by omega]
  ·by_cases c3:i<o+1+xs.length
   ·simp[c3,show ¬i<o+1 by omega,show i<o+(xs.length+1) by omega,c1];rw[show i - o=(i - (o+1))+1 by omega];simp
   ·simp[c3,show ¬i<o+(xs.length+1) by omega];rw[if_neg (by omega)];congr 1;omega
theorem Qd {P:Program}{w:World}{a:Addr}{u v:Value}(ho:one v=true)(h:w.cell? a=some u)(hf:w.frozen? a=false):(store a v).run P w=.ok () (w.setCell a v):=by
 cases v<;>simp_all [store,Sem.run,one]
theorem gI {P:Program}{b o:Nat}{ty:TypeId}{fr:Nat×Nat}(xs:List Value):∀(w:World) (i:Nat) (vs:List Value),(∀x∈xs,one x=true)->w.heap[b]?=some (.cells vs.toArray ty fr)->l5 vs.toArray fr->
 o+i+xs.length<=vs.length->(storeCells ⟨b,o,none⟩ xs i).run P w=.ok () (World.aS w b (over vs (o+i) xs).toArray ty fr):=by
 induction xs with
 |nil=>
  intro w i vs _ h _ _
  simp only[storeCells,vP]
  rw[l7 h];rfl
 | cons x r ih=>
  intro w i vs ho h ht hl
  have hl':o+i<vs.length:=by simp at hl;omega
  simp only[storeCells,oe]
  have hc:w.cell? ⟨b,o+i,none⟩=some vs[o+i]:=by rw[cell_of h];simp[hl']
  have hf:w.frozen? ⟨b,o+i,none⟩=false:=by
   rw[AU h]
   have:=ht (o+i) (by simpa using hl')
   simp only[Bool.and_eq_false_iff,decide_eq_false_iff_not]
   by_cases h1:fr.1<=o+i
   · right;exactλh2=>this ⟨h1,h2⟩
   · left;exact h1
  rw[fR (Qd (ho x List.mem_cons_self) hc hf),l6 h]
  have hb:b<w.heap.size:=(Array.getElem?_eq_some_iff.1 h).1
  have aaW:vs.toArray.setIfInBounds (o+i) x=(vs.set (o+i) x).toArray:=by simp
  rw[aaW,ih _ (i+1) (vs.set (o+i) x) (λy hy=>ho y (List.mem_cons_of_mem _ hy)) (bH hb _ _ _) (by simpa [l5] using ht) (by simp at hl ⊢;omega)]
  rw[gZ,← Nat.add_assoc,F7 (by simpa [Nat.add_assoc] using hl)]
theorem jh {P:Program}{w:World}(elem:TypeId)(cells:Array Value):(newRow elem cells).run P w=.ok ⟨w.heap.size,0,none⟩ {w with heap:=w.heap.push (.cells cells elem)}:=by
 rfl
theorem bC {P:iE}{t:TypeId}{ti:TI}(h:bf P t=some ti):
 ∃i,P.prog.info? t=some i/\P.prog.underlying t=some ti.desc/\i.size=ti.size/\i.bytes=ti.bytes/\i.zero.bind valOf=ti.zero/\ti.agg=(match ti.desc with|.struct _|.array _ _=>true|_=>false):=by
 have h:=P.adu _ _ h
 unfold Sg at h
 cases h1:P.prog.info? t<;>cases h2:P.prog.underlying t<;>simp[h1,h2] at h
 subst h
 exact⟨_,rfl,rfl,rfl,rfl,rfl,rfl⟩
theorem aL {P:Program}{t:TypeId}{d:TypeDesc}(h:P.underlying t=some d)(w:World):(underlying t).run P w=.ok d w:=by
 unfold underlying program;simp only[bind,Sem.bind,Sem.run,h];rfl
theorem pW {P:Program}{t:TypeId}{i:TypeInfo}(h:P.info? t=some i)(w:World):(typeInfo t).run P w=.ok i w:=by
 unfold typeInfo program;simp only[bind,Sem.bind,Sem.run,h];rfl
theorem dR {P:iE}{t:TypeId}{ti:TI}(h:bf P t=some ti)(w:World):(sizeOf t).run P w=.ok ti.size w:=by
 obtain⟨i,hi,_,hs,_⟩:=bC h;unfold sizeOf;rw[fR (pW hi w),hs];rfl
theorem F8 {P:iE}{t:TypeId}{ti:TI}(h:bf P t=some ti)(w:World):(isAgg t).run P w=.ok ti.agg w:=by
 obtain⟨i,hi,hu,_,_,_,ha⟩:=bC h;unfold isAgg;rw[fR (aL hu w),ha];cases ti.desc<;>rfl
theorem eM {P:iE}{t:TypeId}{ti:TI}{z:TV}(h:bf P t=some ti)(hz:ti.zero=some z)(w:World)(G:Gh):∃v,(zeroValue t).run P w=.ok v w/\VR G z v:=by
 obtain⟨i,hi,_,_,_,h0,_⟩:=bC h;rw[hz] at h0;cases hv:i.zero with
 |none=>rw[hv] at h0;simp at h0
 |some v=>
  rw[hv] at h0
  simp only[Option.bind_some] at h0
  refine⟨v, ?_,vM h0⟩
  unfold zeroValue
  rw[fR (pW hi w),hv];rfl
theorem Qe {v:Value}{x:TV}(h:ym v=some x):x≠ .any:=by
 rintro rfl;unfold ym at h;split at h<;>simp at h
theorem Sn (l:List TV):xY l≠ .any:=by
 unfold xY;split<;>simp
theorem Sq (l:List TV):pP l≠ .any:=by
 unfold pP;split<;>simp
theorem Sr {v:Value}{x:TV}(h:valOf v=some x):x≠ .any:=by
 unfold valOf at h;split at h
 ·split at h<;>simp at h;subst h;exact Sn _
 ·split at h<;>simp at h;subst h;exact Sq _
 ·exact Qe h
theorem pX {P:iE}{t:TypeId}{ti:TI}{z:TV}(h:bf P t=some ti)(hz:ti.zero=some z):z≠ .any:=by
 obtain⟨i,hi,_,_,_,h0,_⟩:=bC h;rw[hz] at h0;cases hv:i.zero with
 |none=>rw[hv] at h0;simp at h0
 |some v=>
  rw[hv] at h0
  simp only[Option.bind_some] at h0
  exact Sr h0
theorem CB {x:TV}(h:x.cells.all TV.leaf=true):x≠ .any:=by
 rintro rfl;simp[TV.cells,TV.leaf] at h
end Go.Abs
namespace Go.Abs
open Go
def jO (C:cE)(G:Gh):Prop:=∀g cs,C.iT g=some cs->∃vals:Nat->Value,(∀(j:Nat) c,cs[j]?=some c->G.F g (0+j)=some (vals j))/\∀(j:Nat) c,cs[j]?=some c->VT G.F c (vals j)
theorem jO.mono {C:cE}{G G':Gh}(h:jO C G)(hG:G.le G'):jO C G':=λg cs hg=>
 let⟨vals,h1,h2⟩:=h g cs hg
 ⟨vals,λj c hc=>hG.F _ _ _ (h1 j c hc),λj c hc=>(h2 j c hc).mono hG.F⟩
def SR (G:Gh)(slots:List TV)(a:Act):Prop:=cB G slots a.tmps.toList
theorem l9 (G:Gh):VR G bS undef:=.t _ _ (.cv [] [] rfl (by simp))
theorem SR.getD {G:Gh}{slots:List TV}{a:Act}(h:SR G slots a)(t:Nat):VR G (slots.getD t bS) (a.tmps.getD t undef):=by
 by_cases ht:t<slots.length
 ·have ht':t<a.tmps.size:=by have:=h.1;simp at this;omega
  have e1:slots[t]?=some slots[t]:=List.getElem?_eq_getElem ht;have e2:a.tmps.toList[t]?=some a.tmps[t]:=by simp[ht']
  have:=h.2 t _ _ e1 e2;simpa [List.getD,e1,ht'] using this
 ·have ht':¬t<a.tmps.size:=by have:=h.1;simp at this;omega
  have e1:slots[t]?=none:=List.getElem?_eq_none (by omega);simpa [List.getD,e1,ht'] using l9 G
theorem bP {C:cE}{G:Gh}{slots:List TV}{a:Act}(hs:SR G slots a)(hg:jO C G){x:Operand}{v:TV}(h:cg C slots x=some v):VR G v (a.eval x):=by
 cases x with
 |tmp t=>simp[cg,Hs] at h;subst h;exact hs.getD t
 |const c=>exact vM h
 |global g=>
  simp only[cg] at h
  cases hc:C.iT g<;>simp[hc] at h
  subst h
  obtain⟨vals,h1,h2⟩:=hg g _ hc
  exact .jt _ 0 g 0 vals h1 h2
 |func f=>simp[cg] at h;subst h;exact .t _ _ (.fn _)
theorem w8 {C:cE}{G:Gh}{slots:List TV}{a:Act}(hs:SR G slots a)(hg:jO C G){xs:List Operand}{vs:List TV}(h:iU C slots xs=some vs):cB G vs (xs.map a.eval):=by
 induction xs generalizing vs with
 |nil=>simp[iU] at h;subst h;exact cB.nil G
 |cons x r ih=>
  simp only[iU] at h
  cases h1:cg C slots x<;>cases h2:iU C slots r<;>simp[h1,h2] at h
  subst h
  exact cB.cons (bP hs hg h1) (ih h2)
def cG (P:Program)(nm:Nm)(o:Oper)(a:Act)(w:World)(G:Gh)(v:TV)(u:List (Nm×aO)):Prop:=
 ∃x w' G',((execOp a.eval o).run P w=.ok (.value x) w'\/((execOp a.eval o).run P w=.ok .skip w'/\x=undef))/\Step (λk=>k∈u.map (·.1)) (λk=>k=nm) G w G' w'/\
  (∀k ob,(k,ob)∈u->G'.dom k/\OR G' w' k ob)/\VR G' v x
theorem cG.eR {P:Program}{nm:Nm}{o:Oper}{a:Act}{w w':World}{G G':Gh}{v:TV}{u:List (Nm×aO)}{x:Value}
 (hr:(execOp a.eval o).run P w=.ok (.value x) w')(hs:Step (λk=>k∈u.map (·.1)) (λk=>k=nm) G w G' w')
 (hu:∀k ob,(k,ob)∈u->G'.dom k/\OR G' w' k ob)(hv:VR G' v x):cG P nm o a w G v u:=
 ⟨x,w',G',.inl hr,hs,hu,hv⟩
theorem cG.CC {P:Program}{nm:Nm}{o:Oper}{a:Act}{w w':World}{G G':Gh}{u:List (Nm×aO)}
 (hr:(execOp a.eval o).run P w=.ok .skip w')(hs:Step (λk=>k∈u.map (·.1)) (λk=>k=nm) G w G' w')
 (hu:∀k ob,(k,ob)∈u->G'.dom k/\OR G' w' k ob):cG P nm o a w G bS u:=
 ⟨undef,w',G',.inr ⟨hr,rfl⟩,hs,hu,l9 G'⟩
theorem cG.quiet {P:Program}{nm:Nm}{o:Oper}{a:Act}{w:World}{G:Gh}{v:TV}{x:Value}(hw:WF G w)
 (hr:(execOp a.eval o).run P w=.ok (.value x) w)(hv:VR G v x):cG P nm o a w G v []:=
 cG.eR hr (Step.refl hw _ _) (λ_ _ h=>by simp at h) hv
theorem VR.bool {G:Gh}{b:Bool}{v:Value}(h:VR G (.t (.bool b)) v):v=.bool b:=by cases h with|t _ _ h=>cases h;rfl
theorem VR.int {G:Gh}{k:IntKind}{n:Int}{v:Value}(h:VR G (.t (.int k n)) v):v=.int k n:=by cases h with|t _ _ h=>cases h;rfl
theorem VR.str {G:Gh}{s:List UInt8}{v:Value}(h:VR G (.t (.str s)) v):v=.string ⟨s.toArray⟩:=by cases h with|t _ _ h=>cases h;rfl
theorem bytesLess_eq:∀(a b:List UInt8),Op.bytesLess a b=cF a b
 |_,[]=>by cases ‹List UInt8›<;>rfl
 | [],_::_=>rfl
 |a::x,b::y=>by simp only[Op.bytesLess,cF,bytesLess_eq x y]
theorem toList_mk (s:List UInt8):(ByteArray.mk s.toArray).toList=s:=by
 rw[Go.ByteArray.toList_eq]
theorem Ss {P:Program}{G:Gh}{op:BinOp}{s u:List UInt8}{v:TV}(h:Xw op s u=some v)(w:World):
 ∃x,(Op.stringOp op ⟨s.toArray⟩ ⟨u.toArray⟩).run P w=.ok x w/\VR G v x:=by
 cases op<;>simp only[Xw] at h<;>(try (simp at h;done))<;>
  simp only[Op.stringOp,toList_mk,bytesLess_eq]
 case add=>
  split at h
  ·rename_i hle;simp at h;subst h;rw[if_neg]
   ·refine⟨_,rfl, ?_⟩;have e:(ByteArray.mk s.toArray++ByteArray.mk u.toArray)=⟨(s++u).toArray⟩:=by
     apply Go.WideShapes.bytes_inj;simp
    rw[e];exact .t _ _ (.str _)
   ·have e:IntKind.i64.max=9223372036854775807:=by decide
    rw[e];simp only[ByteArray.size,Sh,List.size_toArray] at hle ⊢;omega
  ·simp at h
 all_goals
  simp only[Option.some.injEq] at h;subst h
  exact⟨_,rfl,.t _ _ (.bool _)⟩
section quiet
variable {C:cE}{f:FuncId}{nm:Nm}{H:Heap}{slots:List TV}{o:Oper}{a:Act}{w:World}{G:Gh}{v:TV}{u:List (Nm×aO)}
theorem gJ {x:Option TV}(h:zi x=some (v,u)):x=some v/\u=[]:=by
 cases x<;>simp[zi] at h;exact⟨by rw[h.1],h.2⟩
theorem vQ {op:BinOp}{t:TypeId}{x y:Operand}{b c:TV}{p q:Value}(hb:VR G b p)(hc:VR G c q)(h:tQ C.P op t x y b c=some v):
 ∃r,(do eqGuard op t x y p q;binOp op t p q:Sem Value).run C.P w=.ok r w/\VR G v r:=by
 unfold tQ at h
 cases h1:jT b<;>cases h2:jT c<;>simp[h1,h2] at h
 rename_i p' q'
 have e1:=lY h1 hb
 have e2:=lY h2 hc
 subst e1;subst e2
 cases h3:cQ C.P (do eqGuard op t x y p q;binOp op t p q)<;>simp[h3] at h
 exact⟨_,oc h3 w,vM h⟩
theorem rH {op:BinOp}{t:TypeId}{x y:Operand}{p q:Value}(h:∀z,q≠ .agg z)(h':q≠ .nilIface):eqGuard op t x y p q=pure ():=by
 unfold eqGuard;cases q<;>first
  |(exact absurd rfl (h _))
  |(exact absurd rfl h')
  |(cases op<;>cases p<;>rfl)
theorem fe {t:TypeId}{x y:Operand}{p q:Value}{r:Bool}(hq:∀z,q≠ .agg z)(hq':q≠ .nilIface)(hp1:binOp .eql t p q=do pure (.bool (← Op.equal t p q)))(hp2:binOp .neq t p q=do pure (.bool (!(← Op.equal t p q))))
 (he:(Op.equalIn (9999+1) t p q).run C.P w=.ok r w):
 (do eqGuard .eql t x y p q;binOp .eql t p q:Sem Value).run C.P w=.ok (.bool r) w/\(do eqGuard .neq t x y p q;binOp .neq t p q:Sem Value).run C.P w=.ok (.bool (!r)) w:=by
 have he:(Op.equal t p q).run C.P w=.ok r w:=he
 rw[rH hq hq',rH hq hq',hp1,hp2]
 constructor
 ·show(Sem.bind (Op.equal t p q) _).run C.P w=_;rw[vO he];rfl
 ·show(Sem.bind (Op.equal t p q) _).run C.P w=_;rw[vO he];rfl
section eqs
variable {t e k:TypeId}{ps rs:Array TypeId}{va:Bool}{d:Nat}
theorem zq (hu:C.P.prog.underlying t=some (.slice e))(b:Option Addr)(n m l c:Nat):(Op.equalIn (d+1) t (.slice b n m) (.slice none l c)).run C.P w=.ok b.isNone w:=by
 simp only[Op.equalIn];rw[fR (aL hu w)];cases b<;>rfl
theorem F9 (hu:C.P.prog.underlying t=some (.map k e))(b:Option Nat):(Op.equalIn (d+1) t (.map b) (.map none)).run C.P w=.ok b.isNone w:=by
 simp only[Op.equalIn];rw[fR (aL hu w)];cases b<;>rfl
theorem Sv (hu:C.P.prog.underlying t=some (.func ps rs va)):(Op.equalIn (d+1) t .nilFunc .nilFunc).run C.P w=.ok true w:=by
 simp only[Op.equalIn];rw[fR (aL hu w)];rfl
theorem JT (hu:C.P.prog.underlying t=some (.func ps rs va))(f:Fn)(a b:Array Value):(Op.equalIn (d+1) t (.func f a b) .nilFunc).run C.P w=.ok false w:=by
 simp only[Op.equalIn];rw[fR (aL hu w)];rfl
theorem AV (hu:C.P.prog.underlying t=some (.pointer e))(b:Option Addr):(Op.equalIn (d+1) t (.pointer b) (.pointer none)).run C.P w=.ok b.isNone w:=by
 simp only[Op.equalIn];rw[fR (aL hu w)];cases b<;>rfl
end eqs
theorem Ga {t:TypeId}{x y:Operand}{b c:TV}{p q:Value}{ti:TI}{r:Bool}(ht:bf C.P t=some ti)(hb:VR G b p)(hc:VR G c q)(h:F4 ti.desc b c=some r)(w:World):
 (do eqGuard .eql t x y p q;binOp .eql t p q:Sem Value).run C.P w=.ok (.bool r) w/\(do eqGuard .neq t x y p q;binOp .neq t p q:Sem Value).run C.P w=.ok (.bool (!r)) w:=by
 obtain⟨i,hi,hu,_⟩:=bC ht
 unfold F4 at h
 split at h<;>simp only[Option.some.injEq,reduceCtorEq] at h<;>subst h<;>rename_i hd<;>rw[hd] at hu
 ·cases hb;cases hc;exact fe (by intro z;simp) (by simp) rfl rfl (zq hu none 0 0 0 0)
 ·cases hb with|t _ _ hb=>cases hb with|sl=>cases hc;exact fe (by intro z;simp) (by simp) rfl rfl (zq hu (some _) _ _ 0 0)
 ·cases hb with|jS _ _ hb=>cases hb with|sl=>cases hc;exact fe (by intro z;simp) (by simp) rfl rfl (zq hu (some _) _ _ 0 0)
 ·cases hb with|t _ _ hb=>cases hb;cases hc with|t _ _ hc=>cases hc;exact fe (by intro z;simp) (by simp) rfl rfl (F9 hu none)
 ·cases hb;cases hc with|t _ _ hc=>cases hc;exact fe (by intro z;simp) (by simp) rfl rfl (F9 hu (some _))
 ·cases hb with|t _ _ hb=>cases hb;cases hc with|t _ _ hc=>cases hc;exact fe (by intro z;simp) (by simp) rfl rfl (Sv hu)
 ·cases hb;cases hc with|t _ _ hc=>cases hc;exact fe (by intro z;simp) (by simp) rfl rfl (JT hu _ _ _)
 ·cases hb with|t _ _ hb=>cases hb;cases hc with|t _ _ hc=>cases hc;exact fe (by intro z;simp) (by simp) rfl rfl (JT hu _ _ _)
 ·cases hb with|t _ _ hb=>cases hb;cases hc with|t _ _ hc=>cases hc;exact fe (by intro z;simp) (by simp) rfl rfl (AV hu none)
 ·cases hb;cases hc with|t _ _ hc=>cases hc;exact fe (by intro z;simp) (by simp) rfl rfl (AV hu (some _))
 ·cases hb;cases hc with|t _ _ hc=>cases hc;exact fe (by intro z;simp) (by simp) rfl rfl (AV hu (some _))
end quiet
end Go.Abs
namespace Go.Abs
open Go
section
variable {C:cE}{f:FuncId}{nm:Nm}{H:Heap}{slots:List TV}{a:Act}{w:World}{G:Gh}{v:TV}
theorem Sw {P:Program}{op:BinOp}{k:IntKind}{n m:Int}(h:Qa op k n m=some v)(t:TypeId)(w:World):
 ∃r,(binOp op t (.int k n) (.int k m)).run P w=.ok r w/\VR G v r:=by
 cases op<;>simp only[Qa] at h<;>first
  |(simp at h;done)
  |(simp only[Option.some.injEq] at h;subst h;exact⟨_,by simp[binOp,Op.intArith,Op.intCmp]<;>rfl,.t _ _ (by first|exact .int _ _|exact .bool _)⟩)
  |( split at h
     · simp at h
     · rename_i h0
       simp only[Option.some.injEq] at h;subst h;exact⟨_,by simp[binOp,Op.intDiv,h0]<;>rfl,.t _ _ (.int _ _)⟩)
theorem Sy {op:BinOp}{t:TypeId}{x y:Operand}{b c:TV}{p q:Value}(hb:VR G b p)(hc:VR G c q)(h:r8 C.P op t x y b c=some v)(w:World):
 ∃r,(do eqGuard op t x y p q;binOp op t p q:Sem Value).run C.P w=.ok r w/\VR G v r:=by
 unfold r8 at h
 split at h
 ·rename_i s u;have e1:=hb.str;have e2:=hc.str;subst e1;subst e2;obtain⟨r,h1,h2⟩:=Ss h w (P:=C.P) (G:=G);refine⟨r, ?_,h2⟩;rw[rH (by intro z;simp) (by simp)];cases op<;>first|exact h1|(simp[Xw] at h)
 ·rename_i k n k' m;split at h;case isFalse=>exact vQ hb hc h
  rename_i hk;subst hk;split at h
  ·rename_i v' hv;simp only[Option.some.injEq] at h;subst h;have e1:=hb.int;have e2:=hc.int;subst e1;subst e2;obtain⟨r,h1,h2⟩:=Sw (P:=C.P) (G:=G) hv t w;refine⟨r, ?_,h2⟩;rw[rH (by intro z;simp) (by simp)];exact h1
  ·exact vQ hb hc h
 ·split at h
  ·split at h
   ·rename_i ti ht;cases hn:F4 ti.desc b c<;>simp[hn] at h;subst h;exact⟨_,(Ga ht hb hc hn w).1,.t _ _ (.bool _)⟩
   ·rename_i ti ht;cases hn:F4 ti.desc b c<;>simp[hn] at h;subst h;exact⟨_,(Ga ht hb hc hn w).2,.t _ _ (.bool _)⟩
   ·simp at h
  ·exact vQ hb hc h
theorem Xz {op:UnOp}{b:TV}{p:Value}(hb:VR G b p)(h:unT C.P op b=some v)(w:World):∃r,(Op.unary op p).run C.P w=.ok r w/\VR G v r:=by
 unfold unT at h;cases h1:jT b<;>simp[h1] at h;have e:=lY h1 hb;subst e;cases h2:cQ C.P (Op.unary op p)<;>simp[h2] at h;exact⟨_,oc h2 w,vM h⟩
theorem BK {p:TV}{x:Value}{cs:List TV}{off:Nat}(hH:HR G w H)(hw:WF G w)(hp:VR G p x)(h:tP H p=some (cs,off)):
 ∃b o vs,x=.pointer (some ⟨b,o+off,none⟩)/\cB G cs vs/\∀(j:Nat) u,vs[j]?=some u->w.cell? ⟨b,o+j,none⟩=some u:=by
 unfold tP at h
 split at h
 ·rename_i k o;split at h<;>simp at h;rename_i cs' hk;obtain⟨rfl,rfl⟩:=h;obtain⟨hd,ha,vs,ty,fr,hh,ht,hv,hf⟩:=hH k _ hk;cases hp with|ptr _ _ _ _=>
   refine⟨G.mu k,0,vs.toList,by simp,hv,λj u hu=> ?_⟩
   rw[cell_of hh];simpa using hu
 ·rename_i k n o;split at h
  ·rename_i g bD fz cs' hk;split at h<;>simp at h;rename_i hn;obtain⟨rfl,rfl⟩:=h;obtain⟨hd,he,cap,vs,ty,fr,ha,hh,ht,hs,hl,hv,hf⟩:=hH k _ hk;cases hp with|js _ _ _ n' Sz cap' _ hd' og hle ho vz=>
    rw[ha] at og
    simp at og
    obtain⟨e1,e2,e3⟩:=og
    have hx:=vz (by omega)
    refine⟨G.mu k,0,vs.toList.take cs'.length,by simpa using hx,hv,λj u hu=> ?_⟩
    rw[cell_of hh]
    rw[List.getElem?_take] at hu
    split at hu
    ·simpa using hu
    ·simp at hu
  ·simp at h
 ·rename_i cs' o;simp at h;obtain⟨rfl,rfl⟩:=h;cases hp with|jt _ _ b o' vals hF hv=>
   refine⟨b,o',(List.range cs'.length).map vals,rfl,⟨by simp,λj c u hc hu=> ?_⟩,λj u hu=> ?_⟩
   ·rw[List.getElem?_map] at hc hu;cases hj:cs'[j]? with
    |none=>rw[hj] at hc;simp at hc
    | some t=>
      rw[hj] at hc;simp at hc;subst hc
      have hlt:j<cs'.length:=(List.getElem?_eq_some_iff.1 hj).1
      simp[hlt] at hu
      subst hu
      exact .t _ _ (hv j t hj)
   ·rw[List.getElem?_map] at hu;by_cases hlt:j<cs'.length
    ·simp[hlt] at hu;subst hu;obtain⟨vs,ty,fr,h1,h2⟩:=hw.F _ _ _ (hF j cs'[j] (List.getElem?_eq_getElem hlt));rw[cell_of h1];exact h2
    ·rw[List.getElem?_eq_none (by simpa using hlt)] at hu;simp at hu
 ·simp at h
theorem C4 {t:TypeId}{ti:TI}{cs:List TV}{vs:List Value}{b o off:Nat}(ht:bf C.P t=some ti)(hv:cB G cs vs)(hc:∀(j:Nat) u,vs[j]?=some u->w.cell? ⟨b,o+j,none⟩=some u)
 (h:partT ti.agg ti.size cs off=some v):∃r,(loadVar t ⟨b,o+off,none⟩).run C.P w=.ok r w/\VR G v r:=by
 unfold partT at h
 unfold loadVar
 rw[fR (F8 ht w)]
 cases hag:ti.agg<;>rw[hag] at h<;>simp only[Bool.false_eq_true,if_true,if_false] at h ⊢
 ·obtain⟨u,hu,Qf⟩:=hv.at h;refine⟨u, ?_,Qf⟩;exact JS (hc off u hu)
 ·split at h<;>simp at h;rename_i hle;subst h;have hlen:((vs.drop off).take ti.size).length=ti.size:=by have:=hv.1;simp;omega
  refine⟨.agg ((vs.drop off).take ti.size).toArray, ?_,vL ((hv.drop off).take ti.size)⟩;rw[fR (dR ht w)];have hl:=nV (P:=C.P) (w:=w) (b:=b) (o:=o+off) ((vs.drop off).take ti.size) (λj u hu=>by
   rw[List.getElem?_take] at hu;split at hu
   ·rw[List.getElem?_drop] at hu;rw[Nat.add_assoc];exact hc _ u hu
   ·simp at hu)
  rw[hlen] at hl;rw[fR hl];rfl
theorem Qg {t:TypeId}{p:TV}{x:Value}(hH:HR G w H)(hw:WF G w)(hp:VR G p x)(h:loadT C.P H t p=some v):∃r,(Instr.loadAt t x).run C.P w=.ok r w/\VR G v r:=by
 unfold loadT at h;cases ht:bf C.P t<;>cases hc:tP H p<;>simp[ht,hc] at h;rename_i ti co;obtain⟨cs,off⟩:=co;obtain⟨b,o,vs,rfl,hv,hcell⟩:=BK hH hw hp hc;exact C4 ht hv hcell h
theorem C5 {t:TypeId}{ti:TI}{cs:List TV}{vs:List Value}{off:Nat}(ht:bf C.P t=some ti)(hv:cB G cs vs)
 (h:partT ti.agg ti.size cs off=some v)(w:World):∃r,(part t vs.toArray off).run C.P w=.ok r w/\VR G v r:=by
 unfold partT at h
 unfold part
 rw[fR (F8 ht w)]
 cases hag:ti.agg<;>rw[hag] at h<;>simp only[Bool.false_eq_true,if_true,if_false] at h ⊢
 ·obtain⟨u,hu,Qf⟩:=hv.at h;refine⟨u, ?_,Qf⟩;have:vs.toArray[off]?=some u:=by simpa using hu
  rw[this];rfl
 ·split at h<;>simp at h;rename_i hle;subst h;refine⟨.agg ((vs.drop off).take ti.size).toArray, ?_,vL ((hv.drop off).take ti.size)⟩;rw[fR (dR ht w)];have:vs.toArray.extract off (off+ti.size)=((vs.drop off).take ti.size).toArray:=by
   simp[List.extract_eq_take_drop]
  rw[this];rfl
theorem VR.SA {p:TV}{x:Value}(hp:VR G p x)(hx:AQ p=true):∃vs:List Value,x=.agg vs.toArray/\cB G p.cells vs:=by
 cases hp with
 |t y v h=>
  cases h with
  |agg cs vs hl h=>exact⟨vs,rfl,Cj.JQ ⟨hl,h⟩⟩
  |_=>simp[AQ] at hx
 |agg cs vs hl h=>exact⟨vs,rfl,hl,h⟩
 |_=>simp[AQ] at hx
theorem Gb {p:TV}{x:Value}{n:Nat}(hH:HR G w H)(hp:VR G p x)(h:qo H p n=some v):
 ∃b o,x=.pointer (some ⟨b,o,none⟩)/\VR G v (.pointer (some ⟨b,o+n,none⟩)):=by
 unfold qo at h
 split at h
 ·simp at h;subst h;cases hp with|ptr k o hd hn=>exact⟨_,_,rfl,.ptr _ _ hd hn⟩
 ·rename_i k m o;split at h
  ·rename_i g bD fz cs hk;split at h<;>simp at h;rename_i hm;subst h;obtain⟨hd,he,cap,vs,ty,fr,ha,hh,ht,hs,hl,hv,hf⟩:=hH k _ hk;cases hp with|js _ _ _ n' Sz cap' _ hd' og hle ho vz=>
    rw[ha] at og
    simp at og
    obtain⟨e1,e2,e3⟩:=og
    have hx:=vz (by omega)
    exact⟨_,_,hx,.js k m _ cs.length bD cap _ hd ha (by omega) ⟨_,rfl⟩ (λ_=>rfl)⟩
  ·simp at h
 ·simp at h;subst h;cases hp with|jt cs o b o' vals hF hv=>exact⟨b,_,rfl,by rw[Nat.add_assoc];exact .jt _ _ b o' vals hF hv⟩
 ·simp at h
theorem C6 {fd:Field}{ti:TI}{b o:Nat}(ht:bf C.P fd.type=some ti)(hs:ti.size≠0)(w:World):(fieldPlace ⟨b,o,none⟩ fd).run C.P w=.ok ⟨b,o+fd.offset,none⟩ w:=by
 unfold fieldPlace;rw[fR (dR ht w),if_neg hs,oe];rfl
theorem Fx {s:TypeId}{x:Value}{p:TV}{i:Nat}{ti tf:TI}{fs:Array Field}{fd:Field}(hH:HR G w H)(hp:VR G p x)(ht:bf C.P s=some ti)(hd:ti.desc=.struct fs)(hi:fs[i]?=some fd)
 (SB:bf C.P fd.type=some tf)(hs:tf.size≠0)(h:qo H p fd.offset=some v):∃r,(Instr.fieldAt s x i).run C.P w=.ok r w/\VR G v r:=by
 obtain⟨b,o,rfl,hv⟩:=Gb hH hp h
 refine⟨_, ?_,hv⟩
 obtain⟨_,_,hu,_⟩:=bC ht
 rw[hd] at hu
 simp[Instr.fieldAt,aL hu w,hi,Instr.sureAddr,C6 SB hs w]
theorem Qh {t:TypeId}{x:Value}{p:TV}{i:Nat}{ti tf:TI}{fs:Array Field}{fd:Field}(hp:VR G p x)(ht:bf C.P t=some ti)(hd:ti.desc=.struct fs)(hi:fs[i]?=some fd)
 (SB:bf C.P fd.type=some tf)(hagg:AQ p=true)(h:partT tf.agg tf.size p.cells fd.offset=some v)(w:World):∃r,(Instr.field t x i).run C.P w=.ok r w/\VR G v r:=by
 obtain⟨vs,rfl,hv⟩:=hp.SA hagg
 obtain⟨r,h1,h2⟩:=C5 SB hv h w
 refine⟨r, ?_,h2⟩
 obtain⟨_,_,hu,_⟩:=bC ht
 rw[hd] at hu
 simp[Instr.field,aL hu w,hi,asAgg,h1]
theorem qw {p:TV}{x:Value}{n:Nat}(hp:VR G p x)(h:fA p=some n):∃k,x=.int k (n:Int):=by
 unfold fA at h;split at h
 ·rename_i k m;split at h<;>simp at h;subst h;have:=hp.int;subst this;exact⟨k,by rw[Int.toNat_of_nonneg (by assumption)]⟩
 ·simp at h
theorem Qi {t:TypeId}{x y:Value}{p q:TV}(hp:VR G p x)(hq:VR G q y)(h:qp C.P t p q=some v)(w:World):∃r,(Instr.index t x y).run C.P w=.ok r w/\VR G v r:=by
 unfold qp at h;cases ht:bf C.P t<;>cases hi:fA q<;>simp only[ht,hi,reduceCtorEq] at h;rename_i ti i;obtain⟨k,rfl⟩:=qw hq hi;obtain⟨_,_,hu,_⟩:=bC ht;split at h
 ·rename_i s hd;have:=hp.str;subst this;rw[hd] at hu;cases hb:s[i]? <;>simp[hb] at h;subst h;refine⟨_, ?_,.t _ _ (.int _ _)⟩;have hs:(ByteArray.mk s.toArray)[i]?=some ‹UInt8›:=by
   obtain⟨h1,h2⟩:=List.getElem?_eq_some_iff.1 hb;rw[getElem?_pos _ _ (by simpa [ByteArray.size] using h1)];have e:(ByteArray.mk s.toArray)[i]'(by simpa [ByteArray.size] using h1)=s[i]:=rfl;rw[e,h2]
  simp[Instr.index,asIntOf,aL hu w,hs]
 ·rename_i len elem hd;cases hte:bf C.P elem<;>simp only[hte,reduceCtorEq] at h;rename_i te;split at h
  ·rename_i hc;obtain⟨h1,h2,h3⟩:=hc;obtain⟨vs,rfl,hv⟩:=hp.SA h3;obtain⟨r,h4,h5⟩:=C5 hte hv h w;refine⟨r, ?_,h5⟩;rw[hd] at hu;simp[Instr.index,asIntOf,aL hu w,h1,dR hte w,h4]
  ·simp at h
 ·simp at h
theorem JU {x:Value}{p:TV}{i:Nat}(hp:VR G p x)(h:CY p i=some v)(w:World):∃r,(Instr.extract x i).run C.P w=.ok r w/\VR G v r:=by
 unfold CY at h;split at h
 ·cases hp with|cv _ vs hl hh=>
   obtain⟨u,h1,h2⟩:=cB.at ⟨hl,hh⟩ h
   refine⟨u, ?_,h2⟩
   have:vs.toArray[i]?=some u:=by simpa using h1
   simp[Instr.extract,this]
 ·rename_i cs;cases hp with|t _ _ ht=>cases ht with|cv _ vs hl hh=>
   obtain⟨u,h1,h2⟩:=cB.at (Cj.JQ (G:=G) ⟨hl,hh⟩) (by simpa using h)
   refine⟨u, ?_,h2⟩
   have:vs.toArray[i]?=some u:=by simpa using h1
   simp[Instr.extract,this]
 ·simp at h
theorem Ms {x:Value}{p:TV}{xt t:TypeId}{ok:Bool}(hp:VR G p x)(h:Hr C.P p t ok=some v)(w:World):∃r,(Instr.typeAssert x xt t ok).run C.P w=.ok r w/\VR G v r:=by
 unfold Hr at h;cases ht:bf C.P t<;>simp only[ht,reduceCtorEq] at h;rename_i ta;obtain⟨_,_,hu,_⟩:=bC ht;have hx:∀t' v',(match p with|.iface t v=>some (t,v)|.t (.iface t v)=>some (t,.t v)|_=>none)=some (t',v')->∃y,x=.iface t' y/\VR G v' y:=by
  intro t' v' he;split at he<;>simp at he
  ·obtain⟨rfl,rfl⟩:=he;cases hp with|iface _ _ y hy=>exact⟨y,rfl,hy⟩
  ·obtain⟨rfl,rfl⟩:=he;cases hp with|t _ _ hy=>cases hy with|iface _ _ y hy=>exact⟨y,rfl,.t _ _ hy⟩
 split at h
 ·simp at h
 ·rename_i t' v' he hni;obtain⟨y,rfl,hy⟩:=hx t' v' he;split at h
  ·rename_i SC;subst SC;simp at h;subst h;refine⟨if ok then .tuple #[y,.bool true] else y, ?_, ?_⟩
   ·unfold Instr.typeAssert;rw[fR (aL hu w)];cases hdd:ta.desc<;>first
     |(exact absurd hdd (hni _))
     |(cases ok<;>simp)
   ·cases ok
    ·exact hy
    ·exact lX (cB.cons hy (cB.one (.t _ _ (.bool true))))
  ·rename_i SC;split at h
   ·rename_i hok;subst hok;cases hz:ta.zero<;>simp[hz] at h;subst h;obtain⟨z,hz1,C7⟩:=eM ht hz w G;refine⟨.tuple #[z,.bool false], ?_,lX (cB.cons C7 (cB.one (.t _ _ (.bool false))))⟩;unfold Instr.typeAssert;rw[fR (aL hu w)];cases hdd:ta.desc<;>first
     |(exact absurd hdd (hni _))
     |simp[SC,hz1]
   ·simp at h
 ·simp at h
def sure:Value->Prop
 |.pointer (some _)=>True
 |.func (.func _) _ _=>True
 |_=>False
theorem JV {x:Value}{p:TV}(hp:VR G p x)(h:JM p=true):sure x:=by
 unfold JM at h;split at h<;>simp at h
 ·cases hp;trivial
 ·cases hp with|js _ _ _ _ _ _ _ _ _ _ ho _=>obtain⟨_,rfl⟩:=ho;trivial
 ·cases hp;trivial
 ·cases hp with|t _ _ hp=>cases hp;trivial
 ·cases hp;trivial
end
end Go.Abs
namespace Go.Abs
open Go
theorem Tree.C8 {x:Tree}(h:x.leaf=true):x.cells=[x]:=by cases x<;>simp_all [Tree.leaf,Tree.cells]
theorem tV {g:Bool}{size:Nat}:∀{n:Nat} {cs es:List Tree},chunk g size n cs=some es->es.length=n/\flat es=cs/\∀e∈es,e.cells.length=size:=by
 intro n;induction n with
 | zero=>
   intro cs es h
   simp only[chunk] at h
   split at h<;>simp at h
   rename_i hc
   subst h
   simp at hc
   subst hc
   simp[flat]
 | succ n ih =>
   intro cs es h
   simp only[chunk] at h
   split at h
   · rename_i hle
     cases hr:chunk g size n (cs.drop size) with
     |none=>rw[hr] at h;simp at h
     | some r=>
       rw[hr] at h
       simp only at h
       obtain⟨h1,h2,h3⟩:=ih hr
       split at h
       · simp at h;subst h
         refine⟨by simp[h1], ?_,λe he=> ?_⟩
         · simp only[flat,List.flatMap_cons,Tree.cells] at h2 ⊢
           rw[h2,List.take_append_drop]
         · rcases List.mem_cons.1 he with rfl|he
           · simp[Tree.cells,hle]
           · exact h3 e he
       · split at h
         · rename_i c rest
           split at h<;>simp at h
           rename_i hc
           obtain⟨rfl,hl⟩:=hc
           subst h
           refine⟨by simp[h1], ?_,λe he=> ?_⟩
           · simp only[flat,List.flatMap_cons,Tree.C8 hl] at h2 ⊢
             rw[h2];simp
           · rcases List.mem_cons.1 he with rfl|he
             · simp[Tree.C8 hl]
             · exact h3 e he
         · simp at h
   · simp at h
section
variable {G:Gh}{w:World}{H:Heap}
open Classical in
noncomputable def Hz (G:Gh)(w:World)(H:Heap)(ks:List Nm):vI:=λb o=>
 if ∃k,k∈ks/\G.dom k/\∃g e fz cs,H.get k=some (.arr g e fz cs)/\G.mu k=b/\o<cs.length then w.cell? ⟨b,o,none⟩ else G.F b o
noncomputable def Gh.frozen (G:Gh)(w:World)(H:Heap)(ks:List Nm):Gh:={G with F:=Hz G w H ks}
theorem vR (hw:WF G w)(ks:List Nm):∀b o v,G.F b o=some v->Hz G w H ks b o=some v:=by
 intro b o v h;unfold Hz;split
 ·obtain⟨vs,ty,fr,h1,h2⟩:=hw.F b o v h;rw[cell_of h1];exact h2
 ·exact h
theorem AY (    hw:WF G w)(hH:HR G w H)(ks:List Nm):∀(n:Nat) (v:TV) (x:Tree) (k0:List Nm) (val:Value),pQ H n v=some (x,k0)->(∀k∈k0,k∈ks)->VR G v val->VT (Hz G w H ks) x val:=by
 intro n;induction n with
 | zero=>
   intro v x k0 val h hk hv
   cases v<;>simp only[pQ] at h<;>try (simp at h;done)
   · simp at h;obtain⟨rfl,rfl⟩:=h;exact hv.tree.mono (vR hw ks)
   · simp at h;obtain⟨rfl,rfl⟩:=h;cases hv;exact .AO _ _
   · simp at h;obtain⟨rfl,rfl⟩:=h;cases hv with|jS _ _ hv=>exact hv.mono (vR hw ks)
 | succ n ih =>
   have ihs:∀(vs:List TV) (xs:List Tree) (k0:List Nm) (vals:List Value),zk (pQ H n) vs=some (xs,k0)->(∀k∈k0,k∈ks)->cB G vs vals->Cj (Hz G w H ks) xs vals:=by
     intro vs
     induction vs with
     |nil=>intro xs k0 vals h _ hv;simp[zk] at h;obtain⟨rfl,rfl⟩:=h;have:=hv.1;simp at this;subst this;exact Cj.nil _
     | cons v r ihr=>
       intro xs k0 vals h hk hv
       obtain⟨u,us,rfl,h1,h2⟩:=hv.fQ
       simp only[zk] at h
       cases h3:pQ H n v<;>cases h4:zk (pQ H n) r<;>simp[h3,h4] at h
       rename_i p q
       obtain⟨rfl,rfl⟩:=h
       exact Cj.cons (ih v p.1 p.2 u (by rw[h3]) (λk hk'=>hk k (List.mem_append.2 (.inl hk'))) h1)
         (ihr q.1 q.2 us (by rw[h4]) (λk hk'=>hk k (List.mem_append.2 (.inr hk'))) h2)
   intro v x k0 val h hk hv
   cases v with
   |any=>simp[pQ] at h
   |t y=>simp only[pQ] at h;simp at h;obtain⟨rfl,rfl⟩:=h;exact hv.tree.mono (vR hw ks)
   |cc=>simp only[pQ] at h;simp at h;obtain⟨rfl,rfl⟩:=h;cases hv;exact .AO _ _
   |jS es=>simp only[pQ] at h;simp at h;obtain⟨rfl,rfl⟩:=h;cases hv with|jS _ _ hv=>exact hv.mono (vR hw ks)
   | ref k off len =>
     simp only[pQ] at h
     split at h
     · rename_i g bD fz cs hk'
       split at h
       · rename_i hc
         obtain⟨hpos,hlen⟩:=hc
         split at h
         · rename_i ts ks' hts
           split at h
           · rename_i es x5
             simp at h
             obtain⟨rfl,rfl⟩:=h
             obtain⟨hd,he,cap,vs,ty,fr,ha,hh,ht,hs,hl,hvs,hf⟩:=hH k _ hk'
             cases hv with|ref _ _ _ n' Sz cap' _ hd' og hle ho vz=>
               rw[ha] at og
               simp at og
               obtain⟨e1,e2,e3⟩:=og
               subst e2;subst e3
               obtain⟨a,rfl,adv⟩:=vz (by rw[hlen];exact e1)
               obtain⟨c1,c2,c3⟩:=tV x5
               by_cases hne:es=[]
               · subst hne
                 simp at c1
                 subst c1
                 exact .AO _ _
               · have OH:len≠0:=by intro e;subst e;exact hne (List.length_eq_zero_iff.1 c1)
                 have hcap:off+len<=cap:=by
                   have:(off+len) *bD<=cap*bD:=by rw[hlen,← hs];exact hl
                   exact Nat.le_of_mul_le_mul_right this hpos
                 rw[adv (by omega),← c1]
                 have hsub:=(hvs.drop (off*bD)).take (len*bD)
                 have hVT:=ihs _ ts ks' _ hts (λk hk2=>hk k (List.mem_cons_of_mem _ hk2)) hsub
                 have htl:ts.length=len*bD:=by
                   have:=hVT.1
                   have h2:=hsub.1
                   simp at h2 this
                   rw[← this,h2]
                   have:(off+len) *bD=off*bD+len*bD:=Nat.add_mul _ _ _
                   omega
                 have hmul:(off+len) *bD=off*bD+len*bD:=Nat.add_mul _ _ _
                 refine .sl bD es (G.mu k) (off*bD) (cap - off) (λj=>vs.toList.getD (off*bD+j) undef) hne (by omega) c3 ?_ ?_
                 · intro j c hj
                   rw[c2] at hj
                   have hjl:j<ts.length:=(List.getElem?_eq_some_iff.1 hj).1
                   have hbound:off*bD+j<cs.length:=by omega
                   unfold Hz
                   rw[if_pos ⟨k,hk k List.mem_cons_self,hd,g,bD,fz,cs,hk',rfl,hbound⟩,cell_of hh]
                   have:off*bD+j<vs.size:=by omega
                   simp[List.getD,this]
                 · intro j c hj
                   rw[c2] at hj
                   have hjl:j<ts.length:=(List.getElem?_eq_some_iff.1 hj).1
                   have hbound:off*bD+j<cs.length:=by omega
                   have hvl:off*bD+j<vs.size:=by omega
                   refine hVT.2 j c _ hj ?_
                   rw[List.getElem?_take,if_pos (by omega),List.getElem?_drop,List.getElem?_take,if_pos hbound]
                   simp[List.getD,hvl]
           · simp at h
         · simp at h
       · simp at h
     · simp at h
   | agg cs=>
     simp only[pQ] at h
     cases h1:zk (pQ H n) cs<;>simp[h1] at h
     obtain⟨rfl,rfl⟩:=h
     cases hv with|agg _ vs hl hh=>exact(ihs cs _ _ vs (by rw[h1]) hk ⟨hl,hh⟩).agg
   | cv cs=>
     simp only[pQ] at h
     cases h1:zk (pQ H n) cs<;>simp[h1] at h
     obtain⟨rfl,rfl⟩:=h
     cases hv with|cv _ vs hl hh=>exact(ihs cs _ _ vs (by rw[h1]) hk ⟨hl,hh⟩).cv
   | iface ty y=>
     simp only[pQ] at h
     cases h1:pQ H n y<;>simp[h1] at h
     obtain⟨rfl,rfl⟩:=h
     cases hv with|iface _ _ u hu=>exact .iface _ _ _ (ih y _ _ u (by rw[h1]) hk hu)
   | fn f fs cs=>
     cases fs<;>cases cs<;>simp only[pQ] at h<;>simp at h
     obtain⟨rfl,rfl⟩:=h
     cases hv with|fn _ _ _ vs ws hl _ hl' _=>simp at hl hl';subst hl;subst hl';exact .fn f
   |ptr=>simp[pQ] at h
   |js=>simp[pQ] at h
   |jt=>simp[pQ] at h
   |map=>simp[pQ] at h
theorem iu (hw:WF G w)(hH:HR G w H)(ks:List Nm):Step (λk=>k∈ks/\∃g e fz cs,H.get k=some (.arr g e fz cs)) (λ_=>False) G w (G.frozen w H ks) w:=by
 refine⟨⟨vR hw ks,λ_ d=>d,λ_ _ a=>⟨a,rfl⟩,λ_ n e c _ a=>⟨n,e,c,a,Nat.le_refl _,λ_=>⟨rfl,rfl,rfl⟩,.inl rfl⟩⟩,⟨λb o v h=> ?_,hw.inj,hw.lt⟩,λ_ _ _=>⟨rfl,rfl⟩,λb hb hn=>⟨rfl,λo=> ?_⟩,λ_ d=>.inl d,λk d=>.inl ⟨k,d,rfl,.inl rfl⟩,Nat.le_refl _,rfl,rfl,rfl⟩
 ·simp only[Gh.frozen,Hz] at h;split at h
  ·unfold World.cell? at h;split at h
   ·rename_i c ty fr hb;simp at h;exact⟨c,ty,fr,hb,h⟩
   ·simp at h
  ·exact hw.F b o v h
 ·simp only[Gh.frozen,Hz];rw[if_neg];rintro ⟨k,hk,hd,g,e,fz,cs,h1,h2,h3⟩;exact hn k ⟨hk,g,e,fz,cs,h1⟩ hd ((hH k _ h1).2.alive (by simp)) h2
theorem JW {H:Heap}{ks:List Nm}{k:Nm}{ob:aO}(h:(k,ob)∈cT H ks):k∈ks/\∃g e fz cs,H.get k=some (.arr g e fz cs)/\ob=.arr g e true cs:=by
 unfold cT at h;rw[List.mem_filterMap] at h;obtain⟨k',hk',h⟩:=h;split at h
 ·rename_i g e fz cs hg;simp at h;obtain⟨rfl,rfl⟩:=h;exact⟨hk',g,e,fz,cs,hg,rfl⟩
 ·simp at h
theorem mg {H:Heap}{ks:List Nm}{k:Nm}(hk:k∈ks)(h:∃g e fz cs,H.get k=some (.arr g e fz cs)):k∈(cT H ks).map (·.1):=by
 obtain⟨g,e,fz,cs,hg⟩:=h;rw[List.mem_map];refine⟨(k,.arr g e true cs), ?_,rfl⟩;unfold cT;rw[List.mem_filterMap];exact⟨k,hk,by rw[hg]⟩
theorem sI (hw:WF G w)(hH:HR G w H){ks:List Nm}{k:Nm}{ob:aO}(h:(k,ob)∈cT H ks):(G.frozen w H ks).dom k/\OR (G.frozen w H ks) w k ob:=by
 obtain⟨hk,g,e,fz,cs,hg,rfl⟩:=JW h;obtain⟨hd,he,cap,vs,ty,fr,ha,hh,ht,hs,hl,hv,hf⟩:=hH k _ hg;refine⟨hd,he,cap,vs,ty,fr,ha,hh,ht,hs,hl,hv.mono (iu hw hH ks).le,λo ho=> ?_⟩;rcases ho with ho|ho
 ·simp at ho
 ·simp only[Gh.frozen,Hz];rw[if_neg]
  ·exact hf o (.inr ho)
  ·rintro ⟨k',hk',hd',g',e',fz',cs',h1,h2,h3⟩;have:=hw.inj k' k hd' hd ((hH k' _ h1).2.alive (by simp)) (Gh.fW ha he) h2;subst this;rw[hg] at h1;simp at h1;obtain⟨_,_,_,rfl⟩:=h1;omega
end
end Go.Abs
