/- The abstract interpreter: trees and abstract values, the heap of a call, the operations on them. Program-independent. -/
import Derived.WalkKit
set_option linter.unusedVariables false
set_option linter.unusedSimpArgs false
namespace Go.Abs
open Go
inductive Nm where
 |arg (i:Nat)
 |loc (p:List Nat)
 deriving DecidableEq,Repr,Inhabited
inductive Tree where
 |bool (b:Bool)
 |int (k:IntKind) (n:Int)
 |str (s:List UInt8)
 |sl (es:List Tree)
 |agg (cs:List Tree)
 |cF (vs:List Tree)
 |cT
 |jZ
 |uJ
 |fn (f:Fn)
 |Cj
 |iface (t:TypeId) (v:Tree)
 deriving Inhabited
inductive TV where
 |t (x:Tree)
 |bX
 |pZ (es:List Tree)
 |ref (k:Nm) (off len:Nat)
 |agg (cs:List TV)
 |cF (vs:List TV)
 |ptr (k:Nm) (off:Nat)
 |lK (k:Nm) (n off:Nat)
 |lM (cs:List Tree) (off:Nat)
 |map (k:Nm)
 |fn (f:Fn) (first captured:List TV)
 |iface (t:TypeId) (v:TV)
 |any
 deriving Inhabited
inductive aO where
 |cells (ty:TypeId) (cs:List TV)
 |arr (g:TypeId×Bool) (cc:Nat) (fz:Bool) (cs:List TV)
 |map (es:List (TV×TV×Nat)) (clock:Nat)
 |dead
 deriving Inhabited
abbrev Heap:=List (Nm×aO)
def Heap.get (H:Heap)(k:Nm):Option aO:=
 match H with
 | []=>none
 |(k',o)::r=>if k'=k then some o else Heap.get r k
def Heap.put (H:Heap)(k:Nm)(o:aO):Heap:=
 match H with
 | []=>[(k,o)]
 |(k',o')::r=>if k'=k then(k,o)::r else(k',o')::Heap.put r k o
def Heap.eY (H:Heap)(u:List (Nm×aO)):Heap:=u.foldl (λh p=>h.put p.1 p.2) H
def Tree.cells:Tree->List Tree
 |.agg cs=>cs
 |x=>[x]
def TV.cells:TV->List TV
 |.t (.agg cs)=>cs.map .t
 |.agg cs=>cs
 |v=>[v]
def Tree.leaf:Tree->Bool
 |.agg _=>false
 |.cF _=>false
 |_=>true
def TV.leaf:TV->Bool
 |.t x=>x.leaf
 |.any=>false
 |.agg _=>false
 |.cF _=>false
 |_=>true
def Eo:TV->Bool
 |.t (.agg _)=>true
 |.agg _=>true
 |_=>false
def allT:List TV->Option (List Tree)
 | []=>some []
 |.t x::r=>match allT r with
  |some xs=>some (x::xs)
  |none=>none
 |_::_=>none
def AQ (cs:List TV):TV:=
 match allT cs with
 |some ts=>.t (.agg ts)
 |none=>.agg cs
def sj (cs:List TV):TV:=
 match allT cs with
 |some ts=>.t (.cF ts)
 |none=>.cF cs
def dm:TV:=.t (.cF [])
def flat (es:List Tree):List Tree:=es.flatMap Tree.cells
def Bj:Value->Option TV
 |.bool b=>some (.t (.bool b))
 |.int k n=>some (.t (.int k n))
 |.string s=>some (.t (.str s.data.toList))
 |.slice none 0 0=>some .bX
 |.pointer none=>some (.t .cT)
 |.map none=>some (.t .jZ)
 |.nilFunc=>some (.t .uJ)
 |.nilIface=>some (.t .Cj)
 |.func f fs cs=>if fs.isEmpty&&cs.isEmpty then some (.t (.fn f)) else none
 |_=>none
def om:List Value->Option (List TV)
 | []=>some []
 |v::r=>match Bj v,om r with
  |some x,some xs=>some (x::xs)
  |_,_=>none
def valOf:Value->Option TV
 |.agg cs=>match om cs.toList with
  |some xs=>some (AQ xs)
  |none=>none
 |.tuple cs=>match om cs.toList with
  |some xs=>some (sj xs)
  |none=>none
 |v=>Bj v
def Ie:TV->Option Value
 |.t (.bool b)=>some (.bool b)
 |.t (.int k n)=>some (.int k n)
 |.t (.str s)=>some (.string ⟨s.toArray⟩)
 |.bX=>some (.slice none 0 0)
 |.t .cT=>some (.pointer none)
 |.t .jZ=>some (.map none)
 |.t .uJ=>some .nilFunc
 |.t .Cj=>some .nilIface
 |_=>none
def sy:List TV->Option (List Value)
 | []=>some []
 |v::r=>match Ie v,sy r with
  |some x,some xs=>some (x::xs)
  |_,_=>none
def Ig:TV->Option Value
 |.t (.agg cs)=>match sy (cs.map .t) with
  |some vs=>some (.agg vs.toArray)
  |none=>none
 |.agg cs=>match sy cs with
  |some vs=>some (.agg vs.toArray)
  |none=>none
 |v=>Ie v
def lX:TV->Option Value
 |.t (.iface t x)=>match Ig (.t x) with
  |some v=>some (.iface t v)
  |none=>none
 |.iface t x=>match Ig x with
  |some v=>some (.iface t v)
  |none=>none
 |v=>Ig v
def eL {α:Type}(P:Program):Sem α->Option α
 |.pure a=>some a
 |.program k=>eL P (k P)
 |_=>none
structure TI where
 size:Nat
 bytes:Nat
 agg:Bool
 zero:Option TV
 desc:TypeDesc
def Yn (P:Program)(t:TypeId):Option TI:=
 match P.info? t,P.underlying t with
 |some i,some d=>some {size:=i.size,bytes:=i.bytes,agg:=(match d with|.struct _|.array _ _=>true|_=>false),zero:=i.zero.bind valOf,desc:=d}
 |_,_=>none
structure jY where
 prog:Program
 ty:TypeId->Option TI
 fn:FuncId->Option Func
 ald:∀t i,ty t=some i->Yn prog t=some i
 Yo:∀f g,fn f=some g->prog.funcs[f]?=some g
instance:Coe jY Program:=⟨jY.prog⟩
def bx (P:jY)(t:TypeId):Option TI:=P.ty t
def partT (agg:Bool)(size:Nat)(cs:List TV)(off:Nat):Option TV:=
 if agg then(if off+size<=cs.length then some (AQ ((cs.drop off).take size)) else none) else cs[off]?
def wV (H:Heap):TV->Option (List TV×Nat)
 |.ptr k off=>match H.get k with
  |some (.cells _ cs)=>some (cs,off)
  |_=>none
 |.lK k n off=>match H.get k with
  |some (.arr _ _ _ cs)=>if cs.length=n then some (cs,off) else none
  |_=>none
 |.lM cs off=>some (cs.map .t,off)
 |_=>none
def loadT (P:jY)(H:Heap)(t:TypeId)(a:TV):Option TV:=
 match bx P t,wV H a with
 |some ti,some (cs,off)=>partT ti.agg ti.size cs off
 |_,_=>none
def dN (cs:List TV)(off:Nat)(vs:List TV):List TV:=cs.take off++vs++cs.drop (off+vs.length)
def storeT (P:jY)(H:Heap)(t:TypeId)(a x:TV):Option (List (Nm×aO)):=
 match bx P t with
 |none=>none
 | some ti=>
  if x.cells.length=ti.size/\x.cells.all TV.leaf=true then
   match a with
   |.ptr k off=>match H.get k with
    |some (.cells ty cs)=>if off+ti.size<=cs.length then some [(k,.cells ty (dN cs off x.cells))] else none
    |_=>none
   |.lK k n off=>match H.get k with
    |some (.arr g cc false cs)=>if cs.length=n/\off+ti.size<=cs.length then some [(k,.arr g cc false (dN cs off x.cells))] else none
    |_=>none
   |_=>none
  else none
def sZ (H:Heap)(a:TV)(n:Nat):Option TV:=
 match a with
 |.ptr k o=>some (.ptr k (o+n))
 |.lK k m o=>match H.get k with
  |some (.arr _ _ _ cs)=>if cs.length=m then some (.lK k m (o+n)) else none
  |_=>none
 |.lM cs o=>some (.lM cs (o+n))
 |_=>none
def uK (place:Nat->Option (Nat×Nat))(cells:List TV):List (Nat×TV)->Option (List TV)
 | []=>some cells
 |(i,v)::rest=>
  match place i with
  |none=>none
  |some (off,size)=>if v.cells.length=size/\off+size<=cells.length/\v.cells.all TV.leaf=true then uK place (dN cells off v.cells) rest else none
def lY (P:jY)(fs:List Field):Option (List (Nat×Nat)):=
 match fs with
 | []=>some []
 |f::r=>match bx P f.type,lY P r with
  |some ti,some ps=>some ((f.offset,ti.size)::ps)
  |_,_=>none
def Sv (P:jY)(t:TypeId)(parts:List (Nat×TV)):Option TV:=
 match bx P t with
 |none=>none
 | some ti=>
  match ti.zero,ti.desc with
  | some z,.struct fs=>match lY P fs.toList with
   |some ps=>match uK (λi=>ps[i]?) z.cells parts with
    |some cs=>some (AQ cs)
    |none=>none
   |none=>none
  | some z,.array _ elem=>match bx P elem with
   |some te=>match uK (λi=>some (i*te.size,te.size)) z.cells parts with
    |some cs=>some (AQ cs)
    |none=>none
   |none=>none
  |_,_=>none
def chunk (agg:Bool)(size:Nat):Nat->List Tree->Option (List Tree)
 |0,cs=>if cs.isEmpty then some [] else none
 | n+1,cs=>
  if size<=cs.length then
   match chunk agg size n (cs.drop size) with
   |some r=>if agg then some (.agg (cs.take size)::r) else match cs with
    |c::_=>if size=1/\c.leaf=true then some (c::r) else none
    | []=>none
   |none=>none
  else none
def rG (n:Nat)(z:List TV):List TV:=match n with
 |0=>[]
 |n+1=>z++rG n z
def iA:TV->Option Nat
 |.t (.int _ n)=>if 0<=n then some n.toNat else none
 |_=>none
abbrev yL:=Nat->Nat->Option Value
inductive VT (F:yL):Tree->Value->Prop
 |bool (b):VT F (.bool b) (.bool b)
 |int (k n):VT F (.int k n) (.int k n)
 |str (s):VT F (.str s) (.string ⟨s.toArray⟩)
 |Ek (a cap):VT F (.sl []) (.slice a 0 cap)
 | sl (cc es b o cap) (vals:Nat->Value) (hne:es≠ []) (hc:es.length<=cap)
   (hu:∀e∈es,e.cells.length=cc) (hF:∀j c,(flat es)[j]?=some c->F b (o+j)=some (vals j))
   (hv:∀j c,(flat es)[j]?=some c->VT F c (vals j)):VT F (.sl es) (.slice (some ⟨b,o,none⟩) es.length cap)
 |agg (cs) (vs:List Value) (hl:vs.length=cs.length) (h:∀(j:Nat) c v,cs[j]?=some c->vs[j]?=some v->VT F c v):VT F (.agg cs) (.agg vs.toArray)
 |cF (cs) (vs:List Value) (hl:vs.length=cs.length) (h:∀(j:Nat) c v,cs[j]?=some c->vs[j]?=some v->VT F c v):VT F (.cF cs) (.tuple vs.toArray)
 |cT:VT F .cT (.pointer none)
 |jZ:VT F .jZ (.map none)
 |uJ:VT F .uJ .nilFunc
 |fn (f):VT F (.fn f) (.func f #[] #[])
 |Cj:VT F .Cj .nilIface
 |iface (t x v) (h:VT F x v):VT F (.iface t x) (.iface t v)
theorem VT.mono {F F':yL}(hF:∀b o v,F b o=some v->F' b o=some v){x:Tree}{v:Value}(h:VT F x v):VT F' x v:=by
 induction h with
 |bool=>exact .bool _
 |int=>exact .int _ _
 |str=>exact .str _
 |Ek a c=>exact .Ek a c
 |sl e es b o cap vals hne hc hu hf hv ih=>exact .sl e es b o cap vals hne hc hu (λj c h=>hF _ _ _ (hf j c h)) ih
 |agg cs vs hl h ih=>exact .agg cs vs hl ih
 |cF cs vs hl h ih=>exact .cF cs vs hl ih
 |cT=>exact .cT
 |jZ=>exact .jZ
 |uJ=>exact .uJ
 |fn=>exact .fn _
 |Cj=>exact .Cj
 |iface t x v h ih=>exact .iface t x v ih
structure Gh where
 F:yL
 mu:Nm->Nat
 arr:Nm->Option (Nat×Nat×Nat)
 dom:Nm->Prop
def one:Value->Bool
 |.agg _=>false
 |.tuple _=>false
 |_=>true
inductive VR (G:Gh):TV->Value->Prop
 |t (x v) (h:VT G.F x v):VR G (.t x) v
 |bX:VR G .bX (.slice none 0 0)
 |pZ (es a) (h:VT G.F (.sl es) (.slice a es.length es.length)):VR G (.pZ es) (.slice a es.length es.length)
 | ref (k off len n cc cap v) (hd:G.dom k) (ha:G.arr k=some (n,cc,cap)) (hle:(off+len) *cc<=n) (ho:∃a c,v=.slice a len c)
   (hv:(off+len) *cc=n->∃a,v=.slice a len (cap - off)/\(off<cap->a=some ⟨G.mu k,off*cc,none⟩)):VR G (.ref k off len) v
 |agg (cs) (vs:List Value) (hl:vs.length=cs.length) (h:∀(j:Nat) c v,cs[j]?=some c->vs[j]?=some v->VR G c v):VR G (.agg cs) (.agg vs.toArray)
 |cF (cs) (vs:List Value) (hl:vs.length=cs.length) (h:∀(j:Nat) c v,cs[j]?=some c->vs[j]?=some v->VR G c v):VR G (.cF cs) (.tuple vs.toArray)
 |ptr (k off) (hd:G.dom k) (hn:G.arr k=none):VR G (.ptr k off) (.pointer (some ⟨G.mu k,off,none⟩))
 |lK (k n off n' cc cap v) (hd:G.dom k) (ha:G.arr k=some (n',cc,cap)) (hle:n<=n') (ho:∃ad,v=.pointer (some ad)) (hv:n=n'->v=.pointer (some ⟨G.mu k,off,none⟩)):VR G (.lK k n off) v
 | lM (cs off b o) (vals:Nat->Value) (hF:∀j c,cs[j]?=some c->G.F b (o+j)=some (vals j)) (hv:∀j c,cs[j]?=some c->VT G.F c (vals j)):
   VR G (.lM cs off) (.pointer (some ⟨b,o+off,none⟩))
 |map (k) (hd:G.dom k) (hn:G.arr k=none):VR G (.map k) (.map (some (G.mu k)))
 | fn (f fs cs) (vs ws:List Value) (hl:vs.length=fs.length) (h:∀(j:Nat) c v,fs[j]?=some c->vs[j]?=some v->VR G c v)
   (hl':ws.length=cs.length) (h':∀(j:Nat) c v,cs[j]?=some c->ws[j]?=some v->VR G c v):VR G (.fn f fs cs) (.func f vs.toArray ws.toArray)
 |iface (t x v) (h:VR G x v):VR G (.iface t x) (.iface t v)
 |any (v):VR G .any v
structure Gh.le (G G':Gh):Prop where
 F:∀b o v,G.F b o=some v->G'.F b o=some v
 dom:∀k,G.dom k->G'.dom k
 plain:∀k,G.dom k->G.arr k=none->G'.arr k=none/\G'.mu k=G.mu k
 arr:∀k n e c,G.dom k->G.arr k=some (n,e,c)->∃n' e' c',G'.arr k=some (n',e',c')/\n<=n'/\(n=n'->e'=e/\c'=c/\G'.mu k=G.mu k)/\(e'=e\/e'=0)
def Gh.alive (G:Gh)(k:Nm):Prop:=∀n c,G.arr k≠some (n,0,c)
theorem Gh.kQ {G:Gh}{k:Nm}(h:G.arr k=none):G.alive k:=λn c e=>by rw[h] at e;cases e
theorem Gh.lC {G:Gh}{k:Nm}{n e c:Nat}(h:G.arr k=some (n,e,c))(he:0<e):G.alive k:=λn' c' x=>by rw[h] at x;cases x;omega
theorem Gh.le.alive {G G':Gh}(h:G.le G'){k:Nm}(d:G.dom k)(ha:G'.alive k):G.alive k:=λn c e=>by
 obtain⟨n',e',c',a,_,_,r⟩:=h.arr k n 0 c d e;rcases r with rfl|rfl<;>exact ha _ _ a
theorem Gh.le.refl (G:Gh):G.le G:=⟨λ_ _ _ h=>h,λ_ h=>h,λ_ _ h=>⟨h,rfl⟩,λ_ n e c _ h=>⟨n,e,c,h,Nat.le_refl _,λ_=>⟨rfl,rfl,rfl⟩,.inl rfl⟩⟩
theorem Gh.le.trans {A B C:Gh}(h:A.le B)(k:B.le C):A.le C:=by
 refine⟨λb o v x=>k.F _ _ _ (h.F _ _ _ x),λx d=>k.dom _ (h.dom _ d),λx d a=> ?_,λx n e c d a=> ?_⟩
 ·obtain⟨a1,m1⟩:=h.plain x d a;obtain⟨a2,m2⟩:=k.plain x (h.dom _ d) a1;exact⟨a2,m2.trans m1⟩
 ·obtain⟨n1,f1,c1,a1,l1,e1,o1⟩:=h.arr x n e c d a;obtain⟨n2,f2,c2,a2,l2,e2,o2⟩:=k.arr x n1 f1 c1 (h.dom _ d) a1;refine⟨n2,f2,c2,a2,Nat.le_trans l1 l2,λe=> ?_, ?_⟩
  ·obtain⟨g1,p1,q1⟩:=e1 (by omega);obtain⟨g2,p2,q2⟩:=e2 (by omega);exact⟨g2.trans g1,p2.trans p1,q2.trans q1⟩
  ·rcases o2 with rfl|rfl
   ·exact o1
   ·exact .inr rfl
theorem VR.mono {G G':Gh}(hG:G.le G'){x:TV}{v:Value}(h:VR G x v):VR G' x v:=by
 induction h with
 |t x v h=>exact .t x v (h.mono hG.F)
 |bX=>exact .bX
 |pZ es a h=>exact .pZ es a (h.mono hG.F)
 | ref k off len n cc cap v hd ha hle ho hv=>
   obtain⟨n',f',c',a',l',e',o'⟩:=hG.arr k n cc cap hd ha
   refine .ref k off len n' f' c' v (hG.dom _ hd) a' ?_ ho λhh=> ?_
   · rcases o' with rfl|rfl
     · exact Nat.le_trans hle l'
     · rw[Nat.mul_zero];exact Nat.zero_le _
   · have hn:n=n':=by
       rcases o' with rfl|rfl
       · omega
       · rw[Nat.mul_zero] at hh;omega
     obtain⟨r,p,q⟩:=e' hn
     subst r
     obtain⟨a,hva,hb⟩:=hv (by omega)
     rw[p,q]
     exact⟨a,hva,hb⟩
 |agg cs vs hl h ih=>exact .agg cs vs hl ih
 |cF cs vs hl h ih=>exact .cF cs vs hl ih
 | ptr k off hd hn=>
   obtain⟨a,m⟩:=hG.plain k hd hn
   rw[← m]
   exact .ptr k off (hG.dom _ hd) a
 | lK k n off n' cc cap v hd ha hle ho hv=>
   obtain⟨n2,f',c',a',l',e',_⟩:=hG.arr k n' cc cap hd ha
   refine .lK k n off n2 f' c' v (hG.dom _ hd) a' (Nat.le_trans hle l') ho λhh=> ?_
   obtain⟨_,p,q⟩:=e' (by omega)
   rw[hv (by omega),q]
 |lM cs off b o vals hF hv=>exact .lM cs off b o vals (λj c h=>hG.F _ _ _ (hF j c h)) (λj c h=>(hv j c h).mono hG.F)
 | map k hd hn=>
   obtain⟨a,m⟩:=hG.plain k hd hn
   rw[← m]
   exact .map k (hG.dom _ hd) a
 |fn f fs cs vs ws hl h hl' h' ih O8=>exact .fn f fs cs vs ws hl ih hl' O8
 |iface t x v h ih=>exact .iface t x v ih
 |any v=>exact .any v
def ec (G:Gh)(cs:List TV)(vs:List Value):Prop:=vs.length=cs.length/\∀(j:Nat) c v,cs[j]?=some c->vs[j]?=some v->VR G c v
theorem ec.mono {G G':Gh}(hG:G.le G'){cs:List TV}{vs:List Value}(h:ec G cs vs):ec G' cs vs:=⟨h.1,λj c v a b=>(h.2 j c v a b).mono hG⟩
theorem ec.nil (G:Gh):ec G [] []:=⟨rfl,by simp⟩
theorem ec.cons {G:Gh}{c:TV}{v:Value}{cs:List TV}{vs:List Value}(h:VR G c v)(hs:ec G cs vs):ec G (c::cs) (v::vs):=by
 refine⟨by simp[hs.1],λj d u hd hu=> ?_⟩;cases j with
 |zero=>simp at hd hu;subst hd;subst hu;exact h
 |succ j=>simp at hd hu;exact hs.2 j d u hd hu
theorem ec.j3 {G:Gh}{c:TV}{cs:List TV}{vs:List Value}(h:ec G (c::cs) vs):∃v vs',vs=v::vs'/\VR G c v/\ec G cs vs':=by
 obtain⟨hl,hp⟩:=h;cases vs with
 |nil=>simp at hl
 |cons v vs'=>
  refine⟨v,vs',rfl,hp 0 c v rfl rfl,by simpa using hl,λj d u hd hu=>hp (j+1) d u (by simpa using hd) (by simpa using hu)⟩
theorem ec.at {G:Gh}{cs:List TV}{vs:List Value}(h:ec G cs vs){j:Nat}{c:TV}(hc:cs[j]?=some c):∃v,vs[j]?=some v/\VR G c v:=by
 have hj:j<cs.length:=(List.getElem?_eq_some_iff.1 hc).1;have hj':j<vs.length:=by rw[h.1];exact hj
 exact⟨vs[j],List.getElem?_eq_getElem hj',h.2 j c _ hc (List.getElem?_eq_getElem hj')⟩
theorem ec.append {G:Gh}{cs ds:List TV}{vs ws:List Value}(h:ec G cs vs)(k:ec G ds ws):ec G (cs++ds) (vs++ws):=by
 refine⟨by simp[h.1,k.1],λj c v hc hv=> ?_⟩;by_cases hj:j<cs.length
 ·rw[List.getElem?_append_left hj] at hc;rw[List.getElem?_append_left (by rw[h.1];exact hj)] at hv;exact h.2 j c v hc hv
 ·rw[List.getElem?_append_right (by omega)] at hc;rw[List.getElem?_append_right (by rw[h.1];omega),h.1] at hv;exact k.2 _ c v hc hv
theorem ec.drop {G:Gh}{cs:List TV}{vs:List Value}(h:ec G cs vs)(n:Nat):ec G (cs.drop n) (vs.drop n):=
 ⟨by simp[h.1],λj c v hc hv=>by rw[List.getElem?_drop] at hc hv;exact h.2 _ c v hc hv⟩
theorem ec.take {G:Gh}{cs:List TV}{vs:List Value}(h:ec G cs vs)(n:Nat):ec G (cs.take n) (vs.take n):=
 ⟨by simp[h.1],λj c v hc hv=>by
  rw[List.getElem?_take] at hc hv
  split at hc
  · rename_i hlt;rw[if_pos hlt] at hv;exact h.2 _ c v hc hv
  · simp at hc⟩
end Go.Abs
noncomputable section
namespace Go.Abs
open Go
def Ck (g:TV->Option (Tree×List Nm)):List TV->Option (List Tree×List Nm)
 | []=>some ([],[])
 |v::r=>match g v,Ck g r with
  |some (x,ks),some (xs,ks')=>some (x::xs,ks++ks')
  |_,_=>none
def su (H:Heap):Nat->TV->Option (Tree×List Nm)
 |_,.t x=>some (x,[])
 |_,.bX=>some (.sl [],[])
 |_,.pZ es=>some (.sl es,[])
 |0,_=>none
 | n +1,.ref k off len=>match H.get k with
  | some (.arr g cc _ cs)=>
   if 0<cc/\(off+len) *cc=cs.length then
    match Ck (su H n) ((cs.drop (off*cc)).take (len*cc)) with
    |some (ts,ks)=>match chunk g.2 cc len ts with
     |some es=>some (.sl es,k::ks)
     |none=>none
    |none=>none
   else none
  |_=>none
 |n+1,.agg cs=>match Ck (su H n) cs with
  |some (ts,ks)=>some (.agg ts,ks)
  |none=>none
 |n+1,.cF cs=>match Ck (su H n) cs with
  |some (ts,ks)=>some (.cF ts,ks)
  |none=>none
 |n+1,.iface t v=>match su H n v with
  |some (x,ks)=>some (.iface t x,ks)
  |none=>none
 |_+1,.fn f [] []=>some (.fn f,[])
 |_+1,_=>none
def jh:Nat:=24
def Heap.freeze (H:Heap):List Nm->Heap
 | []=>H
 |k::ks=>match H.get k with
  |some (.arr g cc _ cs)=>Heap.freeze (H.put k (.arr g cc true cs)) ks
  |_=>Heap.freeze H ks
def jw:List UInt8->List UInt8->Bool
 |_,[]=>false
 | [],_::_=>true
 |a::x,b::y=>a<b||(a==b&&jw x y)
def Yp:Nat:=4611686018427387904
def Sw (op:BinOp)(x y:List UInt8):Option TV:=
 match op with
 |.add=>if x.length+y.length<=Yp then some (.t (.str (x++y))) else none
 |.eql=>some (.t (.bool (x==y)))
 |.neq=>some (.t (.bool (!(x==y))))
 |.lss=>some (.t (.bool (jw x y)))
 |.leq=>some (.t (.bool (jw x y||x==y)))
 |.gtr=>some (.t (.bool (!(jw x y||x==y))))
 |.geq=>some (.t (.bool (!(jw x y))))
 |_=>none
def Lz (d:TypeDesc)(a b:TV):Option Bool:=
 match d,a,b with
 |.slice _,.bX,.bX=>some true
 |.slice _,.t (.sl (_::_)),.bX=>some false
 |.slice _,.pZ (_::_),.bX=>some false
 |.slice _,.ref _ _ _,.bX=>none
 |.map _ _,.t .jZ,.t .jZ=>some true
 |.map _ _,.map _,.t .jZ=>some false
 |.func _ _ _,.t .uJ,.t .uJ=>some true
 |.func _ _ _,.fn _ _ _,.t .uJ=>some false
 |.func _ _ _,.t (.fn _),.t .uJ=>some false
 |.pointer _,.t .cT,.t .cT=>some true
 |.pointer _,.ptr _ _,.t .cT=>some false
 |.pointer _,.lM _ _,.t .cT=>some false
 |_,_,_=>none
def wW (P:jY)(op:BinOp)(t:TypeId)(x y:Operand)(a b:TV):Option TV:=
 match lX a,lX b with
 |some u,some v=>match eL P (do eqGuard op t x y u v;binOp op t u v) with
  |some r=>valOf r
  |none=>none
 |_,_=>none
def isNil:TV->Bool
 |.bX=>true
 |.t .jZ=>true
 |.t .uJ=>true
 |.t .cT=>true
 |_=>false
def Wm (op:BinOp)(k:IntKind)(a b:Int):Option TV:=
 match op with
 |.add=>some (.t (.int k (k.wrap (a+b))))
 |.sub=>some (.t (.int k (k.wrap (a - b))))
 |.mul=>some (.t (.int k (k.wrap (a*b))))
 |.quo=>if b=0 then none else some (.t (.int k (k.wrap (a.tdiv b))))
 |.rem=>if b=0 then none else some (.t (.int k (a.tmod b)))
 |.eql=>some (.t (.bool (a==b)))
 |.neq=>some (.t (.bool (a != b)))
 |.lss=>some (.t (.bool (decide (a<b))))
 |.leq=>some (.t (.bool (decide (a<=b))))
 |.gtr=>some (.t (.bool (decide (a>b))))
 |.geq=>some (.t (.bool (decide (a>=b))))
 |_=>none
def vz (P:jY)(op:BinOp)(t:TypeId)(x y:Operand)(a b:TV):Option TV:=
 match a,b with
 |.t (.str s),.t (.str u)=>Sw op s u
 |.t (.int k n),.t (.int k' m)=>if k=k' then(match Wm op k n m with|some v=>some v|none=>wW P op t x y (.t (.int k n)) (.t (.int k' m))) else wW P op t x y (.t (.int k n)) (.t (.int k' m))
 | a,b=>
  if isNil b then
   match op,bx P t with
   |.eql,some ti=>(Lz ti.desc a b).map λr=>.t (.bool r)
   |.neq,some ti=>(Lz ti.desc a b).map λr=>.t (.bool (!r))
   |_,_=>none
  else wW P op t x y a b
def unT (P:jY)(op:UnOp)(a:TV):Option TV:=
 match lX a with
 |some u=>match eL P (Op.unary op u) with
  |some r=>valOf r
  |none=>none
 |none=>none
def Bk (H:Heap):TV->Option Nat
 |.t (.str s)=>some s.length
 |.t (.sl es)=>some es.length
 |.bX=>some 0
 |.pZ es=>some es.length
 |.ref _ _ len=>some len
 |.t .jZ=>some 0
 |.map k=>match H.get k with
  |some (.map es _)=>some es.length
  |_=>none
 |_=>none
def kz (H:Heap)(k:Nm)(off len:Nat):Option ((TypeId×Bool)×Nat×Bool×List TV):=
 match H.get k with
 |some (.arr g cc fz cs)=>if 0<cc/\(off+len) *cc=cs.length then some (g,cc,fz,cs) else none
 |_=>none
def fu (P:jY)(H:Heap)(t:TypeId)(x i:TV):Option TV:=
 match bx P t,iA i with
 | some ti,some i=>
  match ti.desc,x with
  |.slice elem,.t (.sl es)=>match bx P elem,es[i]? with
   |some te,some e=>if e.cells.length=te.size then some (.lM e.cells 0) else none
   |_,_=>none
  |.slice elem,.pZ es=>match bx P elem,es[i]? with
   |some te,some e=>if e.cells.length=te.size then some (.lM e.cells 0) else none
   |_,_=>none
  |.slice elem,.ref k off len=>match bx P elem,kz H k off len with
   |some te,some (_,cc,_,cs)=>if te.size=cc/\i<len then some (.lK k cs.length ((off+i) *cc)) else none
   |_,_=>none
  |.array len elem,x=>match bx P elem with
   |some te=>if i<len then sZ H x (i*te.size) else none
   |none=>none
  |_,_=>none
 |_,_=>none
def s4 (P:jY)(t:TypeId)(x i:TV):Option TV:=
 match bx P t,iA i with
 | some ti,some i=>
  match ti.desc,x with
  |.string,.t (.str s)=>match s[i]? with
   |some b=>some (.t (.int .u8 b.toNat))
   |none=>none
  |.array len elem,x=>match bx P elem with
   |some te=>if i<len/\te.size≠0/\Eo x=true then partT te.agg te.size x.cells (i*te.size) else none
   |none=>none
  |_,_=>none
 |_,_=>none
def gi (o:Option TV)(d:Nat):Option Nat:=
 match o with
 |none=>some d
 |some v=>iA v
def kR (size:Nat):List Tree->Bool
 | []=>true
 |e::_=>e.cells.length==size
def Wn (tight:Bool)(es:List Tree)(l h:Nat):TV:=if tight then .pZ ((es.take h).drop l) else .t (.sl ((es.take h).drop l))
def s5 (P:jY)(H:Heap)(t:TypeId)(x:TV)(lo hi mx:Option TV):Option (TV×List Nm):=
 match bx P t with
 |none=>none
 | some ti=>
  match ti.desc with
  | .string=>match x with
   |.t (.str s)=>match gi lo 0,gi hi s.length,mx with
    |some l,some h,none=>if l<=h/\h<=s.length then some (.t (.str ((s.take h).drop l)),[]) else none
    |_,_,_=>none
   |_=>none
  | .slice elem=>match bx P elem,Bk H x with
   | some te,some n=>
    match gi lo 0,gi hi n,gi mx n,(mx.isNone||hi.isSome) with
    | some l,some h,some m,true=>
     if l<=h/\h<=m/\m<=n then
      match x with
      |.bX=>some (.bX,[])
      |.t (.sl es)=>if kR te.size es=true then some (Wn (mx.isSome&&m==h) es l h,[]) else none
      |.pZ es=>if kR te.size es=true then some (Wn ((mx.isSome&&m==h)||(mx.isNone&&h==n)) es l h,[]) else none
      | .ref k off len=>
       if h=len/\mx.isNone=true then(match kz H k off len with
        |some (_,cc,_,_)=>if cc=te.size then some (.ref k (off+l) (h - l),[]) else none
        |none=>none)
       else match su H jh (.ref k off len) with
        |some (.sl es,ks)=>if kR te.size es=true then some (Wn (mx.isSome&&m==h) es l h,ks) else none
        |_=>none
      |_=>none
     else none
    |_,_,_,_=>none
   |_,_=>none
  |_=>none
def Bl (P:jY)(H:Heap)(nm:Nm)(t:TypeId)(x:TV)(lo hi mx:Option TV):Option (TV×List (Nm×aO)):=
 match x,lo,hi,mx with
 | .ref k 0 len,none,some hv,none=>(match bx P t,iA hv,kz H k 0 len with
  | some ti,some h,some (g,cc,false,cs)=>(match ti.desc with
   |.slice elem=>(match bx P elem with
    |some te=>if te.size=cc/\h<=len then some (.ref nm 0 h,[(k,.dead),(nm,.arr g cc false (cs.take (h*cc)))]) else none
    |none=>none)
   |_=>none)
  |_,_,_=>none)
 |_,_,_,_=>none
def AR (b:Bool)(P:jY)(H:Heap)(nm:Nm)(t:TypeId)(x:TV)(lo hi mx:Option TV):Option (TV×List (Nm×aO)):=if b=true then Bl P H nm t x lo hi mx else none
theorem MV {b:Bool}{P:jY}{H:Heap}{nm:Nm}{t:TypeId}{x:Tree}{lo hi mx:Option TV}:AR b P H nm t (.t x) lo hi mx=none:=by
 cases b<;>rfl
def gH (H:Heap)(g:Bool)(cc:Nat):TV->Option (Nat×List TV)
 |.bX=>some (0,[])
 |.t (.sl es)=>if kR cc es=true then some (es.length,(flat es).map .t) else none
 |.pZ es=>if kR cc es=true then some (es.length,(flat es).map .t) else none
 |.ref k off len=>match kz H k off len with
  |some (_,e,_,cs)=>if e=cc then some (len,cs.drop (off*cc)) else none
  |none=>none
 |.t (.str s)=>if cc=1/\g=false then some (s.length,s.map λb=>.t (.int .u8 b.toNat)) else none
 |_=>none
def gI:Nat:=70368744177664
def lR (P:jY)(nm:Nm)(H:Heap)(st xt:TypeId)(s x:TV):Option (TV×List (Nm×aO)):=
 match bx P st,bx P xt with
 | some ti,some tx=>
  match ti.desc,(match tx.desc with|.slice _=>true|.string=>true|_=>false) with
  | .slice elem,true=>match bx P elem with
   | some te=>match te.zero with
    |none=>none
    | some z=>
     if te.size=0\/z.cells.length≠te.size\/te.bytes=0 then none else
     match gH H te.agg te.size x with
     | some (m,cs)=>
      if m=0 then(match s with
       |.bX=>some (.bX,[])
       |.t (.sl es)=>some (.t (.sl es),[])
       |.pZ es=>some (.pZ es,[])
       |.ref k off len=>if(kz H k off len).isSome=true then some (.ref k off len,[]) else none
       |_=>none)
      else if cs.all TV.leaf=true then
       match s with
       |.bX=>if m*te.bytes<=gI then some (.ref nm 0 m,[(nm,.arr (elem,te.agg) te.size false cs)]) else none
       |.pZ es=>match gH H te.agg te.size (.pZ es) with
        |some (n,old)=>if(n+m) *te.bytes<=gI then some (.ref nm 0 (n+m),[(nm,.arr (elem,te.agg) te.size false (old++cs))]) else none
        |none=>none
       |.ref k 0 len=>match kz H k 0 len with
        |some (g,e,fz,old)=>if e=te.size/\g.1=elem/\(len+m) *te.bytes<=gI then some (.ref k 0 (len+m),[(k,.arr g e fz (old++cs))]) else none
        |none=>none
       |_=>none
      else none
     |none=>none
   |none=>none
  |_,_=>none
 |_,_=>none
def Yq (P:jY)(H:Heap)(dt:TypeId)(d x:TV):Option (TV×List (Nm×aO)):=
 match bx P dt with
 | some ti=>match ti.desc with
  | .slice elem=>match bx P elem with
   | some te=>match d,gH H te.agg te.size x with
    |.bX,some _=>some (.t (.int .i64 0),[])
    |.ref k off len,some (m,cs)=>match kz H k off len with
     |some (g,e,false,old)=>if e=te.size/\cs.all TV.leaf=true then some (.t (.int .i64 ((min m len:Nat):Int)),[(k,.arr g e false (dN old (off*e) (cs.take ((min m len) *e))))]) else none
     |_=>none
    |_,_=>none
   |none=>none
  |_=>none
 |none=>none
def Bn (P:jY)(H:Heap)(t:TypeId)(x:TV):Option (TV×List (Nm×aO)):=
 match bx P t with
 | some ti=>match ti.desc with
  | .slice elem=>match bx P elem with
   | some te=>match te.zero,x with
    |some z,.ref k off len=>match kz H k off len with
     |some (g,e,false,old)=>if e=te.size/\z.cells.length=te.size/\z.cells.all TV.leaf=true then some (.t (.cF []),[(k,.arr g e false (dN old (off*e) (rG len z.cells)))]) else none
     |_=>none
    |_,_=>none
   |none=>none
  |_=>none
 |none=>none
def Bo (P:jY)(nm:Nm)(t:TypeId)(len cap:TV):Option (TV×List (Nm×aO)):=
 match bx P t,iA len,iA cap with
 | some ti,some l,some c=>match ti.desc with
  | .slice elem=>match bx P elem with
   |some te=>match te.zero with
    |some z=>if l<=c/\c*te.bytes<=gI/\c<=gI/\0<te.size/\z.cells.length=te.size/\z.cells.all TV.leaf=true then some (.ref nm 0 l,[(nm,.arr (elem,te.agg) te.size false (rG l z.cells))]) else none
    |none=>none
   |none=>none
  |_=>none
 |_,_,_=>none
def UN:TV->TV
 |.pZ es=>.t (.sl es)
 |.bX=>.t (.sl [])
 |x=>x
def uL (P:jY)(lS:Bool)(nm:Nm)(t:TypeId)(len:Nat)(parts:List (Nat×TV)):Option (TV×List (Nm×aO)):=
 match bx P t with
 | some ti=>match ti.desc with
  | .slice elem=>match bx P elem with
   | some te=>match te.zero with
    | some z=>
     if 0<te.size/\len*te.size<=16777216/\z.cells.length=te.size/\z.cells.all TV.leaf=true then
      match uK (λi=>some (i*te.size,te.size)) (rG len z.cells) parts with
      |some cs=>match lS,(allT (cs.map UN)).bind (chunk te.agg te.size len) with
       |false,some es=>some (.pZ es,[])
       |_,_=>some (.ref nm 0 len,[(nm,.arr (elem,te.agg) te.size false cs)])
      |none=>none
     else none
    |none=>none
   |none=>none
  |_=>none
 |none=>none
def O9 (P:jY)(kt:TypeId)(d:TypeDesc)(k k':TV):Option Bool:=
 match lX k,lX k' with
 | some u,some u'=>
  match d with
  |.struct _=>match u,u' with
   |.agg _,.agg _=>eL P (Op.equal kt u u')
   |_,_=>none
  |d=>Instr.sameNow d u u'
 |_,_=>none
def oq (P:jY)(kt:TypeId)(d:TypeDesc)(k:TV):List (TV×TV×Nat)->Nat->Option (Option (Nat×TV×Nat))
 | [],_=>some none
 | (k',v,b)::r,i=>match O9 P kt d k k' with
  |some true=>match lX k,lX k' with
   |some u,some u'=>if Instr.sameBits 10000 u' u=true then some (some (i,v,b)) else none
   |_,_=>none
  |some false=>oq P kt d k r (i+1)
  |none=>none
def yM (P:jY)(empty:Bool)(kt:TypeId)(k:TV):Bool:=
 match lX k with
 |some u=>(eL P (Instr.checkKey empty 10000 kt u)).isSome
 |none=>false
def mapOf (H:Heap):TV->Option (List (TV×TV×Nat)×Nat)
 |.map k=>match H.get k with
  |some (.map es c)=>some (es,c)
  |_=>none
 |_=>none
def wX (P:jY)(H:Heap)(t:TypeId)(x k:TV)(ok:Bool):Option TV:=
 match bx P t with
 | some ti=>match ti.desc with
  | .map kt et=>match bx P kt,bx P et,(match x with|.t .jZ=>some ([],0)|x=>mapOf H x) with
   | some tk,some te,some (es,_)=>
    if yM P es.isEmpty kt k=true then
     match oq P kt tk.desc k es 0,te.zero with
     |some (some (_,v,_)),_=>some (if ok then sj [v,.t (.bool true)] else v)
     |some none,some z=>some (if ok then sj [z,.t (.bool false)] else z)
     |_,_=>none
    else none
   |_,_,_=>none
  |_=>none
 |none=>none
def kS (P:jY)(H:Heap)(t:TypeId)(x k v:TV):Option (List (Nm×aO)):=
 match bx P t,x with
 | some ti,.map m=>match ti.desc,H.get m with
  | .map kt _,some (.map es c)=>match bx P kt with
   | some tk=>
    if yM P false kt k=true then
     match oq P kt tk.desc k es 0 with
     |some (some (i,_,b))=>some [(m,.map (es.set i (k,v,b)) c)]
     |some none=>some [(m,.map (es++[(k,v,c)]) (c+1))]
     |none=>none
    else none
   |none=>none
  |_,_=>none
 |_,_=>none
def nP (P:jY)(H:Heap)(t:TypeId)(x k:TV):Option (TV×List (Nm×aO)):=
 match bx P t,x with
 | some ti,.map m=>match ti.desc,H.get m with
  | .map kt et,some (.map es c)=>match bx P kt,bx P et with
   | some tk,some te=>
    if yM P false kt k=true then
     match oq P kt tk.desc k es 0,te.zero with
     |some (some (i,v,b)),_=>some (sj [v,.t (.int .i64 b)],[(m,.map (es.set i (k,v,b)) c)])
     |some none,some z=>some (sj [z,.t (.int .i64 c)],[(m,.map (es++[(k,z,c)]) (c+1))])
     |_,_=>none
    else none
   |_,_=>none
  |_,_=>none
 |_,_=>none
def sB:List (TV×TV×Nat)->Int->Nat->Option Nat
 | [],_,_=>none
 |(_,_,b)::r,n,i=>if(b:Int)=n then some i else sB r n (i+1)
def kI (H:Heap)(x s v:TV):Option (List (Nm×aO)):=
 match x,s with
 | .map m,.t (.int _ n)=>match H.get m with
  | some (.map es c)=>match sB es n 0 with
   |some i=>match es[i]? with
    |some (k,_,b)=>some [(m,.map (es.set i (k,v,b)) c)]
    |none=>none
   |none=>none
  |_=>none
 |_,_=>none
def bytesOf:List TV->Option (List UInt8)
 | []=>some []
 |.t (.int .u8 n)::r=>match bytesOf r with
  |some bs=>some (UInt8.ofNat n.toNat::bs)
  |none=>none
 |_::_=>none
def vT (P:jY)(lS:Bool)(nm:Nm)(H:Heap)(src dst:TypeId)(x:TV):Option (TV×List (Nm×aO)):=
 match bx P src,bx P dst with
 | some ts,some td=>
  match ts.desc,td.desc,x with
  |.string,.string,.t (.str s)=>some (.t (.str s),[])
  | .string,.slice e,.t (.str s)=>match bx P e with
   |some te=>match te.desc with
    |.int .u8=>if lS then some (.ref nm 0 s.length,[(nm,.arr (e,false) 1 false (s.map λb=>.t (.int .u8 b.toNat)))]) else some (.t (.sl (s.map λb=>.int .u8 b.toNat)),[])
    |_=>none
   |none=>none
  | .slice e,.string,x=>match bx P e with
   | some te=>match te.desc,gH H false 1 x with
    |.int .u8,some (_,cs)=>match bytesOf cs with
     |some bs=>(match x with|.t (.str _)=>none|_=>some (.t (.str bs),[]))
     |none=>none
    |_,_=>none
   |none=>none
  |.int _,.int _,.t (.int k n)=>match eL P (convert src dst (.int k n)) with
   |some r=>(valOf r).map λv=>(v,[])
   |none=>none
  |_,_,_=>none
 |_,_=>none
def MW (P:jY)(x:TV)(asserted:TypeId)(ok:Bool):Option TV:=
 match bx P asserted with
 | some ta=>match ta.desc,(match x with|.iface t v=>some (t,v)|.t (.iface t v)=>some (t,.t v)|_=>none) with
  |.interface _,_=>none
  |_,some (t,v)=>
   if t=asserted then some (if ok then sj [v,.t (.bool true)] else v)
   else if ok then ta.zero.map λz=>sj [z,.t (.bool false)] else none
  |_,none=>none
 |none=>none
def Ih:TV->Nat->Option TV
 |.cF vs,i=>vs[i]?
 |.t (.cF vs),i=>vs[i]?.map .t
 |_,_=>none
def ahV (f:Fn)(first captured:List TV):TV:=if first.isEmpty/\captured.isEmpty then .t (.fn f) else .fn f first captured
def Pa:TV->Bool
 |.ptr _ _=>true
 |.lK _ _ _=>true
 |.lM _ _=>true
 |.t (.fn (.func _))=>true
 |.fn (.func _) _ _=>true
 |_=>false
def eO (H:Heap)(ks:List Nm):List (Nm×aO):=ks.filterMap λk=>match H.get k with
 |some (.arr g e _ cs)=>some (k,.arr g e true cs)
 |_=>none
structure ey where
 P:jY
 j8:Nat->Option (List Tree)
 lS:FuncId->Tmp->Bool
def adI (l:List TV):Nat->TV:=
 List.rec (motive:=λ_=>Nat->TV) (λ_=>dm) (λx _ ih n=>Nat.rec (motive:=λ_=>TV) x (λm _=>ih m) n) l
theorem MX:∀(l:List TV) (t:Nat),adI l t=l.getD t dm:=by
 intro l;induction l with
 |nil=>intro t;rfl
 |cons x r ih=>
  intro t
  cases t with
  |zero=>rfl
  |succ t=>exact(ih t).trans (by simp)
def dz (C:ey)(slots:List TV):Operand->Option TV
 |.tmp t=>some (adI slots t)
 |.const v=>valOf v
 |.global g=>match C.j8 g with
  |some cs=>some (.lM cs 0)
  |none=>none
 |.func f=>some (.t (.fn (.func f)))
def kJ (C:ey)(slots:List TV):List Operand->Option (List TV)
 | []=>some []
 |x::r=>match dz C slots x,kJ C slots r with
  |some v,some vs=>some (v::vs)
  |_,_=>none
def s6 (C:ey)(slots:List TV):List (Nat×Operand)->Option (List (Nat×TV))
 | []=>some []
 |(i,x)::r=>match dz C slots x,s6 C slots r with
  |some v,some vs=>some ((i,v)::vs)
  |_,_=>none
def yN (C:ey)(slots:List TV):Option Operand->Option (Option TV)
 |none=>some none
 |some x=>(dz C slots x).map some
def Ch (v:Option TV):Option (TV×List (Nm×aO)):=v.map λx=>(x,[])
def AU (u:Option (List (Nm×aO))):Option (TV×List (Nm×aO)):=u.map λx=>(dm,x)
def ni.nA (k:IntKind):List TV->Option (List Int)
 | []=>some []
 |.t (.int k' y)::r=>match ni.nA k r with
  |some ys=>if k'=k then some (y::ys) else none
  |none=>none
 |_::_=>none
def ni (mx:Bool):List TV->Option TV
 |.t (.int k x)::r=>match ni.nA k r with
  |some ys=>some (.t (.int k (ys.foldl (λx y=>if mx then(if y>x then y else x) else(if y<x then y else x)) x)))
  |none=>none
 |_=>none
def mU (C:ey)(nm:Nm)(H:Heap)(b:Builtin)(ats:List TypeId)(args:List TV):Option (TV×List (Nm×aO)):=
 match b,ats,args with
 | .len,[t],[x]=>match bx C.P t with
  |some ti=>match ti.desc with
   |.array n _=>some (.t (.int .i64 n),[])
   |.string=>(match x with|.t (.str s)=>some (.t (.int .i64 s.length),[])|_=>none)
   |.slice _=>(match x with|.t (.str _)=>none|.t .jZ=>none|.map _=>none|x=>(Bk H x).map λn=>(.t (.int .i64 n),[]))
   |.map _ _=>(match x with|.t .jZ=>some (.t (.int .i64 0),[])|.map k=>(Bk H (.map k)).map λn=>(.t (.int .i64 n),[])|_=>none)
   |_=>none
  |none=>none
 |.append,[s,t],[x,y]=>lR C.P nm H s t x y
 |.copy,[s,_],[x,y]=>Yq C.P H s x y
 |.clear,[t],[x]=>Bn C.P H t x
 |.min,_,xs=>Ch (ni false xs)
 |.max,_,xs=>Ch (ni true xs)
 | .cap,[t],[.bX]=>match bx C.P t with
  |some ti=>(match ti.desc with
   |.slice _=>some (.t (.int .i64 0),[])
   |_=>none)
  |none=>none
 |_,_,_=>none
def evalOp (C:ey)(f:FuncId)(nm:Nm)(H:Heap)(slots:List TV)(o:Oper):Option (TV×List (Nm×aO)):=
 let ρ:=dz C slots
 match o.op with
 |.move x=>Ch (ρ x)
 |.assign x=>Ch (ρ x)
 |.pick c a b=>match ρ c,ρ a,ρ b with
  |some (.t (.bool c)),some a,some b=>some (if c then a else b,[])
  |_,_,_=>none
 | .alloc elem=>match bx C.P elem with
  |some ti=>match ti.zero with
   |some z=>if z.cells.all TV.leaf=true then some (.ptr nm 0,[(nm,.cells elem z.cells)]) else none
   |none=>none
  |none=>none
 |.box elem x=>match ρ x with
  |some v=>if v.cells.all TV.leaf=true then some (.ptr nm 0,[(nm,.cells elem v.cells)]) else none
  |none=>none
 |.build t parts=>match s6 C slots parts.toList with
  |some ps=>Ch (Sv C.P t ps)
  |none=>none
 |.buildSlice t len parts=>match s6 C slots parts.toList with
  |some ps=>uL C.P (o.dst.any (C.lS f)) nm t len ps
  |none=>none
 |.load t a=>match ρ a with
  |some a=>Ch (loadT C.P H t a)
  |none=>none
 |.store t a x=>match ρ a,ρ x with
  |some a,some x=>AU (storeT C.P H t a x)
  |_,_=>none
 |.nilCheck x=>match ρ x with
  |some v=>if Pa v=true then some (v,[]) else none
  |none=>none
 |.binOp op t x y _=>match ρ x,ρ y with
  |some a,some b=>Ch (vz C.P op t x y a b)
  |_,_=>none
 |.unOp op _ x=>match ρ x with
  |some a=>Ch (unT C.P op a)
  |none=>none
 |.convert s d x=>match ρ x with
  |some a=>vT C.P (o.dst.any (C.lS f)) nm H s d a
  |none=>none
 | .makeInterface t x=>match ρ x,bx C.P t with
  |some v,some ti=>match ti.desc with
   |.interface _=>none
   |_=>some ((match v with|.t x=>.t (.iface t x)|v=>.iface t v),[])
  |_,_=>none
 |.makeFunc fn first captured=>match kJ C slots first.toList,kJ C slots captured.toList with
  |some fs,some cs=>some (ahV fn fs cs,[])
  |_,_=>none
 |.makeMap t r=>match yN C slots r,bx C.P t with
  |some none,some _=>some (.map nm,[(nm,.map [] 0)])
  |_,_=>none
 |.makeSlice t l c=>match ρ l,ρ c with
  |some l,some c=>Bo C.P nm t l c
  |_,_=>none
 | .slice t x lo hi mx=>match ρ x,yN C slots lo,yN C slots hi,yN C slots mx with
  | some v,some l,some h,some m=>match AR (o.dst.any (C.lS f)) C.P H nm t v l h m with
   |some r=>some r
   |none=>match s5 C.P H t v l h m with
    |some (r,ks)=>some (r,eO H ks)
    |none=>none
  |_,_,_,_=>none
 | .fieldAddr s x i=>match ρ x,bx C.P s with
  | some a,some ti=>match ti.desc with
   | .struct fs=>match fs[i]? with
    |some fd=>match bx C.P fd.type with
     |some tf=>if tf.size=0 then none else Ch (sZ H a fd.offset)
     |none=>none
    |none=>none
   |_=>none
  |_,_=>none
 | .field t x i=>match ρ x,bx C.P t with
  | some v,some ti=>match ti.desc with
   | .struct fs=>match fs[i]? with
    |some fd=>match bx C.P fd.type with
     |some tf=>if Eo v=true then Ch (partT tf.agg tf.size v.cells fd.offset) else none
     |none=>none
    |none=>none
   |_=>none
  |_,_=>none
 |.indexAddr t x i=>match ρ x,ρ i with
  |some v,some j=>Ch (fu C.P H t v j)
  |_,_=>none
 |.index t x i=>match ρ x,ρ i with
  |some v,some j=>Ch (s4 C.P t v j)
  |_,_=>none
 |.lookup t x k ok=>match ρ x,ρ k with
  |some v,some j=>Ch (wX C.P H t v j ok)
  |_,_=>none
 |.mapUpdate t m k x=>match ρ m,ρ k,ρ x with
  |some m,some k,some x=>AU (kS C.P H t m k x)
  |_,_,_=>none
 |.insert t m k x=>match ρ m,ρ k,ρ x with
  |some m,some k,some x=>AU (kS C.P H t m k x)
  |_,_,_=>none
 |.mapEntry t m k=>match ρ m,ρ k with
  |some m,some k=>nP C.P H t m k
  |_,_=>none
 |.entryStore _ m s x=>match ρ m,ρ s,ρ x with
  |some m,some s,some x=>AU (kI H m s x)
  |_,_,_=>none
 |.typeAssert x _ asserted ok=>match ρ x with
  |some v=>Ch (MW C.P v asserted ok)
  |none=>none
 |.extract t i=>match ρ t with
  |some v=>Ch (Ih v i)
  |none=>none
 |.call {callee:=.builtin b,args,argTypes}=>match kJ C slots args.toList with
  |some vs=>mU C nm H b argTypes.toList vs
  |none=>none
 |_=>none
end Go.Abs
end
noncomputable section
namespace Go.Abs
open Go
mutual
def TV.names:TV->List Nm
 |.t _=>[]
 |.any=>[]
 |.bX=>[]
 |.pZ _=>[]
 |.lM _ _=>[]
 |.ref k _ _=>[k]
 |.ptr k _=>[k]
 |.lK k _ _=>[k]
 |.map k=>[k]
 |.agg cs=>TV.kT cs
 |.cF cs=>TV.kT cs
 |.fn _ fs cs=>TV.kT fs++TV.kT cs
 |.iface _ v=>v.names
def TV.kT:List TV->List Nm
 | []=>[]
 |v::r=>v.names++TV.kT r
end
def MY:List (TV×TV×Nat)->List Nm
 | []=>[]
 |(k,v,_)::r=>k.names++v.names++MY r
def aO.names:aO->List Nm
 |.cells _ cs=>TV.kT cs
 |.arr _ _ _ cs=>TV.kT cs
 |.map es _=>MY es
 |.dead=>[]
def reach (H:Heap):Nat->List Nm->List Nm->Option (List Nm)
 |_,done,[]=>some done
 |0,_,_=>none
 | n+1,done,k::todo=>
  if k∈done then reach H n done todo
  else match H.get k with
   |some o=>reach H n (done++[k]) (todo++o.names)
   |none=>none
def iH:Nat:=4000
def idxOf (k:Nm):List Nm->Nat->Option Nat
 | [],_=>none
 |k'::r,i=>if k'=k then some i else idxOf k r (i+1)
mutual
def TV.rn (σ:Nm->Option Nm):TV->Option TV
 |.t x=>some (.t x)
 |.any=>some .any
 |.bX=>some .bX
 |.pZ es=>some (.pZ es)
 |.lM cs o=>some (.lM cs o)
 |.ref k o l=>(σ k).map λk=>.ref k o l
 |.ptr k o=>(σ k).map λk=>.ptr k o
 |.lK k n o=>(σ k).map λk=>.lK k n o
 |.map k=>(σ k).map .map
 |.agg cs=>(TV.yF σ cs).map .agg
 |.cF cs=>(TV.yF σ cs).map .cF
 |.fn f fs cs=>match TV.yF σ fs,TV.yF σ cs with
  |some fs,some cs=>some (.fn f fs cs)
  |_,_=>none
 |.iface ty v=>(v.rn σ).map (.iface ty)
def TV.yF (σ:Nm->Option Nm):List TV->Option (List TV)
 | []=>some []
 |v::r=>match v.rn σ,TV.yF σ r with
  |some v,some r=>some (v::r)
  |_,_=>none
end
def Yr (σ:Nm->Option Nm):List (TV×TV×Nat)->Option (List (TV×TV×Nat))
 | []=>some []
 |(k,v,b)::r=>match k.rn σ,v.rn σ,Yr σ r with
  |some k,some v,some r=>some ((k,v,b)::r)
  |_,_,_=>none
def aO.rn (σ:Nm->Option Nm):aO->Option aO
 |.cells ty cs=>(TV.yF σ cs).map (.cells ty)
 |.arr g e fz cs=>(TV.yF σ cs).map (.arr g e fz)
 |.map es c=>(Yr σ es).map (.map · c)
 |.dead=>some .dead
def Nm.jf:Nm->Bool
 |.loc _=>true
 |.arg _=>false
inductive br where
 |ret (v:TV) (bu:List aO) (news:Heap)
 |panic (v:TV) (bu:List (Option aO))
 deriving Inhabited
abbrev bt:=FuncId->List TV->List aO->Option br
structure St where
 slots:List TV
 H:Heap
 tick:Nat
 deriving Inhabited
inductive aQ where
 |normal
 |exit (id:Nat)
 |ret
 |panic (v:TV)
 deriving Inhabited
def adJ (v:TV)(l:List TV):Nat->List TV:=
 List.rec (motive:=λ_=>Nat->List TV) (λ_=>[]) (λx xs ih n=>Nat.rec (motive:=λ_=>List TV) (v::xs) (λm _=>x::ih m) n) l
theorem qN (v:TV):∀(l:List TV) (t:Nat),adJ v l t=l.set t v:=by
 intro l;induction l with
 |nil=>intro t;rfl
 |cons x r ih=>
  intro t
  cases t with
  |zero=>rfl
  |succ t=>exact congrArg (x:: ·) (ih t)
def ew (slots:List TV)(dst:Option Tmp)(v:TV):List TV:=
 match dst with
 |some d=>adJ v slots d
 |none=>slots
def ot (H:Heap):List TV->List TV×List Nm
 | []=>([],[])
 |v::r=>
  let(vs,ks):=ot H r
  match su H jh v with
  |some (x,k)=>(TV.t x::vs,k++ks)
  |none=>(v::vs,ks)
def LA (S:List Nm)(k:Nm):Option Nm:=(idxOf k S 0).map .arg
def nB (S:List Nm)(t:Nat):Nm->Option Nm
 |.arg i=>S[i]?
 |.loc p=>some (.loc (t::p))
def jK (H:Heap)(S:List Nm):List Nm->Option (List aO)
 | []=>some []
 |k::r=>match H.get k,jK H S r with
  |some o,some os=>(o.rn (LA S)).map (· ::os)
  |_,_=>none
def ki (S:List Nm)(t:Nat):List Nm->List aO->Option Heap
 | [],[]=>some []
 |k::r,o::os=>match o.rn (nB S t),ki S t r os with
  |some o,some h=>some ((k,o)::h)
  |_,_=>none
 |_,_=>none
def kj (S:List Nm)(t:Nat):Heap->Option Heap
 | []=>some []
 |(k,o)::r=>match nB S t k,o.rn (nB S t),kj S t r with
  |some k,some o,some h=>some ((k,o)::h)
  |_,_,_=>none
def ou (S:List Nm)(t:Nat):List Nm->List (Option aO)->Option (Heap×List Nm)
 | [],[]=>some ([],[])
 |k::r,some o::os=>match o.rn (nB S t),ou S t r os with
  |some o,some (h,ks)=>some ((k,o)::h,ks)
  |_,_=>none
 |k::r,none::os=>match ou S t r os with
  |some (h,ks)=>some (h,k::ks)
  |none=>none
 |_,_=>none
def Heap.yz (H:Heap)(ks:List Nm):Heap:=H.filter λp=> !(ks.contains p.1)
inductive s7 where
 |val (v:TV) (u:Heap)
 |panic (v:TV) (u:Heap) (lost:List Nm)
def Pb (H:Heap)(keep:Bool)(args:List TV):List TV×List Nm:=match keep with
 |true=>(args,[])
 |false=>ot H args
def Pc (C:ey)(f:FuncId)(o:Oper):Bool:=C.lS f (o.dst.getD 255)
def uM (ev:bt)(H:Heap)(g:FuncId)(args:List TV)(t:Nat)(keep:Bool:=false):Option s7:=
 let(args,ks):=Pb H keep args
 let H1:=H.eY (eO H ks)
 match reach H1 iH [] (TV.kT args) with
 |none=>none
 | some S=>
  if S.Nodup then
   match TV.yF (LA S) args,jK H1 S S with
   | some atM,some os=>
    match ev g atM os with
    |some (.ret v os' news)=>match v.rn (nB S t),ki S t S os',kj S t news with
     |some v,some h,some h'=>some (.val v ((eO H ks).filter (λp=> !(S.contains p.1))++h++h'))
     |_,_,_=>none
    |some (.panic v os')=>match v.rn (nB S t),ou S t S os' with
     |some v,some (h,lost)=>some (.panic v ((eO H ks).filter (λp=> !(S.contains p.1))++h) lost)
     |_,_=>none
    |none=>none
   |_,_=>none
  else none
def lT (C:ey)(slots:List TV)(c:Call):Option (FuncId×List TV):=
 match c.callee with
 |.value fo=>match dz C slots fo,kJ C slots c.args.toList with
  |some (.t (.fn (.func g))),some atM=>some (g,atM)
  |some (.fn (.func g) fs cs),some atM=>some (g,fs++atM++cs)
  |_,_=>none
 |_=>none
def MZ (P:jY)(H:Heap)(t:TypeId)(v:TV)(name:String):Option (FuncId×TV):=
 match(P.prog.info? t).bind (λi=>i.methods.find? (·.name==name)) with
 | some m=>match m.path.isEmpty,m.func,P.prog.underlying t with
  |true,some (f,true),some (.pointer _)=>some (f,v)
  |true,some (f,false),some (.pointer e)=>(match v with
   |.ptr k o=>(match loadT P H e (.ptr k o) with|some x=>some (f,x)|none=>none)
   |_=>none)
  |_,_,_=>none
 |none=>none
def Hz (C:ey)(H:Heap)(slots:List TV)(recv:Operand)(name:String)(args:Array Operand):Option (FuncId×List TV):=
 match dz C slots recv,kJ C slots args.toList with
 |some (.iface t v),some atM=>(match MZ C.P H t v name with|some (f,x)=>some (f,x::atM)|none=>none)
 |_,_=>none
def eT (ops:Array Oper)(slots:List TV)(o:Oper):Option Bool:=
 match o.guard with
 |none=>some true
 | some (j,want)=>match(ops[j]?).bind (·.dst) with
  |none=>some false
  |some d=>match slots[d]? with
   |some (.t (.bool b))=>some (b==want)
   |some (.t (.cF []))=>some false
   |none=>some false
   |_=>none
def M0:TV->Option TV
 |.iface t v=>some (.iface t v)
 |.t (.iface t v)=>some (.t (.iface t v))
 |_=>none
def bl (C:ey)(ev:bt)(f:FuncId)(H:Heap)(slots:List TV)(t:Nat)(o:Oper):Option s7:=
 match o.op with
 |.panic x=>match(dz C slots x).bind M0 with
  |some v=>some (.panic v [] [])
  |none=>none
 |.call {callee:=.value fo,args,argTypes}=>match lT C slots {callee:=.value fo,args,argTypes} with
  |some (g,atM)=>uM ev H g atM t (Pc C f o)
  |none=>none
 |.call {callee:=.invoke recv name,args,argTypes}=>match Hz C H slots recv name args with
  |some (g,atM)=>uM ev H g atM t (Pc C f o)
  |none=>none
 |_=>match evalOp C f (.loc [t]) H slots o with
  |some (v,u)=>some (.val v u)
  |none=>none
def GY (C:ey)(ev:bt)(f:FuncId)(ops:Array Oper):List Oper->St->Option (aQ×St)
 | [],st=>some (.normal,st)
 | o::r,st=>
  match eT ops st.slots o with
  |none=>none
  |some false=>GY C ev f ops r {st with slots:=ew st.slots o.dst dm,tick:=st.tick+1}
  |some true=>match bl C ev f st.H st.slots st.tick o with
   |none=>none
   |some (.val v u)=>GY C ev f ops r {slots:=ew st.slots o.dst v,H:=st.H.eY u,tick:=st.tick+1}
   |some (.panic v u l)=>some (.panic v,{st with H:=(st.H.yz l).eY u,tick:=st.tick+1})
def Sy (C:ey)(H:Heap)(slots:List TV)(o:Oper):Option (List Nm):=
 match o.op with
 |.move _|.assign _|.pick .. |.alloc _|.box .. |.build .. |.buildSlice .. |.nilCheck _|.makeInterface .. |.makeFunc .. |.makeMap .. |.makeSlice .. |.field .. |.extract .. |.typeAssert .. |.panic _|.unOp .. |.binOp .. |.index ..=>some []
 |.fieldAddr _ x _=>match dz C slots x with
  |some (.lK k _ _)=>some [k]
  |_=>some []
 |.store _ p _=>match dz C slots p with
  |some v=>some v.names
  |none=>none
 |.call {callee:=.value fo,args,argTypes}=>match lT C slots {callee:=.value fo,args,argTypes} with
  |some (_,atM)=>reach H iH [] (TV.kT atM)
  |none=>none
 |.call {callee:=.invoke recv name,args,argTypes}=>match dz C slots recv,kJ C slots args.toList with
  |some v,some atM=>reach H iH [] (v.names++TV.kT atM)
  |_,_=>none
 |op=>match kJ C slots op.operands.toList with
  |some vs=>some (TV.kT vs)
  |none=>none
inductive GZ where
 |Ae
 |unwanted
 |val (v:TV) (u:Heap)
 |panic (v:TV) (u:Heap) (lost:List Nm)
structure Rec where
 fp:List Nm
 res:GZ
def GZ.keys:GZ->List Nm
 |.val _ u=>u.map (·.1)
 |.panic _ u l=>u.map (·.1)++l
 |_=>[]
structure wY where
 slots:List TV
 H:Heap
def wY.after (s:wY)(o:Oper):GZ->wY
 |.Ae=>s
 |.unwanted=>{s with slots:=ew s.slots o.dst dm}
 |.val v u=>{slots:=ew s.slots o.dst v,H:=s.H.eY u}
 |.panic ..=>s
def l5 (i:Nat)(uy:Option Nat):GZ->Option Nat
 |.panic ..=>some i
 |_=>uy
def nC (ops:List Oper)(acc:List Nat):List Nat:=
 match ops with
 | []=>acc
 |o::r=>nC r (acc++[o.after.toList.foldl (λs e=>if Region.binds .any e then s|||2 ^ e.on|||acc.getD e.on 0 else s) 0])
def wZ:Nat->List Oper->Bool
 |_,[]=>true
 |i,o::r=>o.after.toList.all (λe=> !Region.binds .any e||decide (e.on<i))&&wZ (i+1) r
def iC (bs:List Nat)(i j:Nat):Bool:=(bs.getD j 0).testBit i
def kK (L:List Nat):Nat->List TV->List TV
 |_,[]=>[]
 |i,v::r=>(if L.contains i then v else dm)::kK L (i+1) r
def ov (H:Heap)(fp:List Nm):Heap:=fp.filterMap λk=>(H.get k).map (k, ·)
def Ys (C:ey)(ev:bt)(f:FuncId)(ops:Array Oper)(bs:List Nat)(t0 i:Nat)(o:Oper)(s:wY)(uy:Option Nat):Option Rec:=
 match(match uy with|some j=>iC bs j i|none=>false) with
 |true=>some ⟨[],.Ae⟩
 | false=>
  match eT ops (kK (o.looksAt ops) 0 s.slots) o with
  |none=>none
  |some false=>some ⟨[],.unwanted⟩
  | some true=>
   match Sy C s.H s.slots o with
   |none=>none
   | some fp=>
    match bl C ev f (ov s.H fp) (kK (o.looksAt ops) 0 s.slots) (t0+i) o with
    |none=>none
    |some (.val v u)=>some ⟨fp,.val v u⟩
    |some (.panic v u l)=>match uy with
     |some _=>none
     |none=>some ⟨fp,.panic v u l⟩
def G5 (C:ey)(ev:bt)(f:FuncId)(ops:Array Oper)(bs:List Nat)(t0:Nat):Nat->List Oper->wY->Option Nat->Option (List Rec)
 |_,[],_,_=>some []
 | i,o::r,s,uy=>match Ys C ev f ops bs t0 i o s uy with
  |none=>none
  |some rec=>match G5 C ev f ops bs t0 (i+1) r (s.after o rec.res) (l5 i uy rec.res) with
   |some rs=>some (rec::rs)
   |none=>none
def M1 (a b:List Nm):Bool:=a.all λk=> !(b.contains k)
def l6 (ops:Array Oper)(x y:Oper):Bool:=
 (match x.dst with
  |some d=> !((y.looksAt ops).contains d)&&y.dst != some d
  |none=>true)&&
 (match y.dst with
  |some d=> !((x.looksAt ops).contains d)
  |none=>true)
def vA (ops:Array Oper)(x y:Oper)(rx ry:Rec):Bool:=
 l6 ops x y&&M1 rx.res.keys ry.fp&&M1 rx.res.keys ry.res.keys&&M1 ry.res.keys rx.fp
def Cm (ops:Array Oper)(b:Nat)(j:Oper)(rj:Rec):Nat->List Oper->List Rec->Bool
 |i,x::xs,r::rs=>(b.testBit i||vA ops x j r rj)&&Cm ops b j rj (i+1) xs rs
 |_,_,_=>true
def nQ (ops:Array Oper)(l:List Oper)(recs:List Rec):List Nat->List Oper->List Rec->Nat->Bool
 |b::bs,o::os,r::rs,n=>Cm ops b o r 0 (l.take n) (recs.take n)&&nQ ops l recs bs os rs (n+1)
 |_,_,_,_=>true
def lU:Nat->List Rec->Option (Nat×TV×Heap×List Nm)
 |_,[]=>none
 |i,r::rs=>match r.res with
  |.panic v u l=>some (i,v,u,l)
  |_=>lU (i+1) rs
def Ep (b:Nat):Nat->List Rec->List Nm
 |_,[]=>[]
 |i,r::rs=>(if b.testBit i then [] else r.res.keys)++Ep b (i+1) rs
def Cn:List Oper->List Rec->wY->wY
 |o::os,r::rs,s=>Cn os rs (s.after o r.res)
 |_,_,s=>s
def Ii (ops:List Oper)(slots:List TV):List TV:=ops.foldl (λs o=>ew s o.dst .any) slots
def Af (C:ey)(ev:bt)(f:FuncId)(ops:Array Oper)(st:St):Option (aQ×St):=
 let l:=ops.toList
 let bs:=nC l []
 match G5 C ev f ops bs st.tick 0 l {slots:=st.slots,H:=st.H} none with
 |none=>none
 | some recs=>
  if nQ ops l recs bs l recs 0=true/\wZ 0 l=true then
   let s:=Cn l recs {slots:=st.slots,H:=st.H}
   match lU 0 recs with
   |none=>some (.normal,{slots:=s.slots,H:=s.H,tick:=st.tick+ops.size})
   |some (j,v,u,lost)=>
    some (.panic v,{slots:=Ii l st.slots,H:=(s.H.yz (lost++Ep (bs.getD j 0) 0 recs)).eY u,tick:=st.tick+ops.size})
  else none
def Ij (body:St->Option (aQ×St)):Nat->St->Option (aQ×St)
 |0,_=>none
 |n+1,st=>match body st with
  |some (.normal,st')=>Ij body n st'
  |r=>r
def evalCode (C:ey)(ev:bt)(f:FuncId)(fuel:Nat):Code->St->Option (aQ×St)
 |.skip,st=>some (.normal,st)
 |.label _,st=>some (.normal,st)
 |.region _ ops draw,st=>if draw then Af C ev f ops st else GY C ev f ops ops.toList st
 |.seq a b,st=>match evalCode C ev f fuel a st with
  |some (.normal,st')=>evalCode C ev f fuel b st'
  |r=>r
 |.cond c a b,st=>match dz C st.slots c with
  |some (.t (.bool true))=>evalCode C ev f fuel a st
  |some (.t (.bool false))=>evalCode C ev f fuel b st
  |_=>none
 |.block id body,st=>match evalCode C ev f fuel body st with
  |some (.exit id',st')=>if id'=id then some (.normal,st') else some (.exit id',st')
  |r=>r
 |.loop body,st=>Ij (evalCode C ev f fuel body) fuel st
 |.exit id,st=>some (.exit id,st)
 |.ret,st=>some (.ret,st)
 |_,_=>none
def lV (C:ey)(st:St):List ResultVar->Option (List TV)
 | []=>some []
 |.tmp t::r=>match lV C st r with
  |some vs=>some (st.slots.getD t dm::vs)
  |none=>none
 |.cell a t::r=>match loadT C.P st.H t (st.slots.getD a dm),lV C st r with
  |some v,some vs=>some (v::vs)
  |_,_=>none
def Co:List TV->TV
 | [v]=>v
 |vs=>sj vs
def dA:Nat->List aO->Heap
 |_,[]=>[]
 |i,o::r=>(.arg i,o)::dA (i+1) r
def s8 (H:Heap):Nat->Nat->Option (List aO)
 |_,0=>some []
 |i,n+1=>match H.get (.arg i),s8 H (i+1) n with
  |some o,some os=>some (o::os)
  |_,_=>none
def uN (H:Heap):Nat->Nat->List (Option aO)
 |_,0=>[]
 | i,n+1=>(match H.get (.arg i) with
   |some o=>if o.names.any Nm.jf then none else some o
   |none=>none)::uN H (i+1) n
def ow (H:Heap):List Nm->Option Heap
 | []=>some []
 |k::r=>match ow H r with
  |some h=>if k.jf then(H.get k).map λo=>(k,o)::h else some h
  |none=>none
def finish (C:ey)(fn:Func)(n:Nat)(st:St):Option br:=
 match lV C st fn.results.toList with
 |none=>none
 | some vs=>
  let v0:=Co vs
  let(v,ks):=match su st.H jh v0 with
   |some (x,ks)=>(TV.t x,ks)
   |none=>(v0,[])
  let H:=st.H.eY (eO st.H ks)
  match s8 H 0 n with
  |none=>none
  |some os=>match reach H iH [] (v.names++os.flatMap aO.names) with
   |none=>none
   |some R=>(ow H R).map λh=>.ret v os h
def Pd (C:ey)(ev:bt)(fuel:Nat)(f:FuncId)(args:List TV)(bu:List aO):Option br:=
 match C.P.fn f with
 |none=>none
 | some fn=>match fn.body with
  |none=>none
  |some body=>
   if fn.name= "runtime.NumGoroutine" then none else
   match evalCode C ev f fuel body {slots:=args++List.replicate (fn.ntmps - args.length) dm,H:=dA 0 bu,tick:=0} with
   |some (.normal,st)=>finish C fn bu.length st
   |some (.ret,st)=>finish C fn bu.length st
   |some (.panic v,st)=>if v.names.any Nm.jf then none else some (.panic v (uN st.H 0 bu.length))
   |_=>none
abbrev Ext:=FuncId->Option (bt->List TV->List aO->Option br)
def Ik (C:ey)(X:Ext):Nat->bt
 |0,_,_,_=>none
 |n+1,f,args,bu=>match X f with
  |some s=>s (Ik C X n) args bu
  |none=>Pd C (Ik C X n) n f args bu
end Go.Abs
namespace Go.Abs
open Go
def G6 (F:yL)(cs:List Tree)(vs:List Value):Prop:=vs.length=cs.length/\∀(j:Nat) c v,cs[j]?=some c->vs[j]?=some v->VT F c v
theorem G6.Pe {G:Gh}{cs:List Tree}{vs:List Value}(h:G6 G.F cs vs):ec G (cs.map .t) vs:=by
 refine⟨by simp[h.1],λj c v hc hv=> ?_⟩;rw[List.getElem?_map] at hc;cases hx:cs[j]? with
 |none=>rw[hx] at hc;simp at hc
 |some x=>rw[hx] at hc;simp at hc;subst hc;exact .t x v (h.2 j x v hx hv)
theorem VR.tree {G:Gh}{x:Tree}{v:Value}(h:VR G (.t x) v):VT G.F x v:=by cases h;assumption
theorem ec.Yt {G:Gh}{cs:List Tree}{vs:List Value}(h:ec G (cs.map .t) vs):G6 G.F cs vs:=by
 refine⟨by have:=h.1;simpa using this,λj c v hc hv=> ?_⟩;exact(h.2 j (.t c) v (by rw[List.getElem?_map,hc];rfl) hv).tree
theorem Yu {G:Gh}{x:TV}{v:Value}(h:VR G x v):VR G (UN x) v:=by
 cases h with
 |bX=>exact .t _ _ (.Ek _ _)
 |pZ es a h=>exact .t _ _ h
 |t x v h=>exact .t _ _ h
 |ref k off len n cc cap v a b c d e=>exact .ref k off len n cc cap v a b c d e
 |agg cs vs a b=>exact .agg cs vs a b
 |cF cs vs a b=>exact .cF cs vs a b
 |ptr k off a b=>exact .ptr k off a b
 |lK k n off n' cc cap v a b c d e=>exact .lK k n off n' cc cap v a b c d e
 |lM cs off b o vals c d=>exact .lM cs off b o vals c d
 |map k a b=>exact .map k a b
 |fn f fs cs vs ws a b c d=>exact .fn f fs cs vs ws a b c d
 |iface t x v h=>exact .iface t x v h
 |any v=>exact .any v
theorem Wo {G:Gh}{cs:List TV}{vs:List Value}(h:ec G cs vs):ec G (cs.map UN) vs:=by
 refine⟨by rw[List.length_map];exact h.1,λj c v hc hv=> ?_⟩;rw[List.getElem?_map] at hc;cases hx:cs[j]? with
 |none=>rw[hx] at hc;cases hc
 |some x=>rw[hx] at hc;cases hc;exact Yu (h.2 j x v hx hv)
theorem Er {cs:List TV}{ts:List Tree}(h:allT cs=some ts):cs=ts.map .t:=by
 induction cs generalizing ts with
 |nil=>simp[allT] at h;subst h;rfl
 |cons c r ih=>
  cases c<;>simp only[allT] at h<;>try (simp at h;done)
  rename_i x
  cases hr:allT r with
  |none=>rw[hr] at h;simp at h
  |some xs=>rw[hr] at h;simp at h;subst h;simp[ih hr]
theorem G6.agg {F:yL}{cs:List Tree}{vs:List Value}(h:G6 F cs vs):VT F (.agg cs) (.agg vs.toArray):=.agg cs vs h.1 h.2
theorem G6.cF {F:yL}{cs:List Tree}{vs:List Value}(h:G6 F cs vs):VT F (.cF cs) (.tuple vs.toArray):=.cF cs vs h.1 h.2
theorem yO {G:Gh}{cs:List TV}{vs:List Value}(h:ec G cs vs):VR G (AQ cs) (.agg vs.toArray):=by
 unfold AQ;cases ha:allT cs with
 |none=>exact .agg cs vs h.1 h.2
 |some ts=>have:=Er ha;subst this;exact .t _ _ h.Yt.agg
theorem ox {G:Gh}{cs:List TV}{vs:List Value}(h:ec G cs vs):VR G (sj cs) (.tuple vs.toArray):=by
 unfold sj;cases ha:allT cs with
 |none=>exact .cF cs vs h.1 h.2
 |some ts=>have:=Er ha;subst this;exact .t _ _ h.Yt.cF
theorem VT.leaf {F:yL}{x:Tree}{v:Value}(h:VT F x v)(hx:x.leaf=true):one v=true:=by
 cases h<;>simp_all [Tree.leaf,one]
theorem VR.leaf {G:Gh}{x:TV}{v:Value}(h:VR G x v)(hx:x.leaf=true):one v=true:=by
 cases h with
 |t x v h=>exact h.leaf hx
 |ref k off len n cc cap v hd ha hle ho hv=>obtain⟨_,_,rfl⟩:=ho;rfl
 |lK k n off n' cc cap v hd ha hle ho hv=>obtain⟨_,rfl⟩:=ho;rfl
 |_=>simp_all [TV.leaf,one]
theorem LB {v:Value}(h:one v=true):v.cells= #[v]:=by cases v<;>simp_all [one,Value.cells]
theorem ec.one {G:Gh}{x:TV}{v:Value}(h:VR G x v):ec G [x] [v]:=ec.cons h (ec.nil G)
theorem VR.cells {G:Gh}{x:TV}{v:Value}(h:VR G x v)(hx:x≠ .any):ec G x.cells v.cells.toList:=by
 cases h with
 |any=>exact absurd rfl hx
 |t x v h=>
  cases h with
  |agg cs vs hl h=>exact G6.Pe ⟨hl,h⟩
  |cF cs vs hl h=>exact ec.one (.t _ _ (.cF cs vs hl h))
  |bool=>exact ec.one (.t _ _ (.bool _))
  |int=>exact ec.one (.t _ _ (.int _ _))
  |str=>exact ec.one (.t _ _ (.str _))
  |Ek=>exact ec.one (.t _ _ (.Ek _ _))
  |sl e es b o cap vals h1 h2 h3 h4 h5=>exact ec.one (.t _ _ (.sl e es b o cap vals h1 h2 h3 h4 h5))
  |cT=>exact ec.one (.t _ _ .cT)
  |jZ=>exact ec.one (.t _ _ .jZ)
  |uJ=>exact ec.one (.t _ _ .uJ)
  |fn=>exact ec.one (.t _ _ (.fn _))
  |Cj=>exact ec.one (.t _ _ .Cj)
  |iface t x v h=>exact ec.one (.t _ _ (.iface t x v h))
 |bX=>exact ec.one .bX
 |pZ es a h=>exact ec.one (.pZ es a h)
 |ref k off len n cc cap v hd ha hle ho hv=>rw[LB (by obtain⟨_,_,rfl⟩:=ho;rfl)];exact ec.one (.ref k off len n cc cap v hd ha hle ho hv)
 |agg cs vs hl h=>exact⟨hl,h⟩
 |cF cs vs hl h=>exact ec.one (.cF cs vs hl h)
 |ptr k off hd hn=>exact ec.one (.ptr k off hd hn)
 |lK k n off n' cc cap v hd ha hle ho hv=>rw[LB (by obtain⟨_,rfl⟩:=ho;rfl)];exact ec.one (.lK k n off n' cc cap v hd ha hle ho hv)
 |lM cs off b o vals hF hv=>exact ec.one (.lM cs off b o vals hF hv)
 |map k hd hn=>exact ec.one (.map k hd hn)
 |fn f fs cs vs ws hl h hl' h'=>exact ec.one (.fn f fs cs vs ws hl h hl' h')
 |iface t x v h=>exact ec.one (.iface t x v h)
theorem G6.nil (F:yL):G6 F [] []:=⟨rfl,by simp⟩
theorem G6.cons {F:yL}{c:Tree}{v:Value}{cs:List Tree}{vs:List Value}(h:VT F c v)(hs:G6 F cs vs):G6 F (c::cs) (v::vs):=by
 refine⟨by simp[hs.1],λj d u hd hu=> ?_⟩;cases j with
 |zero=>simp at hd hu;subst hd;subst hu;exact h
 |succ j=>simp at hd hu;exact hs.2 j d u hd hu
theorem VT.cells {F:yL}{x:Tree}{v:Value}(h:VT F x v):G6 F x.cells v.cells.toList:=by
 cases h<;>first
  |(rename_i cs vs hl h;exact⟨hl,h⟩)
  |exact G6.cons (by first|assumption|(constructor;done)|(constructor<;>assumption)) (G6.nil F)
theorem LC {G:Gh}{v:Value}{x:TV}(h:Bj v=some x):VR G x v:=by
 unfold Bj at h;split at h<;>simp at h<;>(try subst h)
 ·exact .t _ _ (.bool _)
 ·exact .t _ _ (.int _ _)
 ·rename_i s;have:(Value.string s)=.string ⟨s.data.toList.toArray⟩:=by simp
  rw[this];exact .t _ _ (.str _)
 ·exact .bX
 ·exact .t _ _ .cT
 ·exact .t _ _ .jZ
 ·exact .t _ _ .uJ
 ·exact .t _ _ .Cj
 ·obtain⟨⟨h1,h2⟩,h3⟩:=h;subst h3;subst h1;subst h2;exact .t _ _ (.fn _)
theorem Cp {G:Gh}{vs:List Value}{xs:List TV}(h:om vs=some xs):ec G xs vs:=by
 induction vs generalizing xs with
 |nil=>simp[om] at h;subst h;exact ec.nil G
 |cons v r ih=>
  simp only[om] at h
  cases h1:Bj v<;>cases h2:om r<;>simp[h1,h2] at h
  subst h
  exact ec.cons (LC h1) (ih h2)
theorem yP {G:Gh}{v:Value}{x:TV}(h:valOf v=some x):VR G x v:=by
 unfold valOf at h;split at h
 ·rename_i cs;cases h1:om cs.toList<;>simp[h1] at h;subst h;have:=yO (Cp (G:=G) h1);simpa using this
 ·rename_i cs;cases h1:om cs.toList<;>simp[h1] at h;subst h;have:=ox (Cp (G:=G) h1);simpa using this
 ·exact LC h
theorem Pf {G:Gh}{x:TV}{u v:Value}(h:Ie x=some u)(hr:VR G x v):v=u:=by
 cases hr with
 |t x v ht=>cases ht<;>simp[Ie] at h<;>exact h
 |bX=>simp[Ie] at h;exact h
 |_=>simp[Ie] at h
theorem Il {G:Gh}{xs:List TV}{us vs:List Value}(h:sy xs=some us)(hr:ec G xs vs):vs=us:=by
 induction xs generalizing us vs with
 |nil=>simp[sy] at h;subst h;have:=hr.1;simpa using this
 |cons x r ih=>
  obtain⟨v,vs',rfl,h1,h2⟩:=hr.j3
  simp only[sy] at h
  cases h3:Ie x<;>cases h4:sy r<;>simp[h3,h4] at h
  subst h
  rw[Pf h3 h1,ih h4 h2]
theorem Im {G:Gh}{x:TV}{u v:Value}(h:Ig x=some u)(hr:VR G x v):v=u:=by
 unfold Ig at h;split at h
 ·rename_i cs;cases h1:sy (cs.map .t)<;>simp[h1] at h;subst h;cases hr with|t _ _ ht=>cases ht with|agg _ vs hl hh=>
   rw[Il h1 (G6.Pe (G:=G) ⟨hl,hh⟩)]
 ·rename_i cs;cases h1:sy cs<;>simp[h1] at h;subst h;cases hr with|agg _ vs hl hh=>rw[Il h1 ⟨hl,hh⟩]
 ·exact Pf h hr
theorem oy {G:Gh}{x:TV}{u v:Value}(h:lX x=some u)(hr:VR G x v):v=u:=by
 unfold lX at h;split at h
 ·rename_i t x;cases h1:Ig (.t x)<;>simp[h1] at h;subst h;cases hr with|t _ _ ht=>cases ht with|iface _ _ w hw=>rw[Im (G:=G) h1 (.t _ _ hw)]
 ·rename_i t x;cases h1:Ig x<;>simp[h1] at h;subst h;cases hr with|iface _ _ w hw=>rw[Im h1 hw]
 ·exact Im h hr
theorem qV {α:Type}{P:Program}{s:Sem α}{a:α}(h:eL P s=some a)(w:World):s.run P w=.ok a w:=by
 induction s with
 |pure x=>simp[eL] at h;subst h;rfl
 |program k ih=>simp only[eL] at h;exact ih P h
 |_=>simp[eL] at h
def vB (vs:Array Value)(fr:Nat×Nat):Prop:=∀o,o<vs.size->¬(fr.1<=o/\o<fr.2)
def MR (G:Gh):List (TV×TV×Nat)->List MapEntry->Prop
 | [],[]=>True
 |(k,v,b)::r,e::es=>VR G k e.key/\VR G v e.val/\e.born=b/\MR G r es
 |_,_=>False
def OR (G:Gh)(w:World)(k:Nm):aO->Prop
 |.cells K7 cs=>G.arr k=none/\∃vs ty fr,w.heap[G.mu k]?=some (.cells vs ty fr)/\(vB vs fr/\ty=K7)/\ec G cs vs.toList/\∀o,G.F (G.mu k) o=none
 | .arr g cc fz cs=>0<cc/\∃cap vs ty fr,G.arr k=some (cs.length,cc,cap)/\w.heap[G.mu k]?=some (.cells vs ty fr)/\(vB vs fr/\ty=g.1)/\vs.size=cap*cc/\cs.length<=vs.size/\
   ec G cs (vs.toList.take cs.length)/\∀o,(fz=false\/cs.length<=o)->G.F (G.mu k) o=none
 |.map es c=>G.arr k=none/\∃cg,w.heap[G.mu k]?=some (.map cg c)/\MR G es cg.toList/\∀o,G.F (G.mu k) o=none
 |.dead=>True
structure WF (G:Gh)(w:World):Prop where
 F:∀b o v,G.F b o=some v->∃vs ty fr,w.heap[b]?=some (.cells vs ty fr)/\vs[o]?=some v
 inj:∀k k',G.dom k->G.dom k'->G.alive k->G.alive k'->G.mu k=G.mu k'->k=k'
 lt:∀k,G.dom k->G.mu k<w.heap.size
def HR (G:Gh)(w:World)(H:Heap):Prop:=∀k o,H.get k=some o->G.dom k/\OR G w k o
structure Step (W N:Nm->Prop)(G:Gh)(w:World)(G':Gh)(w':World):Prop where
 le:G.le G'
 wf:WF G' w'
 same:∀k,G.dom k->¬W k->G'.mu k=G.mu k/\G'.arr k=G.arr k
 blocks:∀b,b<w.heap.size->(∀k,W k->G.dom k->G.alive k->G.mu k≠b)->w'.heap[b]?=w.heap[b]? /\∀o,G'.F b o=G.F b o
 news:∀k,G'.dom k->G.dom k\/N k
 fresh:∀k,G'.dom k->(∃k0,G.dom k0/\G'.mu k=G.mu k0/\(k0=k\/(W k0/\G.alive k0)))\/w.heap.size<=G'.mu k
 size:w.heap.size<=w'.heap.size
 os:w'.os=w.os
 tape:w'.tape=w.tape
 output:w'.output=w.output
theorem Step.refl {G:Gh}{w:World}(hw:WF G w)(W N:Nm->Prop):Step W N G w G w:=
 ⟨.refl G,hw,λ_ _ _=>⟨rfl,rfl⟩,λ_ _ _=>⟨rfl,λ_=>rfl⟩,λ_ h=>.inl h,λk h=>.inl ⟨k,h,rfl,.inl rfl⟩,Nat.le_refl _,rfl,rfl,rfl⟩
theorem Step.mono {W N W' N':Nm->Prop}{G G':Gh}{w w':World}(h:Step W N G w G' w')(hW:∀k,G.dom k->W k->W' k)(hN:∀k,N k->N' k):Step W' N' G w G' w':=
 ⟨h.le,h.wf,λk d n=>h.same k d (λx=>n (hW k d x)),λb hb hn=>h.blocks b hb (λk hk d=>hn k (hW k d hk) d),λk d=>(h.news k d).imp id (hN k),λk d=>(h.fresh k d).imp (λ⟨k0,a,b,c⟩=>⟨k0,a,b,c.imp id λx=>⟨hW k0 a x.1,x.2⟩⟩) id,h.size,h.os,h.tape,h.output⟩
theorem Step.trans {W N W' N':Nm->Prop}{A B C:Gh}{u v w:World}(h:Step W N A u B v)(k:Step W' N' B v C w):
 Step (λx=>W x\/W' x) (λx=>N x\/N' x) A u C w:=by
 refine⟨h.le.trans k.le,k.wf,λx d n=> ?_,λb hb hn=> ?_,λx d=> ?_,λx d=> ?_,Nat.le_trans h.size k.size,k.os.trans h.os,k.tape.trans h.tape,k.output.trans h.output⟩
 ·obtain⟨a1,a2⟩:=h.same x d (λy=>n (.inl y));obtain⟨b1,b2⟩:=k.same x (h.le.dom _ d) (λy=>n (.inr y));exact⟨b1.trans a1,b2.trans a2⟩
 ·obtain⟨a1,a2⟩:=h.blocks b hb (λx hx d=>hn x (.inl hx) d);obtain⟨b1,b2⟩:=k.blocks b (Nat.lt_of_lt_of_le hb h.size) (λx hx d=>by
   intro al;rcases h.fresh x d with ⟨k0,d0,e,rfl|⟨hw,a0⟩⟩|e
   ·rw[e];exact hn k0 (.inr hx) d0 (h.le.alive d0 al)
   ·rw[e];exact hn k0 (.inl hw) d0 a0
   ·omega)
  exact⟨b1.trans a1,λo=>(b2 o).trans (a2 o)⟩
 ·rcases k.news x d with d|d
  ·exact(h.news x d).imp id .inl
  ·exact .inr (.inr d)
 ·rcases k.fresh x d with ⟨k1,d1,e1,o1⟩|e1
  ·rcases h.fresh k1 d1 with ⟨k0,d0,e0,o0⟩|e0
   ·refine .inl ⟨k0,d0,e1.trans e0, ?_⟩;rcases o0 with rfl|⟨w0,a0⟩
    ·rcases o1 with rfl|⟨w1,a1⟩
     ·exact .inl rfl
     ·exact .inr ⟨.inr w1,h.le.alive d0 a1⟩
    ·exact .inr ⟨.inl w0,a0⟩
   ·exact .inr (by rw[e1];exact e0)
  ·exact .inr (Nat.le_trans h.size e1)
theorem MR.mono {G G':Gh}(hG:G.le G'){es:List (TV×TV×Nat)}{cg:List MapEntry}(h:MR G es cg):MR G' es cg:=by
 induction es generalizing cg with
 |nil=>cases cg<;>simp_all [MR]
 | cons e r ih=>
  obtain⟨k,v,b⟩:=e
  cases cg with
  |nil=>simp[MR] at h
  |cons x xs=>
   simp only[MR] at h ⊢
   exact⟨h.1.mono hG,h.2.1.mono hG,h.2.2.1,ih h.2.2.2⟩
theorem OR.alive {G:Gh}{w:World}{k:Nm}{o:aO}(h:OR G w k o)(hd:o≠ .dead):G.alive k:=by
 cases o with
 |cells ty cs=>exact Gh.kQ h.1
 |arr g e fz cs=>obtain⟨he,cap,_,_,_,ha,_⟩:=h;exact Gh.lC ha he
 |map es c=>exact Gh.kQ h.1
 |dead=>exact absurd rfl hd
theorem Step.keeps {W N:Nm->Prop}{G G':Gh}{w w':World}(h:Step W N G w G' w')(hw:WF G w){k:Nm}(hk:G.dom k)(hn:¬W k){o:aO}(ho:OR G w k o):OR G' w' k o:=by
 by_cases agX:o=.dead
 ·subst agX;trivial
 have ak:=ho.alive agX;obtain⟨em,ea⟩:=h.same k hk hn;obtain⟨hb,hF⟩:=h.blocks (G.mu k) (hw.lt k hk) (λx hx dx ax e=>hn (by rw[← hw.inj x k dx hk ax ak e];exact hx));cases o with
 |cells K7 cs=>
  obtain⟨ha,vs,ty,fr,hh,ht,hv,hf⟩:=ho
  exact⟨by rw[ea];exact ha,vs,ty,fr,by rw[em,hb];exact hh,ht,hv.mono h.le,λo=>by rw[em,hF];exact hf o⟩
 |arr g cc fz cs=>
  obtain⟨he,cap,vs,ty,fr,ha,hh,ht,hs,hl,hv,hf⟩:=ho
  exact⟨he,cap,vs,ty,fr,by rw[ea];exact ha,by rw[em,hb];exact hh,ht,hs,hl,hv.mono h.le,λo ho=>by rw[em,hF];exact hf o ho⟩
 |map es c=>
  obtain⟨ha,cg,hh,hv,hf⟩:=ho
  exact⟨by rw[ea];exact ha,cg,by rw[em,hb];exact hh,hv.mono h.le,λo=>by rw[em,hF];exact hf o⟩
 |dead=>trivial
theorem Heap.Cq (H:Heap)(k k':Nm)(o:aO):(H.put k o).get k'=if k=k' then some o else H.get k':=by
 induction H with
 |nil=>simp only[Heap.put,Heap.get]
 | cons p r ih=>
   obtain⟨k0,o0⟩:=p
   simp only[Heap.put]
   by_cases h:k0=k
   · subst h
     simp only[if_true,Heap.get]
     split<;>rfl
   · simp only[if_neg h,Heap.get,ih]
     by_cases h2:k0=k'
     · subst h2
       rw[if_pos rfl,if_neg (λe=>h e.symm),if_pos rfl]
     · rw[if_neg h2,if_neg h2]
theorem Heap.vU (H:Heap)(u:List (Nm×aO))(k:Nm)(o:aO)(h:(H.eY u).get k=some o):
 (k,o)∈u\/(H.get k=some o/\k∉u.map (·.1)):=by
 unfold Heap.eY at h
 induction u generalizing H with
 |nil=>exact .inr ⟨h,by simp⟩
 | cons p r ih=>
   simp only[List.foldl_cons] at h
   rcases ih (H.put p.1 p.2) h with h|⟨h,hn⟩
   · exact .inl (List.mem_cons_of_mem _ h)
   · rw[Heap.Cq] at h
     split at h
     · rename_i e;simp at h;subst h;subst e;exact .inl List.mem_cons_self
     · rename_i e;exact .inr ⟨h,by simp only[List.map_cons,List.mem_cons,not_or];exact⟨λx=>e x.symm,hn⟩⟩
theorem Heap.get_filter (H:Heap)(q:Nm->Bool)(k:Nm):Heap.get (H.filter λp=>q p.1) k=if q k=true then H.get k else none:=by
 induction H with
 |nil=>simp[Heap.get]
 | cons p r ih=>
   obtain⟨k0,o0⟩:=p
   simp only[List.filter_cons]
   by_cases h:q k0=true
   · simp only[h,if_true,Heap.get,ih]
     by_cases e:k0=k
     · subst e;simp[h]
     · simp[e]
   · simp only[h,Heap.get]
     by_cases e:k0=k
     · subst e;simp[ih,h]
     · simp[e,ih]
theorem Heap.yQ (H:Heap)(ks:List Nm)(k:Nm):(H.yz ks).get k=if k∈ks then none else H.get k:=by
 unfold Heap.yz;rw[Heap.get_filter H (λk=> !(ks.contains k)) k];by_cases h:k∈ks<;>simp[h]
theorem HR.eY {W N:Nm->Prop}{G G':Gh}{w w':World}{H:Heap}{u:List (Nm×aO)}(h:Step W N G w G' w')(hw:WF G w)(hH:HR G w H)
 (hu:∀k o,(k,o)∈u->G'.dom k/\OR G' w' k o)(hW:∀k,G.dom k->W k->k∈u.map (·.1)):HR G' w' (H.eY u):=by
 intro k o hk
 rcases Heap.vU H u k o hk with h1|⟨h1,hn⟩
 ·exact hu k o h1
 ·obtain⟨d,ho⟩:=hH k o h1;exact⟨h.le.dom _ d,h.keeps hw d (λx=>hn (hW k d x)) ho⟩
theorem yR {α β:Type}{P:Program}{s:Sem α}{f:α->Sem β}{w w':World}{a:α}(h:s.run P w=.ok a w'):(s.bind f).run P w=(f a).run P w':=by
 induction s generalizing w with
 |pure x=>simp[Sem.run] at h;obtain⟨rfl,rfl⟩:=h;rfl
 | load m x k ih=>
   simp only[Sem.bind,Sem.run] at h ⊢
   split at h
   · exact ih _ h
   · split at h
     · exact ih _ h
     · simp at h
 | store m x v k ih=>
   cases v<;>simp only[Sem.bind,Sem.run] at h ⊢<;>first
     |(simp at h;done)
     |( split at h
        · split at h
          · simp at h
          · rename_i hf;rw[if_neg hf];exact ih h
        · split at h
          · exact ih h
          · simp at h)
 |new o k ih=>exact ih _ h
 |shape r k ih=>exact ih _ h
 |freeze x n k ih=>exact ih h
 |frozen x k ih=>exact ih _ h
 | getObj r k ih=>
   simp only[Sem.bind,Sem.run] at h ⊢
   split at h
   · simp at h
   · exact ih _ h
   · simp at h
 | setObj r o k ih=>
   simp only[Sem.bind,Sem.run] at h ⊢
   split at h
   · simp at h
   · exact ih h
   · simp at h
 | choose q k ih=>
   simp only[Sem.bind,Sem.run] at h ⊢
   split at h
   · rename_i hf;rw[if_pos hf];exact ih _ h
   · rename_i hf;rw[if_neg hf];exact ih _ h
 |sys c k ih=>exact ih _ h
 |program k ih=>exact ih _ h
 |mark m k ih=>exact ih h
 |halt x=>simp[Sem.run] at h
theorem iR {α β:Type}{P:Program}{s:Sem α}{f:α->Sem β}{w w':World}{a:α}(h:s.run P w=.ok a w'):(s>>=f).run P w=(f a).run P w':=yR h
theorem qW (b o n:Nat):(Addr.add ⟨b,o,none⟩ n)=⟨b,o+n,none⟩:=by
 unfold Addr.add;split
 ·rename_i h;subst h;rfl
 ·rfl
theorem cell_of {w:World}{b:Nat}{vs:Array Value}{ty:TypeId}{fr:Nat×Nat}(h:w.heap[b]?=some (.cells vs ty fr))(o:Nat):w.cell? ⟨b,o,none⟩=vs[o]?:=by
 simp[World.cell?,h]
theorem LD {w:World}{b:Nat}{vs:Array Value}{ty:TypeId}{fr:Nat×Nat}(h:w.heap[b]?=some (.cells vs ty fr))(o:Nat):w.frozen? ⟨b,o,none⟩=(decide (fr.1<=o)&&decide (o<fr.2)):=by
 simp[World.frozen?,h]
theorem Pg {P:Program}{w:World}{a:Addr}{v:Value}(h:w.cell? a=some v):(load a).run P w=.ok v w:=by
 simp[load,Sem.run,h]
theorem Cr {P:Program}{w:World}{b o:Nat}(vs:List Value):∀(i:Nat) (acc:Array Value),(∀j v,vs[j]?=some v->w.cell? ⟨b,o+i+j,none⟩=some v)->
 (loadCellsFrom ⟨b,o,none⟩ i vs.length acc).run P w=.ok (acc++vs.toArray) w:=by
 induction vs with
 |nil=>intro i acc _;simp[loadCellsFrom]
 |cons v r ih=>
  intro i acc h
  simp only[List.length_cons,loadCellsFrom,qW]
  rw[iR (Pg (by simpa using h 0 v rfl))]
  rw[ih (i+1) (acc.push v) (λj u hu=>by have:=h (j+1) u (by simpa using hu);rw[← this];congr 2;omega)]
  simp
theorem qO {P:Program}{w:World}{b o:Nat}(vs:List Value)(h:∀j v,vs[j]?=some v->w.cell? ⟨b,o+j,none⟩=some v):
 (loadCells ⟨b,o,none⟩ vs.length).run P w=.ok vs.toArray w:=by
 unfold loadCells
 have:=Cr (P:=P) vs 0 #[] (by simpa using h)
 simpa using this
def World.dK (w:World)(b:Nat)(vs:Array Value)(ty:TypeId)(fr:Nat×Nat):World:={w with heap:=w.heap.setIfInBounds b (.cells vs ty fr)}
theorem oz {w:World}{b:Nat}{vs:Array Value}{ty:TypeId}{fr:Nat×Nat}(h:w.heap[b]?=some (.cells vs ty fr))(o:Nat)(v:Value):
 w.setCell ⟨b,o,none⟩ v=World.dK w b (vs.setIfInBounds o v) ty fr:=by
 unfold World.setCell World.dK
 congr 1
 apply Array.ext_getElem?
 intro i
 rw[Array.getElem?_modify,Array.getElem?_setIfInBounds]
 by_cases e:b=i
 ·subst e;have hb:b<w.heap.size:=(Array.getElem?_eq_some_iff.1 h).1;rw[h];simp[hb]
 ·simp[e]
theorem gJ {w:World}{b:Nat}(hb:b<w.heap.size)(vs:Array Value)(ty:TypeId)(fr:Nat×Nat):(World.dK w b vs ty fr).heap[b]?=some (.cells vs ty fr):=by
 simp[World.dK,hb]
theorem nj {w:World}{b c:Nat}(h:b≠c)(vs:Array Value)(ty:TypeId)(fr:Nat×Nat):(World.dK w b vs ty fr).heap[c]?=w.heap[c]?:=by
 simp[World.dK,Array.getElem?_setIfInBounds,h]
theorem G7 (w:World)(b:Nat)(vs us:Array Value)(ty ty':TypeId)(fr fr':Nat×Nat):World.dK (World.dK w b vs ty fr) b us ty' fr'=World.dK w b us ty' fr':=by
 simp[World.dK]
theorem oD {w:World}{b:Nat}{vs:Array Value}{ty:TypeId}{fr:Nat×Nat}(h:w.heap[b]?=some (.cells vs ty fr)):World.dK w b vs ty fr=w:=by
 unfold World.dK;have:w.heap.setIfInBounds b (.cells vs ty fr)=w.heap:=by
  apply Array.ext_getElem?;intro i;rw[Array.getElem?_setIfInBounds];by_cases e:b=i
  ·subst e;obtain⟨hb,he⟩:=Array.getElem?_eq_some_iff.1 h;simp[hb,he]
  ·simp[e]
 rw[this]
theorem o4 (w:World)(b:Nat)(vs:Array Value)(ty:TypeId)(fr:Nat×Nat):(World.dK w b vs ty fr).heap.size=w.heap.size:=by
 simp[World.dK]
def over (vs:List Value)(o:Nat)(xs:List Value):List Value:=vs.take o++xs++vs.drop (o+xs.length)
theorem yS (vs:List Value)(o:Nat):over vs o []=vs:=by simp[over]
theorem LF {vs:List Value}{o:Nat}{x:Value}{xs:List Value}(h:o+(x::xs).length<=vs.length):over (vs.set o x) (o+1) xs=over vs o (x::xs):=by
 unfold over;simp only[List.length_cons] at h;apply List.ext_getElem?;intro i;simp only[List.getElem?_append,List.length_append,List.length_take,List.length_set,List.getElem?_take,List.getElem?_drop,List.getElem?_set,List.length_cons];have e1:min (o+1) vs.length=o+1:=by omega
 have e2:min o vs.length=o:=by omega
 rw[e1,e2];by_cases c1:i<o
 ·simp[show i<o+1+xs.length by omega,show i<o+1 by omega,show i<o+(xs.length+1) by omega,c1,show ¬o=i by omega]
 ·by_cases c2:i=o
  ·subst c2;simp[show i<i+1+xs.length by omega,show i<vs.length by omega]
  ·by_cases c3:i<o+1+xs.length
   ·simp[c3,show ¬i<o+1 by omega,show i<o+(xs.length+1) by omega,c1];rw[show i - o=(i - (o+1))+1 by omega];simp
   ·simp[c3,show ¬i<o+(xs.length+1) by omega];rw[if_neg (by omega)];congr 1;omega
theorem Wp {P:Program}{w:World}{a:Addr}{u v:Value}(ho:one v=true)(h:w.cell? a=some u)(hf:w.frozen? a=false):(store a v).run P w=.ok () (w.setCell a v):=by
 cases v<;>simp_all [store,Sem.run,one]
theorem o5 {P:Program}{b o:Nat}{ty:TypeId}{fr:Nat×Nat}(xs:List Value):∀(w:World) (i:Nat) (vs:List Value),(∀x∈xs,one x=true)->w.heap[b]?=some (.cells vs.toArray ty fr)->vB vs.toArray fr->
 o+i+xs.length<=vs.length->(storeCells ⟨b,o,none⟩ xs i).run P w=.ok () (World.dK w b (over vs (o+i) xs).toArray ty fr):=by
 induction xs with
 |nil=>
  intro w i vs _ h _ _
  simp only[storeCells,yS]
  rw[oD h];rfl
 | cons x r ih=>
  intro w i vs ho h ht hl
  have hl':o+i<vs.length:=by simp at hl;omega
  simp only[storeCells,qW]
  have hc:w.cell? ⟨b,o+i,none⟩=some vs[o+i]:=by rw[cell_of h];simp[hl']
  have hf:w.frozen? ⟨b,o+i,none⟩=false:=by
   rw[LD h]
   have:=ht (o+i) (by simpa using hl')
   simp only[Bool.and_eq_false_iff,decide_eq_false_iff_not]
   by_cases h1:fr.1<=o+i
   · right;exactλh2=>this ⟨h1,h2⟩
   · left;exact h1
  rw[iR (Wp (ho x List.mem_cons_self) hc hf),oz h]
  have hb:b<w.heap.size:=(Array.getElem?_eq_some_iff.1 h).1
  have Yv:vs.toArray.setIfInBounds (o+i) x=(vs.set (o+i) x).toArray:=by simp
  rw[Yv,ih _ (i+1) (vs.set (o+i) x) (λy hy=>ho y (List.mem_cons_of_mem _ hy)) (gJ hb _ _ _) (by simpa [vB] using ht) (by simp at hl ⊢;omega)]
  rw[G7,← Nat.add_assoc,LF (by simpa [Nat.add_assoc] using hl)]
theorem kU {P:Program}{w:World}(elem:TypeId)(cells:Array Value):(newRow elem cells).run P w=.ok ⟨w.heap.size,0,none⟩ {w with heap:=w.heap.push (.cells cells elem)}:=by
 rfl
theorem bU {P:jY}{t:TypeId}{ti:TI}(h:bx P t=some ti):
 ∃i,P.prog.info? t=some i/\P.prog.underlying t=some ti.desc/\i.size=ti.size/\i.bytes=ti.bytes/\i.zero.bind valOf=ti.zero/\ti.agg=(match ti.desc with|.struct _|.array _ _=>true|_=>false):=by
 have h:=P.ald _ _ h
 unfold Yn at h
 cases h1:P.prog.info? t<;>cases h2:P.prog.underlying t<;>simp[h1,h2] at h
 subst h
 exact⟨_,rfl,rfl,rfl,rfl,rfl,rfl⟩
theorem aR {P:Program}{t:TypeId}{d:TypeDesc}(h:P.underlying t=some d)(w:World):(underlying t).run P w=.ok d w:=by
 unfold underlying program;simp only[bind,Sem.bind,Sem.run,h];rfl
theorem sC {P:Program}{t:TypeId}{i:TypeInfo}(h:P.info? t=some i)(w:World):(typeInfo t).run P w=.ok i w:=by
 unfold typeInfo program;simp only[bind,Sem.bind,Sem.run,h];rfl
theorem fO {P:jY}{t:TypeId}{ti:TI}(h:bx P t=some ti)(w:World):(sizeOf t).run P w=.ok ti.size w:=by
 obtain⟨i,hi,_,hs,_⟩:=bU h;unfold sizeOf;rw[iR (sC hi w),hs];rfl
theorem LG {P:jY}{t:TypeId}{ti:TI}(h:bx P t=some ti)(w:World):(isAgg t).run P w=.ok ti.agg w:=by
 obtain⟨i,hi,hu,_,_,_,ha⟩:=bU h;unfold isAgg;rw[iR (aR hu w),ha];cases ti.desc<;>rfl
theorem gF {P:jY}{t:TypeId}{ti:TI}{z:TV}(h:bx P t=some ti)(hz:ti.zero=some z)(w:World)(G:Gh):∃v,(zeroValue t).run P w=.ok v w/\VR G z v:=by
 obtain⟨i,hi,_,_,_,h0,_⟩:=bU h;rw[hz] at h0;cases hv:i.zero with
 |none=>rw[hv] at h0;simp at h0
 |some v=>
  rw[hv] at h0
  simp only[Option.bind_some] at h0
  refine⟨v, ?_,yP h0⟩
  unfold zeroValue
  rw[iR (sC hi w),hv];rfl
theorem Wq {v:Value}{x:TV}(h:Bj v=some x):x≠ .any:=by
 rintro rfl;unfold Bj at h;split at h<;>simp at h
theorem Yw (l:List TV):AQ l≠ .any:=by
 unfold AQ;split<;>simp
theorem Yx (l:List TV):sj l≠ .any:=by
 unfold sj;split<;>simp
theorem Yy {v:Value}{x:TV}(h:valOf v=some x):x≠ .any:=by
 unfold valOf at h;split at h
 ·split at h<;>simp at h;subst h;exact Yw _
 ·split at h<;>simp at h;subst h;exact Yx _
 ·exact Wq h
theorem sD {P:jY}{t:TypeId}{ti:TI}{z:TV}(h:bx P t=some ti)(hz:ti.zero=some z):z≠ .any:=by
 obtain⟨i,hi,_,_,_,h0,_⟩:=bU h;rw[hz] at h0;cases hv:i.zero with
 |none=>rw[hv] at h0;simp at h0
 |some v=>
  rw[hv] at h0
  simp only[Option.bind_some] at h0
  exact Yy h0
theorem HA {x:TV}(h:x.cells.all TV.leaf=true):x≠ .any:=by
 rintro rfl;simp[TV.cells,TV.leaf] at h
end Go.Abs
namespace Go.Abs
open Go
def jI (C:ey)(G:Gh):Prop:=∀g cs,C.j8 g=some cs->∃vals:Nat->Value,(∀(j:Nat) c,cs[j]?=some c->G.F g (0+j)=some (vals j))/\∀(j:Nat) c,cs[j]?=some c->VT G.F c (vals j)
theorem jI.mono {C:ey}{G G':Gh}(h:jI C G)(hG:G.le G'):jI C G':=λg cs hg=>
 let⟨vals,h1,h2⟩:=h g cs hg
 ⟨vals,λj c hc=>hG.F _ _ _ (h1 j c hc),λj c hc=>(h2 j c hc).mono hG.F⟩
def SR (G:Gh)(slots:List TV)(a:Act):Prop:=ec G slots a.tmps.toList
theorem qX (G:Gh):VR G dm undef:=.t _ _ (.cF [] [] rfl (by simp))
theorem SR.getD {G:Gh}{slots:List TV}{a:Act}(h:SR G slots a)(t:Nat):VR G (slots.getD t dm) (a.tmps.getD t undef):=by
 by_cases ht:t<slots.length
 ·have ht':t<a.tmps.size:=by have:=h.1;simp at this;omega
  have e1:slots[t]?=some slots[t]:=List.getElem?_eq_getElem ht;have e2:a.tmps.toList[t]?=some a.tmps[t]:=by simp[ht']
  have:=h.2 t _ _ e1 e2;simpa [List.getD,e1,ht'] using this
 ·have ht':¬t<a.tmps.size:=by have:=h.1;simp at this;omega
  have e1:slots[t]?=none:=List.getElem?_eq_none (by omega);simpa [List.getD,e1,ht'] using qX G
theorem cN {C:ey}{G:Gh}{slots:List TV}{a:Act}(hs:SR G slots a)(hg:jI C G){x:Operand}{v:TV}(h:dz C slots x=some v):VR G v (a.eval x):=by
 cases x with
 |tmp t=>simp[dz,MX] at h;subst h;exact hs.getD t
 |const c=>exact yP h
 |global g=>
  simp only[dz] at h
  cases hc:C.j8 g<;>simp[hc] at h
  subst h
  obtain⟨vals,h1,h2⟩:=hg g _ hc
  exact .lM _ 0 g 0 vals h1 h2
 |func f=>simp[dz] at h;subst h;exact .t _ _ (.fn _)
theorem Ag {C:ey}{G:Gh}{slots:List TV}{a:Act}(hs:SR G slots a)(hg:jI C G){xs:List Operand}{vs:List TV}(h:kJ C slots xs=some vs):ec G vs (xs.map a.eval):=by
 induction xs generalizing vs with
 |nil=>simp[kJ] at h;subst h;exact ec.nil G
 |cons x r ih=>
  simp only[kJ] at h
  cases h1:dz C slots x<;>cases h2:kJ C slots r<;>simp[h1,h2] at h
  subst h
  exact ec.cons (cN hs hg h1) (ih h2)
def er (P:Program)(nm:Nm)(o:Oper)(a:Act)(w:World)(G:Gh)(v:TV)(u:List (Nm×aO)):Prop:=
 ∃x w' G',((execOp a.eval o).run P w=.ok (.value x) w'\/((execOp a.eval o).run P w=.ok .skip w'/\x=undef))/\Step (λk=>k∈u.map (·.1)) (λk=>k=nm) G w G' w'/\
  (∀k ob,(k,ob)∈u->G'.dom k/\OR G' w' k ob)/\VR G' v x
theorem er.gK {P:Program}{nm:Nm}{o:Oper}{a:Act}{w w':World}{G G':Gh}{v:TV}{u:List (Nm×aO)}{x:Value}
 (hr:(execOp a.eval o).run P w=.ok (.value x) w')(hs:Step (λk=>k∈u.map (·.1)) (λk=>k=nm) G w G' w')
 (hu:∀k ob,(k,ob)∈u->G'.dom k/\OR G' w' k ob)(hv:VR G' v x):er P nm o a w G v u:=
 ⟨x,w',G',.inl hr,hs,hu,hv⟩
theorem er.HB {P:Program}{nm:Nm}{o:Oper}{a:Act}{w w':World}{G G':Gh}{u:List (Nm×aO)}
 (hr:(execOp a.eval o).run P w=.ok .skip w')(hs:Step (λk=>k∈u.map (·.1)) (λk=>k=nm) G w G' w')
 (hu:∀k ob,(k,ob)∈u->G'.dom k/\OR G' w' k ob):er P nm o a w G dm u:=
 ⟨undef,w',G',.inr ⟨hr,rfl⟩,hs,hu,qX G'⟩
theorem er.quiet {P:Program}{nm:Nm}{o:Oper}{a:Act}{w:World}{G:Gh}{v:TV}{x:Value}(hw:WF G w)
 (hr:(execOp a.eval o).run P w=.ok (.value x) w)(hv:VR G v x):er P nm o a w G v []:=
 er.gK hr (Step.refl hw _ _) (λ_ _ h=>by simp at h) hv
theorem VR.bool {G:Gh}{b:Bool}{v:Value}(h:VR G (.t (.bool b)) v):v=.bool b:=by cases h with|t _ _ h=>cases h;rfl
theorem VR.int {G:Gh}{k:IntKind}{n:Int}{v:Value}(h:VR G (.t (.int k n)) v):v=.int k n:=by cases h with|t _ _ h=>cases h;rfl
theorem VR.str {G:Gh}{s:List UInt8}{v:Value}(h:VR G (.t (.str s)) v):v=.string ⟨s.toArray⟩:=by cases h with|t _ _ h=>cases h;rfl
theorem bytesLess_eq:∀(a b:List UInt8),Op.bytesLess a b=jw a b
 |_,[]=>by cases ‹List UInt8›<;>rfl
 | [],_::_=>rfl
 |a::x,b::y=>by simp only[Op.bytesLess,jw,bytesLess_eq x y]
theorem toList_mk (s:List UInt8):(ByteArray.mk s.toArray).toList=s:=by
 rw[Go.ByteArray.toList_eq]
theorem Yz {P:Program}{G:Gh}{op:BinOp}{s u:List UInt8}{v:TV}(h:Sw op s u=some v)(w:World):
 ∃x,(Op.stringOp op ⟨s.toArray⟩ ⟨u.toArray⟩).run P w=.ok x w/\VR G v x:=by
 cases op<;>simp only[Sw] at h<;>(try (simp at h;done))<;>
  simp only[Op.stringOp,toList_mk,bytesLess_eq]
 case add=>
  split at h
  ·rename_i hle;simp at h;subst h;rw[if_neg]
   ·refine⟨_,rfl, ?_⟩;have e:(ByteArray.mk s.toArray++ByteArray.mk u.toArray)=⟨(s++u).toArray⟩:=by
     apply Go.WideShapes.bytes_inj;simp
    rw[e];exact .t _ _ (.str _)
   ·have e:IntKind.i64.max=9223372036854775807:=by decide
    rw[e];simp only[ByteArray.size,Yp,List.size_toArray] at hle ⊢;omega
  ·simp at h
 all_goals
  simp only[Option.some.injEq] at h;subst h
  exact⟨_,rfl,.t _ _ (.bool _)⟩
section quiet
variable {C:ey}{f:FuncId}{nm:Nm}{H:Heap}{slots:List TV}{o:Oper}{a:Act}{w:World}{G:Gh}{v:TV}{u:List (Nm×aO)}
theorem jx {x:Option TV}(h:Ch x=some (v,u)):x=some v/\u=[]:=by
 cases x<;>simp[Ch] at h;exact⟨by rw[h.1],h.2⟩
theorem yT {op:BinOp}{t:TypeId}{x y:Operand}{b c:TV}{p q:Value}(hb:VR G b p)(hc:VR G c q)(h:wW C.P op t x y b c=some v):
 ∃r,(do eqGuard op t x y p q;binOp op t p q:Sem Value).run C.P w=.ok r w/\VR G v r:=by
 unfold wW at h
 cases h1:lX b<;>cases h2:lX c<;>simp[h1,h2] at h
 rename_i p' q'
 have e1:=oy h1 hb
 have e2:=oy h2 hc
 subst e1;subst e2
 cases h3:eL C.P (do eqGuard op t x y p q;binOp op t p q)<;>simp[h3] at h
 exact⟨_,qV h3 w,yP h⟩
theorem uO {op:BinOp}{t:TypeId}{x y:Operand}{p q:Value}(h:∀z,q≠ .agg z)(h':q≠ .nilIface):eqGuard op t x y p q=pure ():=by
 unfold eqGuard;cases q<;>first
  |(exact absurd rfl (h _))
  |(exact absurd rfl h')
  |(cases op<;>cases p<;>rfl)
theorem iw {t:TypeId}{x y:Operand}{p q:Value}{r:Bool}(hq:∀z,q≠ .agg z)(hq':q≠ .nilIface)(hp1:binOp .eql t p q=do pure (.bool (← Op.equal t p q)))(hp2:binOp .neq t p q=do pure (.bool (!(← Op.equal t p q))))
 (he:(Op.equalIn (9999+1) t p q).run C.P w=.ok r w):
 (do eqGuard .eql t x y p q;binOp .eql t p q:Sem Value).run C.P w=.ok (.bool r) w/\(do eqGuard .neq t x y p q;binOp .neq t p q:Sem Value).run C.P w=.ok (.bool (!r)) w:=by
 have he:(Op.equal t p q).run C.P w=.ok r w:=he
 rw[uO hq hq',uO hq hq',hp1,hp2]
 constructor
 ·show(Sem.bind (Op.equal t p q) _).run C.P w=_;rw[yR he];rfl
 ·show(Sem.bind (Op.equal t p q) _).run C.P w=_;rw[yR he];rfl
section eqs
variable {t e k:TypeId}{ps rs:Array TypeId}{va:Bool}{d:Nat}
theorem Cs (hu:C.P.prog.underlying t=some (.slice e))(b:Option Addr)(n m l c:Nat):(Op.equalIn (d+1) t (.slice b n m) (.slice none l c)).run C.P w=.ok b.isNone w:=by
 simp only[Op.equalIn];rw[iR (aR hu w)];cases b<;>rfl
theorem LH (hu:C.P.prog.underlying t=some (.map k e))(b:Option Nat):(Op.equalIn (d+1) t (.map b) (.map none)).run C.P w=.ok b.isNone w:=by
 simp only[Op.equalIn];rw[iR (aR hu w)];cases b<;>rfl
theorem YA (hu:C.P.prog.underlying t=some (.func ps rs va)):(Op.equalIn (d+1) t .nilFunc .nilFunc).run C.P w=.ok true w:=by
 simp only[Op.equalIn];rw[iR (aR hu w)];rfl
theorem Ph (hu:C.P.prog.underlying t=some (.func ps rs va))(f:Fn)(a b:Array Value):(Op.equalIn (d+1) t (.func f a b) .nilFunc).run C.P w=.ok false w:=by
 simp only[Op.equalIn];rw[iR (aR hu w)];rfl
theorem Es (hu:C.P.prog.underlying t=some (.pointer e))(b:Option Addr):(Op.equalIn (d+1) t (.pointer b) (.pointer none)).run C.P w=.ok b.isNone w:=by
 simp only[Op.equalIn];rw[iR (aR hu w)];cases b<;>rfl
end eqs
theorem LI {t:TypeId}{x y:Operand}{b c:TV}{p q:Value}{ti:TI}{r:Bool}(ht:bx C.P t=some ti)(hb:VR G b p)(hc:VR G c q)(h:Lz ti.desc b c=some r)(w:World):
 (do eqGuard .eql t x y p q;binOp .eql t p q:Sem Value).run C.P w=.ok (.bool r) w/\(do eqGuard .neq t x y p q;binOp .neq t p q:Sem Value).run C.P w=.ok (.bool (!r)) w:=by
 obtain⟨i,hi,hu,_⟩:=bU ht
 unfold Lz at h
 split at h<;>simp only[Option.some.injEq,reduceCtorEq] at h<;>subst h<;>rename_i hd<;>rw[hd] at hu
 ·cases hb;cases hc;exact iw (by intro z;simp) (by simp) rfl rfl (Cs hu none 0 0 0 0)
 ·cases hb with|t _ _ hb=>cases hb with|sl=>cases hc;exact iw (by intro z;simp) (by simp) rfl rfl (Cs hu (some _) _ _ 0 0)
 ·cases hb with|pZ _ _ hb=>cases hb with|sl=>cases hc;exact iw (by intro z;simp) (by simp) rfl rfl (Cs hu (some _) _ _ 0 0)
 ·cases hb with|t _ _ hb=>cases hb;cases hc with|t _ _ hc=>cases hc;exact iw (by intro z;simp) (by simp) rfl rfl (LH hu none)
 ·cases hb;cases hc with|t _ _ hc=>cases hc;exact iw (by intro z;simp) (by simp) rfl rfl (LH hu (some _))
 ·cases hb with|t _ _ hb=>cases hb;cases hc with|t _ _ hc=>cases hc;exact iw (by intro z;simp) (by simp) rfl rfl (YA hu)
 ·cases hb;cases hc with|t _ _ hc=>cases hc;exact iw (by intro z;simp) (by simp) rfl rfl (Ph hu _ _ _)
 ·cases hb with|t _ _ hb=>cases hb;cases hc with|t _ _ hc=>cases hc;exact iw (by intro z;simp) (by simp) rfl rfl (Ph hu _ _ _)
 ·cases hb with|t _ _ hb=>cases hb;cases hc with|t _ _ hc=>cases hc;exact iw (by intro z;simp) (by simp) rfl rfl (Es hu none)
 ·cases hb;cases hc with|t _ _ hc=>cases hc;exact iw (by intro z;simp) (by simp) rfl rfl (Es hu (some _))
 ·cases hb;cases hc with|t _ _ hc=>cases hc;exact iw (by intro z;simp) (by simp) rfl rfl (Es hu (some _))
end quiet
end Go.Abs
namespace Go.Abs
open Go
section
variable {C:ey}{f:FuncId}{nm:Nm}{H:Heap}{slots:List TV}{a:Act}{w:World}{G:Gh}{v:TV}
theorem YB {P:Program}{op:BinOp}{k:IntKind}{n m:Int}(h:Wm op k n m=some v)(t:TypeId)(w:World):
 ∃r,(binOp op t (.int k n) (.int k m)).run P w=.ok r w/\VR G v r:=by
 cases op<;>simp only[Wm] at h<;>first
  |(simp at h;done)
  |(simp only[Option.some.injEq] at h;subst h;exact⟨_,by simp[binOp,Op.intArith,Op.intCmp]<;>rfl,.t _ _ (by first|exact .int _ _|exact .bool _)⟩)
  |( split at h
     · simp at h
     · rename_i h0
       simp only[Option.some.injEq] at h;subst h;exact⟨_,by simp[binOp,Op.intDiv,h0]<;>rfl,.t _ _ (.int _ _)⟩)
theorem YC {op:BinOp}{t:TypeId}{x y:Operand}{b c:TV}{p q:Value}(hb:VR G b p)(hc:VR G c q)(h:vz C.P op t x y b c=some v)(w:World):
 ∃r,(do eqGuard op t x y p q;binOp op t p q:Sem Value).run C.P w=.ok r w/\VR G v r:=by
 unfold vz at h
 split at h
 ·rename_i s u;have e1:=hb.str;have e2:=hc.str;subst e1;subst e2;obtain⟨r,h1,h2⟩:=Yz h w (P:=C.P) (G:=G);refine⟨r, ?_,h2⟩;rw[uO (by intro z;simp) (by simp)];cases op<;>first|exact h1|(simp[Sw] at h)
 ·rename_i k n k' m;split at h;case isFalse=>exact yT hb hc h
  rename_i hk;subst hk;split at h
  ·rename_i v' hv;simp only[Option.some.injEq] at h;subst h;have e1:=hb.int;have e2:=hc.int;subst e1;subst e2;obtain⟨r,h1,h2⟩:=YB (P:=C.P) (G:=G) hv t w;refine⟨r, ?_,h2⟩;rw[uO (by intro z;simp) (by simp)];exact h1
  ·exact yT hb hc h
 ·split at h
  ·split at h
   ·rename_i ti ht;cases hn:Lz ti.desc b c<;>simp[hn] at h;subst h;exact⟨_,(LI ht hb hc hn w).1,.t _ _ (.bool _)⟩
   ·rename_i ti ht;cases hn:Lz ti.desc b c<;>simp[hn] at h;subst h;exact⟨_,(LI ht hb hc hn w).2,.t _ _ (.bool _)⟩
   ·simp at h
  ·exact yT hb hc h
theorem adK {op:UnOp}{b:TV}{p:Value}(hb:VR G b p)(h:unT C.P op b=some v)(w:World):∃r,(Op.unary op p).run C.P w=.ok r w/\VR G v r:=by
 unfold unT at h;cases h1:lX b<;>simp[h1] at h;have e:=oy h1 hb;subst e;cases h2:eL C.P (Op.unary op p)<;>simp[h2] at h;exact⟨_,qV h2 w,yP h⟩
theorem F4 {p:TV}{x:Value}{cs:List TV}{off:Nat}(hH:HR G w H)(hw:WF G w)(hp:VR G p x)(h:wV H p=some (cs,off)):
 ∃b o vs,x=.pointer (some ⟨b,o+off,none⟩)/\ec G cs vs/\∀(j:Nat) u,vs[j]?=some u->w.cell? ⟨b,o+j,none⟩=some u:=by
 unfold wV at h
 split at h
 ·rename_i k o;split at h<;>simp at h;rename_i cs' hk;obtain⟨rfl,rfl⟩:=h;obtain⟨hd,ha,vs,ty,fr,hh,ht,hv,hf⟩:=hH k _ hk;cases hp with|ptr _ _ _ _=>
   refine⟨G.mu k,0,vs.toList,by simp,hv,λj u hu=> ?_⟩
   rw[cell_of hh];simpa using hu
 ·rename_i k n o;split at h
  ·rename_i g cc fz cs' hk;split at h<;>simp at h;rename_i hn;obtain⟨rfl,rfl⟩:=h;obtain⟨hd,he,cap,vs,ty,fr,ha,hh,ht,hs,hl,hv,hf⟩:=hH k _ hk;cases hp with|lK _ _ _ n' YD cap' _ hd' Ct hle ho Bp=>
    rw[ha] at Ct
    simp at Ct
    obtain⟨e1,e2,e3⟩:=Ct
    have hx:=Bp (by omega)
    refine⟨G.mu k,0,vs.toList.take cs'.length,by simpa using hx,hv,λj u hu=> ?_⟩
    rw[cell_of hh]
    rw[List.getElem?_take] at hu
    split at hu
    ·simpa using hu
    ·simp at hu
  ·simp at h
 ·rename_i cs' o;simp at h;obtain⟨rfl,rfl⟩:=h;cases hp with|lM _ _ b o' vals hF hv=>
   refine⟨b,o',(List.range cs'.length).map vals,rfl,⟨by simp,λj c u hc hu=> ?_⟩,λj u hu=> ?_⟩
   ·rw[List.getElem?_map] at hc hu;cases hj:cs'[j]? with
    |none=>rw[hj] at hc;simp at hc
    | some t=>
      rw[hj] at hc;simp at hc;subst hc
      have hlt:j<cs'.length:=(List.getElem?_eq_some_iff.1 hj).1
      simp[hlt] at hu
      subst hu
      exact .t _ _ (hv j t hj)
   ·rw[List.getElem?_map] at hu;by_cases hlt:j<cs'.length
    ·simp[hlt] at hu;subst hu;obtain⟨vs,ty,fr,h1,h2⟩:=hw.F _ _ _ (hF j cs'[j] (List.getElem?_eq_getElem hlt));rw[cell_of h1];exact h2
    ·rw[List.getElem?_eq_none (by simpa using hlt)] at hu;simp at hu
 ·simp at h
theorem Io {t:TypeId}{ti:TI}{cs:List TV}{vs:List Value}{b o off:Nat}(ht:bx C.P t=some ti)(hv:ec G cs vs)(hc:∀(j:Nat) u,vs[j]?=some u->w.cell? ⟨b,o+j,none⟩=some u)
 (h:partT ti.agg ti.size cs off=some v):∃r,(loadVar t ⟨b,o+off,none⟩).run C.P w=.ok r w/\VR G v r:=by
 unfold partT at h
 unfold loadVar
 rw[iR (LG ht w)]
 cases hag:ti.agg<;>rw[hag] at h<;>simp only[Bool.false_eq_true,if_true,if_false] at h ⊢
 ·obtain⟨u,hu,hvu⟩:=hv.at h;refine⟨u, ?_,hvu⟩;exact Pg (hc off u hu)
 ·split at h<;>simp at h;rename_i hle;subst h;have hlen:((vs.drop off).take ti.size).length=ti.size:=by have:=hv.1;simp;omega
  refine⟨.agg ((vs.drop off).take ti.size).toArray, ?_,yO ((hv.drop off).take ti.size)⟩;rw[iR (fO ht w)];have hl:=qO (P:=C.P) (w:=w) (b:=b) (o:=o+off) ((vs.drop off).take ti.size) (λj u hu=>by
   rw[List.getElem?_take] at hu;split at hu
   ·rw[List.getElem?_drop] at hu;rw[Nat.add_assoc];exact hc _ u hu
   ·simp at hu)
  rw[hlen] at hl;rw[iR hl];rfl
theorem Wr {t:TypeId}{p:TV}{x:Value}(hH:HR G w H)(hw:WF G w)(hp:VR G p x)(h:loadT C.P H t p=some v):∃r,(Instr.loadAt t x).run C.P w=.ok r w/\VR G v r:=by
 unfold loadT at h;cases ht:bx C.P t<;>cases hc:wV H p<;>simp[ht,hc] at h;rename_i ti co;obtain⟨cs,off⟩:=co;obtain⟨b,o,vs,rfl,hv,hcell⟩:=F4 hH hw hp hc;exact Io ht hv hcell h
theorem Ip {t:TypeId}{ti:TI}{cs:List TV}{vs:List Value}{off:Nat}(ht:bx C.P t=some ti)(hv:ec G cs vs)
 (h:partT ti.agg ti.size cs off=some v)(w:World):∃r,(part t vs.toArray off).run C.P w=.ok r w/\VR G v r:=by
 unfold partT at h
 unfold part
 rw[iR (LG ht w)]
 cases hag:ti.agg<;>rw[hag] at h<;>simp only[Bool.false_eq_true,if_true,if_false] at h ⊢
 ·obtain⟨u,hu,hvu⟩:=hv.at h;refine⟨u, ?_,hvu⟩;have:vs.toArray[off]?=some u:=by simpa using hu
  rw[this];rfl
 ·split at h<;>simp at h;rename_i hle;subst h;refine⟨.agg ((vs.drop off).take ti.size).toArray, ?_,yO ((hv.drop off).take ti.size)⟩;rw[iR (fO ht w)];have:vs.toArray.extract off (off+ti.size)=((vs.drop off).take ti.size).toArray:=by
   simp[List.extract_eq_take_drop]
  rw[this];rfl
theorem VR.YE {p:TV}{x:Value}(hp:VR G p x)(hx:Eo p=true):∃vs:List Value,x=.agg vs.toArray/\ec G p.cells vs:=by
 cases hp with
 |t y v h=>
  cases h with
  |agg cs vs hl h=>exact⟨vs,rfl,G6.Pe ⟨hl,h⟩⟩
  |_=>simp[Eo] at hx
 |agg cs vs hl h=>exact⟨vs,rfl,hl,h⟩
 |_=>simp[Eo] at hx
theorem LJ {p:TV}{x:Value}{n:Nat}(hH:HR G w H)(hp:VR G p x)(h:sZ H p n=some v):
 ∃b o,x=.pointer (some ⟨b,o,none⟩)/\VR G v (.pointer (some ⟨b,o+n,none⟩)):=by
 unfold sZ at h
 split at h
 ·simp at h;subst h;cases hp with|ptr k o hd hn=>exact⟨_,_,rfl,.ptr _ _ hd hn⟩
 ·rename_i k m o;split at h
  ·rename_i g cc fz cs hk;split at h<;>simp at h;rename_i hm;subst h;obtain⟨hd,he,cap,vs,ty,fr,ha,hh,ht,hs,hl,hv,hf⟩:=hH k _ hk;cases hp with|lK _ _ _ n' YD cap' _ hd' Ct hle ho Bp=>
    rw[ha] at Ct
    simp at Ct
    obtain⟨e1,e2,e3⟩:=Ct
    have hx:=Bp (by omega)
    exact⟨_,_,hx,.lK k m _ cs.length cc cap _ hd ha (by omega) ⟨_,rfl⟩ (λ_=>rfl)⟩
  ·simp at h
 ·simp at h;subst h;cases hp with|lM cs o b o' vals hF hv=>exact⟨b,_,rfl,by rw[Nat.add_assoc];exact .lM _ _ b o' vals hF hv⟩
 ·simp at h
theorem Iq {fd:Field}{ti:TI}{b o:Nat}(ht:bx C.P fd.type=some ti)(hs:ti.size≠0)(w:World):(fieldPlace ⟨b,o,none⟩ fd).run C.P w=.ok ⟨b,o+fd.offset,none⟩ w:=by
 unfold fieldPlace;rw[iR (fO ht w),if_neg hs,qW];rfl
theorem K8 {s:TypeId}{x:Value}{p:TV}{i:Nat}{ti tf:TI}{fs:Array Field}{fd:Field}(hH:HR G w H)(hp:VR G p x)(ht:bx C.P s=some ti)(hd:ti.desc=.struct fs)(hi:fs[i]?=some fd)
 (YF:bx C.P fd.type=some tf)(hs:tf.size≠0)(h:sZ H p fd.offset=some v):∃r,(Instr.fieldAt s x i).run C.P w=.ok r w/\VR G v r:=by
 obtain⟨b,o,rfl,hv⟩:=LJ hH hp h
 refine⟨_, ?_,hv⟩
 obtain⟨_,_,hu,_⟩:=bU ht
 rw[hd] at hu
 simp[Instr.fieldAt,aR hu w,hi,Instr.sureAddr,Iq YF hs w]
theorem Ws {t:TypeId}{x:Value}{p:TV}{i:Nat}{ti tf:TI}{fs:Array Field}{fd:Field}(hp:VR G p x)(ht:bx C.P t=some ti)(hd:ti.desc=.struct fs)(hi:fs[i]?=some fd)
 (YF:bx C.P fd.type=some tf)(hagg:Eo p=true)(h:partT tf.agg tf.size p.cells fd.offset=some v)(w:World):∃r,(Instr.field t x i).run C.P w=.ok r w/\VR G v r:=by
 obtain⟨vs,rfl,hv⟩:=hp.YE hagg
 obtain⟨r,h1,h2⟩:=Ip YF hv h w
 refine⟨r, ?_,h2⟩
 obtain⟨_,_,hu,_⟩:=bU ht
 rw[hd] at hu
 simp[Instr.field,aR hu w,hi,asAgg,h1]
theorem s9 {p:TV}{x:Value}{n:Nat}(hp:VR G p x)(h:iA p=some n):∃k,x=.int k (n:Int):=by
 unfold iA at h;split at h
 ·rename_i k m;split at h<;>simp at h;subst h;have:=hp.int;subst this;exact⟨k,by rw[Int.toNat_of_nonneg (by assumption)]⟩
 ·simp at h
theorem Wt {t:TypeId}{x y:Value}{p q:TV}(hp:VR G p x)(hq:VR G q y)(h:s4 C.P t p q=some v)(w:World):∃r,(Instr.index t x y).run C.P w=.ok r w/\VR G v r:=by
 unfold s4 at h;cases ht:bx C.P t<;>cases hi:iA q<;>simp only[ht,hi,reduceCtorEq] at h;rename_i ti i;obtain⟨k,rfl⟩:=s9 hq hi;obtain⟨_,_,hu,_⟩:=bU ht;split at h
 ·rename_i s hd;have:=hp.str;subst this;rw[hd] at hu;cases hb:s[i]? <;>simp[hb] at h;subst h;refine⟨_, ?_,.t _ _ (.int _ _)⟩;have hs:(ByteArray.mk s.toArray)[i]?=some ‹UInt8›:=by
   obtain⟨h1,h2⟩:=List.getElem?_eq_some_iff.1 hb;rw[getElem?_pos _ _ (by simpa [ByteArray.size] using h1)];have e:(ByteArray.mk s.toArray)[i]'(by simpa [ByteArray.size] using h1)=s[i]:=rfl;rw[e,h2]
  simp[Instr.index,asIntOf,aR hu w,hs]
 ·rename_i len elem hd;cases hte:bx C.P elem<;>simp only[hte,reduceCtorEq] at h;rename_i te;split at h
  ·rename_i hc;obtain⟨h1,h2,h3⟩:=hc;obtain⟨vs,rfl,hv⟩:=hp.YE h3;obtain⟨r,h4,h5⟩:=Ip hte hv h w;refine⟨r, ?_,h5⟩;rw[hd] at hu;simp[Instr.index,asIntOf,aR hu w,h1,fO hte w,h4]
  ·simp at h
 ·simp at h
theorem Pj {x:Value}{p:TV}{i:Nat}(hp:VR G p x)(h:Ih p i=some v)(w:World):∃r,(Instr.extract x i).run C.P w=.ok r w/\VR G v r:=by
 unfold Ih at h;split at h
 ·cases hp with|cF _ vs hl hh=>
   obtain⟨u,h1,h2⟩:=ec.at ⟨hl,hh⟩ h
   refine⟨u, ?_,h2⟩
   have:vs.toArray[i]?=some u:=by simpa using h1
   simp[Instr.extract,this]
 ·rename_i cs;cases hp with|t _ _ ht=>cases ht with|cF _ vs hl hh=>
   obtain⟨u,h1,h2⟩:=ec.at (G6.Pe (G:=G) ⟨hl,hh⟩) (by simpa using h)
   refine⟨u, ?_,h2⟩
   have:vs.toArray[i]?=some u:=by simpa using h1
   simp[Instr.extract,this]
 ·simp at h
theorem Sz {x:Value}{p:TV}{xt t:TypeId}{ok:Bool}(hp:VR G p x)(h:MW C.P p t ok=some v)(w:World):∃r,(Instr.typeAssert x xt t ok).run C.P w=.ok r w/\VR G v r:=by
 unfold MW at h;cases ht:bx C.P t<;>simp only[ht,reduceCtorEq] at h;rename_i ta;obtain⟨_,_,hu,_⟩:=bU ht;have hx:∀t' v',(match p with|.iface t v=>some (t,v)|.t (.iface t v)=>some (t,.t v)|_=>none)=some (t',v')->∃y,x=.iface t' y/\VR G v' y:=by
  intro t' v' he;split at he<;>simp at he
  ·obtain⟨rfl,rfl⟩:=he;cases hp with|iface _ _ y hy=>exact⟨y,rfl,hy⟩
  ·obtain⟨rfl,rfl⟩:=he;cases hp with|t _ _ hy=>cases hy with|iface _ _ y hy=>exact⟨y,rfl,.t _ _ hy⟩
 split at h
 ·simp at h
 ·rename_i t' v' he hni;obtain⟨y,rfl,hy⟩:=hx t' v' he;split at h
  ·rename_i YG;subst YG;simp at h;subst h;refine⟨if ok then .tuple #[y,.bool true] else y, ?_, ?_⟩
   ·unfold Instr.typeAssert;rw[iR (aR hu w)];cases hdd:ta.desc<;>first
     |(exact absurd hdd (hni _))
     |(cases ok<;>simp)
   ·cases ok
    ·exact hy
    ·exact ox (ec.cons hy (ec.one (.t _ _ (.bool true))))
  ·rename_i YG;split at h
   ·rename_i hok;subst hok;cases hz:ta.zero<;>simp[hz] at h;subst h;obtain⟨z,hz1,SA⟩:=gF ht hz w G;refine⟨.tuple #[z,.bool false], ?_,ox (ec.cons SA (ec.one (.t _ _ (.bool false))))⟩;unfold Instr.typeAssert;rw[iR (aR hu w)];cases hdd:ta.desc<;>first
     |(exact absurd hdd (hni _))
     |simp[YG,hz1]
   ·simp at h
 ·simp at h
def sure:Value->Prop
 |.pointer (some _)=>True
 |.func (.func _) _ _=>True
 |_=>False
theorem Pk {x:Value}{p:TV}(hp:VR G p x)(h:Pa p=true):sure x:=by
 unfold Pa at h;split at h<;>simp at h
 ·cases hp;trivial
 ·cases hp with|lK _ _ _ _ _ _ _ _ _ _ ho _=>obtain⟨_,rfl⟩:=ho;trivial
 ·cases hp;trivial
 ·cases hp with|t _ _ hp=>cases hp;trivial
 ·cases hp;trivial
end
end Go.Abs
namespace Go.Abs
open Go
theorem Tree.Ir {x:Tree}(h:x.leaf=true):x.cells=[x]:=by cases x<;>simp_all [Tree.leaf,Tree.cells]
theorem w6 {g:Bool}{size:Nat}:∀{n:Nat} {cs es:List Tree},chunk g size n cs=some es->es.length=n/\flat es=cs/\∀e∈es,e.cells.length=size:=by
 intro n;induction n with
 | zero=>
   intro cs es h
   simp only[chunk] at h
   split at h<;>simp at h
   rename_i hc
   subst h
   simp at hc
   subst hc
   simp[flat]
 | succ n ih =>
   intro cs es h
   simp only[chunk] at h
   split at h
   · rename_i hle
     cases hr:chunk g size n (cs.drop size) with
     |none=>rw[hr] at h;simp at h
     | some r=>
       rw[hr] at h
       simp only at h
       obtain⟨h1,h2,h3⟩:=ih hr
       split at h
       · simp at h;subst h
         refine⟨by simp[h1], ?_,λe he=> ?_⟩
         · simp only[flat,List.flatMap_cons,Tree.cells] at h2 ⊢
           rw[h2,List.take_append_drop]
         · rcases List.mem_cons.1 he with rfl|he
           · simp[Tree.cells,hle]
           · exact h3 e he
       · split at h
         · rename_i c rest
           split at h<;>simp at h
           rename_i hc
           obtain⟨rfl,hl⟩:=hc
           subst h
           refine⟨by simp[h1], ?_,λe he=> ?_⟩
           · simp only[flat,List.flatMap_cons,Tree.Ir hl] at h2 ⊢
             rw[h2];simp
           · rcases List.mem_cons.1 he with rfl|he
             · simp[Tree.Ir hl]
             · exact h3 e he
         · simp at h
   · simp at h
section
variable {G:Gh}{w:World}{H:Heap}
open Classical in
noncomputable def M3 (G:Gh)(w:World)(H:Heap)(ks:List Nm):yL:=λb o=>
 if ∃k,k∈ks/\G.dom k/\∃g e fz cs,H.get k=some (.arr g e fz cs)/\G.mu k=b/\o<cs.length then w.cell? ⟨b,o,none⟩ else G.F b o
noncomputable def Gh.frozen (G:Gh)(w:World)(H:Heap)(ks:List Nm):Gh:={G with F:=M3 G w H ks}
theorem yU (hw:WF G w)(ks:List Nm):∀b o v,G.F b o=some v->M3 G w H ks b o=some v:=by
 intro b o v h;unfold M3;split
 ·obtain⟨vs,ty,fr,h1,h2⟩:=hw.F b o v h;rw[cell_of h1];exact h2
 ·exact h
theorem Is (    hw:WF G w)(hH:HR G w H)(ks:List Nm):∀(n:Nat) (v:TV) (x:Tree) (k0:List Nm) (val:Value),su H n v=some (x,k0)->(∀k∈k0,k∈ks)->VR G v val->VT (M3 G w H ks) x val:=by
 intro n;induction n with
 | zero=>
   intro v x k0 val h hk hv
   cases v<;>simp only[su] at h<;>try (simp at h;done)
   · simp at h;obtain⟨rfl,rfl⟩:=h;exact hv.tree.mono (yU hw ks)
   · simp at h;obtain⟨rfl,rfl⟩:=h;cases hv;exact .Ek _ _
   · simp at h;obtain⟨rfl,rfl⟩:=h;cases hv with|pZ _ _ hv=>exact hv.mono (yU hw ks)
 | succ n ih =>
   have ihs:∀(vs:List TV) (xs:List Tree) (k0:List Nm) (vals:List Value),Ck (su H n) vs=some (xs,k0)->(∀k∈k0,k∈ks)->ec G vs vals->G6 (M3 G w H ks) xs vals:=by
     intro vs
     induction vs with
     |nil=>intro xs k0 vals h _ hv;simp[Ck] at h;obtain⟨rfl,rfl⟩:=h;have:=hv.1;simp at this;subst this;exact G6.nil _
     | cons v r ihr=>
       intro xs k0 vals h hk hv
       obtain⟨u,us,rfl,h1,h2⟩:=hv.j3
       simp only[Ck] at h
       cases h3:su H n v<;>cases h4:Ck (su H n) r<;>simp[h3,h4] at h
       rename_i p q
       obtain⟨rfl,rfl⟩:=h
       exact G6.cons (ih v p.1 p.2 u (by rw[h3]) (λk hk'=>hk k (List.mem_append.2 (.inl hk'))) h1)
         (ihr q.1 q.2 us (by rw[h4]) (λk hk'=>hk k (List.mem_append.2 (.inr hk'))) h2)
   intro v x k0 val h hk hv
   cases v with
   |any=>simp[su] at h
   |t y=>simp only[su] at h;simp at h;obtain⟨rfl,rfl⟩:=h;exact hv.tree.mono (yU hw ks)
   |bX=>simp only[su] at h;simp at h;obtain⟨rfl,rfl⟩:=h;cases hv;exact .Ek _ _
   |pZ es=>simp only[su] at h;simp at h;obtain⟨rfl,rfl⟩:=h;cases hv with|pZ _ _ hv=>exact hv.mono (yU hw ks)
   | ref k off len =>
     simp only[su] at h
     split at h
     · rename_i g cc fz cs hk'
       split at h
       · rename_i hc
         obtain⟨hpos,hlen⟩:=hc
         split at h
         · rename_i ts ks' hts
           split at h
           · rename_i es AV
             simp at h
             obtain⟨rfl,rfl⟩:=h
             obtain⟨hd,he,cap,vs,ty,fr,ha,hh,ht,hs,hl,hvs,hf⟩:=hH k _ hk'
             cases hv with|ref _ _ _ n' YD cap' _ hd' Ct hle ho Bp=>
               rw[ha] at Ct
               simp at Ct
               obtain⟨e1,e2,e3⟩:=Ct
               subst e2;subst e3
               obtain⟨a,rfl,ale⟩:=Bp (by rw[hlen];exact e1)
               obtain⟨c1,c2,c3⟩:=w6 AV
               by_cases hne:es=[]
               · subst hne
                 simp at c1
                 subst c1
                 exact .Ek _ _
               · have UO:len≠0:=by intro e;subst e;exact hne (List.length_eq_zero_iff.1 c1)
                 have hcap:off+len<=cap:=by
                   have:(off+len) *cc<=cap*cc:=by rw[hlen,← hs];exact hl
                   exact Nat.le_of_mul_le_mul_right this hpos
                 rw[ale (by omega),← c1]
                 have hsub:=(hvs.drop (off*cc)).take (len*cc)
                 have hVT:=ihs _ ts ks' _ hts (λk hk2=>hk k (List.mem_cons_of_mem _ hk2)) hsub
                 have htl:ts.length=len*cc:=by
                   have:=hVT.1
                   have h2:=hsub.1
                   simp at h2 this
                   rw[← this,h2]
                   have:(off+len) *cc=off*cc+len*cc:=Nat.add_mul _ _ _
                   omega
                 have hmul:(off+len) *cc=off*cc+len*cc:=Nat.add_mul _ _ _
                 refine .sl cc es (G.mu k) (off*cc) (cap - off) (λj=>vs.toList.getD (off*cc+j) undef) hne (by omega) c3 ?_ ?_
                 · intro j c hj
                   rw[c2] at hj
                   have hjl:j<ts.length:=(List.getElem?_eq_some_iff.1 hj).1
                   have hbound:off*cc+j<cs.length:=by omega
                   unfold M3
                   rw[if_pos ⟨k,hk k List.mem_cons_self,hd,g,cc,fz,cs,hk',rfl,hbound⟩,cell_of hh]
                   have:off*cc+j<vs.size:=by omega
                   simp[List.getD,this]
                 · intro j c hj
                   rw[c2] at hj
                   have hjl:j<ts.length:=(List.getElem?_eq_some_iff.1 hj).1
                   have hbound:off*cc+j<cs.length:=by omega
                   have hvl:off*cc+j<vs.size:=by omega
                   refine hVT.2 j c _ hj ?_
                   rw[List.getElem?_take,if_pos (by omega),List.getElem?_drop,List.getElem?_take,if_pos hbound]
                   simp[List.getD,hvl]
           · simp at h
         · simp at h
       · simp at h
     · simp at h
   | agg cs=>
     simp only[su] at h
     cases h1:Ck (su H n) cs<;>simp[h1] at h
     obtain⟨rfl,rfl⟩:=h
     cases hv with|agg _ vs hl hh=>exact(ihs cs _ _ vs (by rw[h1]) hk ⟨hl,hh⟩).agg
   | cF cs=>
     simp only[su] at h
     cases h1:Ck (su H n) cs<;>simp[h1] at h
     obtain⟨rfl,rfl⟩:=h
     cases hv with|cF _ vs hl hh=>exact(ihs cs _ _ vs (by rw[h1]) hk ⟨hl,hh⟩).cF
   | iface ty y=>
     simp only[su] at h
     cases h1:su H n y<;>simp[h1] at h
     obtain⟨rfl,rfl⟩:=h
     cases hv with|iface _ _ u hu=>exact .iface _ _ _ (ih y _ _ u (by rw[h1]) hk hu)
   | fn f fs cs=>
     cases fs<;>cases cs<;>simp only[su] at h<;>simp at h
     obtain⟨rfl,rfl⟩:=h
     cases hv with|fn _ _ _ vs ws hl _ hl' _=>simp at hl hl';subst hl;subst hl';exact .fn f
   |ptr=>simp[su] at h
   |lK=>simp[su] at h
   |lM=>simp[su] at h
   |map=>simp[su] at h
theorem kL (hw:WF G w)(hH:HR G w H)(ks:List Nm):Step (λk=>k∈ks/\∃g e fz cs,H.get k=some (.arr g e fz cs)) (λ_=>False) G w (G.frozen w H ks) w:=by
 refine⟨⟨yU hw ks,λ_ d=>d,λ_ _ a=>⟨a,rfl⟩,λ_ n e c _ a=>⟨n,e,c,a,Nat.le_refl _,λ_=>⟨rfl,rfl,rfl⟩,.inl rfl⟩⟩,⟨λb o v h=> ?_,hw.inj,hw.lt⟩,λ_ _ _=>⟨rfl,rfl⟩,λb hb hn=>⟨rfl,λo=> ?_⟩,λ_ d=>.inl d,λk d=>.inl ⟨k,d,rfl,.inl rfl⟩,Nat.le_refl _,rfl,rfl,rfl⟩
 ·simp only[Gh.frozen,M3] at h;split at h
  ·unfold World.cell? at h;split at h
   ·rename_i c ty fr hb;simp at h;exact⟨c,ty,fr,hb,h⟩
   ·simp at h
  ·exact hw.F b o v h
 ·simp only[Gh.frozen,M3];rw[if_neg];rintro ⟨k,hk,hd,g,e,fz,cs,h1,h2,h3⟩;exact hn k ⟨hk,g,e,fz,cs,h1⟩ hd ((hH k _ h1).2.alive (by simp)) h2
theorem Pm {H:Heap}{ks:List Nm}{k:Nm}{ob:aO}(h:(k,ob)∈eO H ks):k∈ks/\∃g e fz cs,H.get k=some (.arr g e fz cs)/\ob=.arr g e true cs:=by
 unfold eO at h;rw[List.mem_filterMap] at h;obtain⟨k',hk',h⟩:=h;split at h
 ·rename_i g e fz cs hg;simp at h;obtain⟨rfl,rfl⟩:=h;exact⟨hk',g,e,fz,cs,hg,rfl⟩
 ·simp at h
theorem o6 {H:Heap}{ks:List Nm}{k:Nm}(hk:k∈ks)(h:∃g e fz cs,H.get k=some (.arr g e fz cs)):k∈(eO H ks).map (·.1):=by
 obtain⟨g,e,fz,cs,hg⟩:=h;rw[List.mem_map];refine⟨(k,.arr g e true cs), ?_,rfl⟩;unfold eO;rw[List.mem_filterMap];exact⟨k,hk,by rw[hg]⟩
theorem vV (hw:WF G w)(hH:HR G w H){ks:List Nm}{k:Nm}{ob:aO}(h:(k,ob)∈eO H ks):(G.frozen w H ks).dom k/\OR (G.frozen w H ks) w k ob:=by
 obtain⟨hk,g,e,fz,cs,hg,rfl⟩:=Pm h;obtain⟨hd,he,cap,vs,ty,fr,ha,hh,ht,hs,hl,hv,hf⟩:=hH k _ hg;refine⟨hd,he,cap,vs,ty,fr,ha,hh,ht,hs,hl,hv.mono (kL hw hH ks).le,λo ho=> ?_⟩;rcases ho with ho|ho
 ·simp at ho
 ·simp only[Gh.frozen,M3];rw[if_neg]
  ·exact hf o (.inr ho)
  ·rintro ⟨k',hk',hd',g',e',fz',cs',h1,h2,h3⟩;have:=hw.inj k' k hd' hd ((hH k' _ h1).2.alive (by simp)) (Gh.lC ha he) h2;subst this;rw[hg] at h1;simp at h1;obtain⟨_,_,_,rfl⟩:=h1;omega
end
end Go.Abs
