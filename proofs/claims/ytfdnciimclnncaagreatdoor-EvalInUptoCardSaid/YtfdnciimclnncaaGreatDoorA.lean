/- The abstract interpreter: trees and abstract values, the heap of a call, the operations on them. Program-independent. -/
import Derived.WalkKit
set_option linter.unusedVariables false
set_option linter.unusedSimpArgs false
namespace Go.Abs
open Go
inductive Nm where
 |arg (i:Nat)
 |loc (p:List Nat)
 deriving DecidableEq,Repr,Inhabited
inductive Tree where
 |bool (b:Bool)
 |int (k:IntKind) (n:Int)
 |str (s:List UInt8)
 |sl (es:List Tree)
 |agg (cs:List Tree)
 |cG (vs:List Tree)
 |cN
 |j4
 |uM
 |fn (f:Fn)
 |CJ
 |iface (t:TypeId) (v:Tree)
 deriving Inhabited
inductive TV where
 |t (x:Tree)
 |bX
 |qp (es:List Tree)
 |ref (k:Nm) (off len:Nat)
 |agg (cs:List TV)
 |cG (vs:List TV)
 |ptr (k:Nm) (off:Nat)
 |lR (k:Nm) (n off:Nat)
 |lS (cs:List Tree) (off:Nat)
 |map (k:Nm)
 |fn (f:Fn) (first captured:List TV)
 |iface (t:TypeId) (v:TV)
 |any
 deriving Inhabited
inductive aP where
 |cells (ty:TypeId) (cs:List TV)
 |arr (g:TypeId×Bool) (cc:Nat) (fz:Bool) (cs:List TV)
 |map (es:List (TV×TV×Nat)) (clock:Nat)
 |dead
 deriving Inhabited
abbrev Heap:=List (Nm×aP)
def Heap.get (H:Heap)(k:Nm):Option aP:=
 match H with
 | []=>none
 |(k',o)::r=>if k'=k then some o else Heap.get r k
def Heap.put (H:Heap)(k:Nm)(o:aP):Heap:=
 match H with
 | []=>[(k,o)]
 |(k',o')::r=>if k'=k then(k,o)::r else(k',o')::Heap.put r k o
def Heap.fk (H:Heap)(u:List (Nm×aP)):Heap:=u.foldl (λh p=>h.put p.1 p.2) H
def Tree.cells:Tree->List Tree
 |.agg cs=>cs
 |x=>[x]
def TV.cells:TV->List TV
 |.t (.agg cs)=>cs.map .t
 |.agg cs=>cs
 |v=>[v]
def Tree.leaf:Tree->Bool
 |.agg _=>false
 |.cG _=>false
 |_=>true
def TV.leaf:TV->Bool
 |.t x=>x.leaf
 |.any=>false
 |.agg _=>false
 |.cG _=>false
 |_=>true
def Fk:TV->Bool
 |.t (.agg _)=>true
 |.agg _=>true
 |_=>false
def allT:List TV->Option (List Tree)
 | []=>some []
 |.t x::r=>match allT r with
  |some xs=>some (x::xs)
  |none=>none
 |_::_=>none
def Be (cs:List TV):TV:=
 match allT cs with
 |some ts=>.t (.agg ts)
 |none=>.agg cs
def sF (cs:List TV):TV:=
 match allT cs with
 |some ts=>.t (.cG ts)
 |none=>.cG cs
def dc:TV:=.t (.cG [])
def flat (es:List Tree):List Tree:=es.flatMap Tree.cells
def BD:Value->Option TV
 |.bool b=>some (.t (.bool b))
 |.int k n=>some (.t (.int k n))
 |.string s=>some (.t (.str s.data.toList))
 |.slice none 0 0=>some .bX
 |.pointer none=>some (.t .cN)
 |.map none=>some (.t .j4)
 |.nilFunc=>some (.t .uM)
 |.nilIface=>some (.t .CJ)
 |.func f fs cs=>if fs.isEmpty&&cs.isEmpty then some (.t (.fn f)) else none
 |_=>none
def o6:List Value->Option (List TV)
 | []=>some []
 |v::r=>match BD v,o6 r with
  |some x,some xs=>some (x::xs)
  |_,_=>none
def valOf:Value->Option TV
 |.agg cs=>match o6 cs.toList with
  |some xs=>some (Be xs)
  |none=>none
 |.tuple cs=>match o6 cs.toList with
  |some xs=>some (sF xs)
  |none=>none
 |v=>BD v
def IG:TV->Option Value
 |.t (.bool b)=>some (.bool b)
 |.t (.int k n)=>some (.int k n)
 |.t (.str s)=>some (.string ⟨s.toArray⟩)
 |.bX=>some (.slice none 0 0)
 |.t .cN=>some (.pointer none)
 |.t .j4=>some (.map none)
 |.t .uM=>some .nilFunc
 |.t .CJ=>some .nilIface
 |_=>none
def sJ:List TV->Option (List Value)
 | []=>some []
 |v::r=>match IG v,sJ r with
  |some x,some xs=>some (x::xs)
  |_,_=>none
def II:TV->Option Value
 |.t (.agg cs)=>match sJ (cs.map .t) with
  |some vs=>some (.agg vs.toArray)
  |none=>none
 |.agg cs=>match sJ cs with
  |some vs=>some (.agg vs.toArray)
  |none=>none
 |v=>IG v
def l8:TV->Option Value
 |.t (.iface t x)=>match II (.t x) with
  |some v=>some (.iface t v)
  |none=>none
 |.iface t x=>match II x with
  |some v=>some (.iface t v)
  |none=>none
 |v=>II v
def eP {α:Type}(P:Program):Sem α->Option α
 |.pure a=>some a
 |.program k=>eP P (k P)
 |_=>none
structure TI where
 size:Nat
 bytes:Nat
 agg:Bool
 zero:Option TV
 desc:TypeDesc
def Yv (P:Program)(t:TypeId):Option TI:=
 match P.info? t,P.underlying t with
 |some i,some d=>some {size:=i.size,bytes:=i.bytes,agg:=(match d with|.struct _|.array _ _=>true|_=>false),zero:=i.zero.bind valOf,desc:=d}
 |_,_=>none
structure jZ where
 prog:Program
 ty:TypeId->Option TI
 fn:FuncId->Option Func
 alx:∀t i,ty t=some i->Yv prog t=some i
 Yw:∀f g,fn f=some g->prog.funcs[f]?=some g
instance:Coe jZ Program:=⟨jZ.prog⟩
def bw (P:jZ)(t:TypeId):Option TI:=P.ty t
def partT (agg:Bool)(size:Nat)(cs:List TV)(off:Nat):Option TV:=
 if agg then(if off+size<=cs.length then some (Be ((cs.drop off).take size)) else none) else cs[off]?
def xB (H:Heap):TV->Option (List TV×Nat)
 |.ptr k off=>match H.get k with
  |some (.cells _ cs)=>some (cs,off)
  |_=>none
 |.lR k n off=>match H.get k with
  |some (.arr _ _ _ cs)=>if cs.length=n then some (cs,off) else none
  |_=>none
 |.lS cs off=>some (cs.map .t,off)
 |_=>none
def loadT (P:jZ)(H:Heap)(t:TypeId)(a:TV):Option TV:=
 match bw P t,xB H a with
 |some ti,some (cs,off)=>partT ti.agg ti.size cs off
 |_,_=>none
def dH (cs:List TV)(off:Nat)(vs:List TV):List TV:=cs.take off++vs++cs.drop (off+vs.length)
def storeT (P:jZ)(H:Heap)(t:TypeId)(a x:TV):Option (List (Nm×aP)):=
 match bw P t with
 |none=>none
 | some ti=>
  if x.cells.length=ti.size/\x.cells.all TV.leaf=true then
   match a with
   |.ptr k off=>match H.get k with
    |some (.cells ty cs)=>if off+ti.size<=cs.length then some [(k,.cells ty (dH cs off x.cells))] else none
    |_=>none
   |.lR k n off=>match H.get k with
    |some (.arr g cc false cs)=>if cs.length=n/\off+ti.size<=cs.length then some [(k,.arr g cc false (dH cs off x.cells))] else none
    |_=>none
   |_=>none
  else none
def th (H:Heap)(a:TV)(n:Nat):Option TV:=
 match a with
 |.ptr k o=>some (.ptr k (o+n))
 |.lR k m o=>match H.get k with
  |some (.arr _ _ _ cs)=>if cs.length=m then some (.lR k m (o+n)) else none
  |_=>none
 |.lS cs o=>some (.lS cs (o+n))
 |_=>none
def uN (place:Nat->Option (Nat×Nat))(cells:List TV):List (Nat×TV)->Option (List TV)
 | []=>some cells
 |(i,v)::rest=>
  match place i with
  |none=>none
  |some (off,size)=>if v.cells.length=size/\off+size<=cells.length/\v.cells.all TV.leaf=true then uN place (dH cells off v.cells) rest else none
def l9 (P:jZ)(fs:List Field):Option (List (Nat×Nat)):=
 match fs with
 | []=>some []
 |f::r=>match bw P f.type,l9 P r with
  |some ti,some ps=>some ((f.offset,ti.size)::ps)
  |_,_=>none
def SI (P:jZ)(t:TypeId)(parts:List (Nat×TV)):Option TV:=
 match bw P t with
 |none=>none
 | some ti=>
  match ti.zero,ti.desc with
  | some z,.struct fs=>match l9 P fs.toList with
   |some ps=>match uN (λi=>ps[i]?) z.cells parts with
    |some cs=>some (Be cs)
    |none=>none
   |none=>none
  | some z,.array _ elem=>match bw P elem with
   |some te=>match uN (λi=>some (i*te.size,te.size)) z.cells parts with
    |some cs=>some (Be cs)
    |none=>none
   |none=>none
  |_,_=>none
def chunk (agg:Bool)(size:Nat):Nat->List Tree->Option (List Tree)
 |0,cs=>if cs.isEmpty then some [] else none
 | n+1,cs=>
  if size<=cs.length then
   match chunk agg size n (cs.drop size) with
   |some r=>if agg then some (.agg (cs.take size)::r) else match cs with
    |c::_=>if size=1/\c.leaf=true then some (c::r) else none
    | []=>none
   |none=>none
  else none
def rR (n:Nat)(z:List TV):List TV:=match n with
 |0=>[]
 |n+1=>z++rR n z
def iB:TV->Option Nat
 |.t (.int _ n)=>if 0<=n then some n.toNat else none
 |_=>none
abbrev y8:=Nat->Nat->Option Value
inductive VT (F:y8):Tree->Value->Prop
 |bool (b):VT F (.bool b) (.bool b)
 |int (k n):VT F (.int k n) (.int k n)
 |str (s):VT F (.str s) (.string ⟨s.toArray⟩)
 |Fg (a cap):VT F (.sl []) (.slice a 0 cap)
 | sl (cc es b o cap) (vals:Nat->Value) (hne:es≠ []) (hc:es.length<=cap)
   (hu:∀e∈es,e.cells.length=cc) (hF:∀j c,(flat es)[j]?=some c->F b (o+j)=some (vals j))
   (hv:∀j c,(flat es)[j]?=some c->VT F c (vals j)):VT F (.sl es) (.slice (some ⟨b,o,none⟩) es.length cap)
 |agg (cs) (vs:List Value) (hl:vs.length=cs.length) (h:∀(j:Nat) c v,cs[j]?=some c->vs[j]?=some v->VT F c v):VT F (.agg cs) (.agg vs.toArray)
 |cG (cs) (vs:List Value) (hl:vs.length=cs.length) (h:∀(j:Nat) c v,cs[j]?=some c->vs[j]?=some v->VT F c v):VT F (.cG cs) (.tuple vs.toArray)
 |cN:VT F .cN (.pointer none)
 |j4:VT F .j4 (.map none)
 |uM:VT F .uM .nilFunc
 |fn (f):VT F (.fn f) (.func f #[] #[])
 |CJ:VT F .CJ .nilIface
 |iface (t x v) (h:VT F x v):VT F (.iface t x) (.iface t v)
theorem VT.mono {F F':y8}(hF:∀b o v,F b o=some v->F' b o=some v){x:Tree}{v:Value}(h:VT F x v):VT F' x v:=by
 induction h with
 |bool=>exact .bool _
 |int=>exact .int _ _
 |str=>exact .str _
 |Fg a c=>exact .Fg a c
 |sl e es b o cap vals hne hc hu hf hv ih=>exact .sl e es b o cap vals hne hc hu (λj c h=>hF _ _ _ (hf j c h)) ih
 |agg cs vs hl h ih=>exact .agg cs vs hl ih
 |cG cs vs hl h ih=>exact .cG cs vs hl ih
 |cN=>exact .cN
 |j4=>exact .j4
 |uM=>exact .uM
 |fn=>exact .fn _
 |CJ=>exact .CJ
 |iface t x v h ih=>exact .iface t x v ih
structure Gh where
 F:y8
 mu:Nm->Nat
 arr:Nm->Option (Nat×Nat×Nat)
 dom:Nm->Prop
def one:Value->Bool
 |.agg _=>false
 |.tuple _=>false
 |_=>true
inductive VR (G:Gh):TV->Value->Prop
 |t (x v) (h:VT G.F x v):VR G (.t x) v
 |bX:VR G .bX (.slice none 0 0)
 |qp (es a) (h:VT G.F (.sl es) (.slice a es.length es.length)):VR G (.qp es) (.slice a es.length es.length)
 | ref (k off len n cc cap v) (hd:G.dom k) (ha:G.arr k=some (n,cc,cap)) (hle:(off+len) *cc<=n) (ho:∃a c,v=.slice a len c)
   (hv:(off+len) *cc=n->∃a,v=.slice a len (cap - off)/\(off<cap->a=some ⟨G.mu k,off*cc,none⟩)):VR G (.ref k off len) v
 |agg (cs) (vs:List Value) (hl:vs.length=cs.length) (h:∀(j:Nat) c v,cs[j]?=some c->vs[j]?=some v->VR G c v):VR G (.agg cs) (.agg vs.toArray)
 |cG (cs) (vs:List Value) (hl:vs.length=cs.length) (h:∀(j:Nat) c v,cs[j]?=some c->vs[j]?=some v->VR G c v):VR G (.cG cs) (.tuple vs.toArray)
 |ptr (k off) (hd:G.dom k) (hn:G.arr k=none):VR G (.ptr k off) (.pointer (some ⟨G.mu k,off,none⟩))
 |lR (k n off n' cc cap v) (hd:G.dom k) (ha:G.arr k=some (n',cc,cap)) (hle:n<=n') (ho:∃ad,v=.pointer (some ad)) (hv:n=n'->v=.pointer (some ⟨G.mu k,off,none⟩)):VR G (.lR k n off) v
 | lS (cs off b o) (vals:Nat->Value) (hF:∀j c,cs[j]?=some c->G.F b (o+j)=some (vals j)) (hv:∀j c,cs[j]?=some c->VT G.F c (vals j)):
   VR G (.lS cs off) (.pointer (some ⟨b,o+off,none⟩))
 |map (k) (hd:G.dom k) (hn:G.arr k=none):VR G (.map k) (.map (some (G.mu k)))
 | fn (f fs cs) (vs ws:List Value) (hl:vs.length=fs.length) (h:∀(j:Nat) c v,fs[j]?=some c->vs[j]?=some v->VR G c v)
   (hl':ws.length=cs.length) (h':∀(j:Nat) c v,cs[j]?=some c->ws[j]?=some v->VR G c v):VR G (.fn f fs cs) (.func f vs.toArray ws.toArray)
 |iface (t x v) (h:VR G x v):VR G (.iface t x) (.iface t v)
 |any (v):VR G .any v
structure Gh.le (G G':Gh):Prop where
 F:∀b o v,G.F b o=some v->G'.F b o=some v
 dom:∀k,G.dom k->G'.dom k
 plain:∀k,G.dom k->G.arr k=none->G'.arr k=none/\G'.mu k=G.mu k
 arr:∀k n e c,G.dom k->G.arr k=some (n,e,c)->∃n' e' c',G'.arr k=some (n',e',c')/\n<=n'/\(n=n'->e'=e/\c'=c/\G'.mu k=G.mu k)/\(e'=e\/e'=0)
def Gh.alive (G:Gh)(k:Nm):Prop:=∀n c,G.arr k≠some (n,0,c)
theorem Gh.kY {G:Gh}{k:Nm}(h:G.arr k=none):G.alive k:=λn c e=>by rw[h] at e;cases e
theorem Gh.lH {G:Gh}{k:Nm}{n e c:Nat}(h:G.arr k=some (n,e,c))(he:0<e):G.alive k:=λn' c' x=>by rw[h] at x;cases x;omega
theorem Gh.le.alive {G G':Gh}(h:G.le G'){k:Nm}(d:G.dom k)(ha:G'.alive k):G.alive k:=λn c e=>by
 obtain⟨n',e',c',a,_,_,r⟩:=h.arr k n 0 c d e;rcases r with rfl|rfl<;>exact ha _ _ a
theorem Gh.le.refl (G:Gh):G.le G:=⟨λ_ _ _ h=>h,λ_ h=>h,λ_ _ h=>⟨h,rfl⟩,λ_ n e c _ h=>⟨n,e,c,h,Nat.le_refl _,λ_=>⟨rfl,rfl,rfl⟩,.inl rfl⟩⟩
theorem Gh.le.trans {A B C:Gh}(h:A.le B)(k:B.le C):A.le C:=by
 refine⟨λb o v x=>k.F _ _ _ (h.F _ _ _ x),λx d=>k.dom _ (h.dom _ d),λx d a=> ?_,λx n e c d a=> ?_⟩
 ·obtain⟨a1,m1⟩:=h.plain x d a;obtain⟨a2,m2⟩:=k.plain x (h.dom _ d) a1;exact⟨a2,m2.trans m1⟩
 ·obtain⟨n1,f1,c1,a1,l1,e1,o1⟩:=h.arr x n e c d a;obtain⟨n2,f2,c2,a2,l2,e2,o2⟩:=k.arr x n1 f1 c1 (h.dom _ d) a1;refine⟨n2,f2,c2,a2,Nat.le_trans l1 l2,λe=> ?_, ?_⟩
  ·obtain⟨g1,p1,q1⟩:=e1 (by omega);obtain⟨g2,p2,q2⟩:=e2 (by omega);exact⟨g2.trans g1,p2.trans p1,q2.trans q1⟩
  ·rcases o2 with rfl|rfl
   ·exact o1
   ·exact .inr rfl
theorem VR.mono {G G':Gh}(hG:G.le G'){x:TV}{v:Value}(h:VR G x v):VR G' x v:=by
 induction h with
 |t x v h=>exact .t x v (h.mono hG.F)
 |bX=>exact .bX
 |qp es a h=>exact .qp es a (h.mono hG.F)
 | ref k off len n cc cap v hd ha hle ho hv=>
   obtain⟨n',f',c',a',l',e',o'⟩:=hG.arr k n cc cap hd ha
   refine .ref k off len n' f' c' v (hG.dom _ hd) a' ?_ ho λhh=> ?_
   · rcases o' with rfl|rfl
     · exact Nat.le_trans hle l'
     · rw[Nat.mul_zero];exact Nat.zero_le _
   · have hn:n=n':=by
       rcases o' with rfl|rfl
       · omega
       · rw[Nat.mul_zero] at hh;omega
     obtain⟨r,p,q⟩:=e' hn
     subst r
     obtain⟨a,hva,hb⟩:=hv (by omega)
     rw[p,q]
     exact⟨a,hva,hb⟩
 |agg cs vs hl h ih=>exact .agg cs vs hl ih
 |cG cs vs hl h ih=>exact .cG cs vs hl ih
 | ptr k off hd hn=>
   obtain⟨a,m⟩:=hG.plain k hd hn
   rw[← m]
   exact .ptr k off (hG.dom _ hd) a
 | lR k n off n' cc cap v hd ha hle ho hv=>
   obtain⟨n2,f',c',a',l',e',_⟩:=hG.arr k n' cc cap hd ha
   refine .lR k n off n2 f' c' v (hG.dom _ hd) a' (Nat.le_trans hle l') ho λhh=> ?_
   obtain⟨_,p,q⟩:=e' (by omega)
   rw[hv (by omega),q]
 |lS cs off b o vals hF hv=>exact .lS cs off b o vals (λj c h=>hG.F _ _ _ (hF j c h)) (λj c h=>(hv j c h).mono hG.F)
 | map k hd hn=>
   obtain⟨a,m⟩:=hG.plain k hd hn
   rw[← m]
   exact .map k (hG.dom _ hd) a
 |fn f fs cs vs ws hl h hl' h' ih Pn=>exact .fn f fs cs vs ws hl ih hl' Pn
 |iface t x v h ih=>exact .iface t x v ih
 |any v=>exact .any v
def dU (G:Gh)(cs:List TV)(vs:List Value):Prop:=vs.length=cs.length/\∀(j:Nat) c v,cs[j]?=some c->vs[j]?=some v->VR G c v
theorem dU.mono {G G':Gh}(hG:G.le G'){cs:List TV}{vs:List Value}(h:dU G cs vs):dU G' cs vs:=⟨h.1,λj c v a b=>(h.2 j c v a b).mono hG⟩
theorem dU.nil (G:Gh):dU G [] []:=⟨rfl,by simp⟩
theorem dU.cons {G:Gh}{c:TV}{v:Value}{cs:List TV}{vs:List Value}(h:VR G c v)(hs:dU G cs vs):dU G (c::cs) (v::vs):=by
 refine⟨by simp[hs.1],λj d u hd hu=> ?_⟩;cases j with
 |zero=>simp at hd hu;subst hd;subst hu;exact h
 |succ j=>simp at hd hu;exact hs.2 j d u hd hu
theorem dU.j5 {G:Gh}{c:TV}{cs:List TV}{vs:List Value}(h:dU G (c::cs) vs):∃v vs',vs=v::vs'/\VR G c v/\dU G cs vs':=by
 obtain⟨hl,hp⟩:=h;cases vs with
 |nil=>simp at hl
 |cons v vs'=>
  refine⟨v,vs',rfl,hp 0 c v rfl rfl,by simpa using hl,λj d u hd hu=>hp (j+1) d u (by simpa using hd) (by simpa using hu)⟩
theorem dU.at {G:Gh}{cs:List TV}{vs:List Value}(h:dU G cs vs){j:Nat}{c:TV}(hc:cs[j]?=some c):∃v,vs[j]?=some v/\VR G c v:=by
 have hj:j<cs.length:=(List.getElem?_eq_some_iff.1 hc).1;have hj':j<vs.length:=by rw[h.1];exact hj
 exact⟨vs[j],List.getElem?_eq_getElem hj',h.2 j c _ hc (List.getElem?_eq_getElem hj')⟩
theorem dU.append {G:Gh}{cs ds:List TV}{vs ws:List Value}(h:dU G cs vs)(k:dU G ds ws):dU G (cs++ds) (vs++ws):=by
 refine⟨by simp[h.1,k.1],λj c v hc hv=> ?_⟩;by_cases hj:j<cs.length
 ·rw[List.getElem?_append_left hj] at hc;rw[List.getElem?_append_left (by rw[h.1];exact hj)] at hv;exact h.2 j c v hc hv
 ·rw[List.getElem?_append_right (by omega)] at hc;rw[List.getElem?_append_right (by rw[h.1];omega),h.1] at hv;exact k.2 _ c v hc hv
theorem dU.drop {G:Gh}{cs:List TV}{vs:List Value}(h:dU G cs vs)(n:Nat):dU G (cs.drop n) (vs.drop n):=
 ⟨by simp[h.1],λj c v hc hv=>by rw[List.getElem?_drop] at hc hv;exact h.2 _ c v hc hv⟩
theorem dU.take {G:Gh}{cs:List TV}{vs:List Value}(h:dU G cs vs)(n:Nat):dU G (cs.take n) (vs.take n):=
 ⟨by simp[h.1],λj c v hc hv=>by
  rw[List.getElem?_take] at hc hv
  split at hc
  · rename_i hlt;rw[if_pos hlt] at hv;exact h.2 _ c v hc hv
  · simp at hc⟩
end Go.Abs
noncomputable section
namespace Go.Abs
open Go
def CK (g:TV->Option (Tree×List Nm)):List TV->Option (List Tree×List Nm)
 | []=>some ([],[])
 |v::r=>match g v,CK g r with
  |some (x,ks),some (xs,ks')=>some (x::xs,ks++ks')
  |_,_=>none
def sG (H:Heap):Nat->TV->Option (Tree×List Nm)
 |_,.t x=>some (x,[])
 |_,.bX=>some (.sl [],[])
 |_,.qp es=>some (.sl es,[])
 |0,_=>none
 | n +1,.ref k off len=>match H.get k with
  | some (.arr g cc _ cs)=>
   if 0<cc/\(off+len) *cc=cs.length then
    match CK (sG H n) ((cs.drop (off*cc)).take (len*cc)) with
    |some (ts,ks)=>match chunk g.2 cc len ts with
     |some es=>some (.sl es,k::ks)
     |none=>none
    |none=>none
   else none
  |_=>none
 |n+1,.agg cs=>match CK (sG H n) cs with
  |some (ts,ks)=>some (.agg ts,ks)
  |none=>none
 |n+1,.cG cs=>match CK (sG H n) cs with
  |some (ts,ks)=>some (.cG ts,ks)
  |none=>none
 |n+1,.iface t v=>match sG H n v with
  |some (x,ks)=>some (.iface t x,ks)
  |none=>none
 |_+1,.fn f [] []=>some (.fn f,[])
 |_+1,_=>none
def ji:Nat:=24
def Heap.freeze (H:Heap):List Nm->Heap
 | []=>H
 |k::ks=>match H.get k with
  |some (.arr g cc _ cs)=>Heap.freeze (H.put k (.arr g cc true cs)) ks
  |_=>Heap.freeze H ks
def jx:List UInt8->List UInt8->Bool
 |_,[]=>false
 | [],_::_=>true
 |a::x,b::y=>a<b||(a==b&&jx x y)
def Yx:Nat:=4611686018427387904
def SJ (op:BinOp)(x y:List UInt8):Option TV:=
 match op with
 |.add=>if x.length+y.length<=Yx then some (.t (.str (x++y))) else none
 |.eql=>some (.t (.bool (x==y)))
 |.neq=>some (.t (.bool (!(x==y))))
 |.lss=>some (.t (.bool (jx x y)))
 |.leq=>some (.t (.bool (jx x y||x==y)))
 |.gtr=>some (.t (.bool (!(jx x y||x==y))))
 |.geq=>some (.t (.bool (!(jx x y))))
 |_=>none
def LK (d:TypeDesc)(a b:TV):Option Bool:=
 match d,a,b with
 |.slice _,.bX,.bX=>some true
 |.slice _,.t (.sl (_::_)),.bX=>some false
 |.slice _,.qp (_::_),.bX=>some false
 |.slice _,.ref _ _ _,.bX=>none
 |.map _ _,.t .j4,.t .j4=>some true
 |.map _ _,.map _,.t .j4=>some false
 |.func _ _ _,.t .uM,.t .uM=>some true
 |.func _ _ _,.fn _ _ _,.t .uM=>some false
 |.func _ _ _,.t (.fn _),.t .uM=>some false
 |.pointer _,.t .cN,.t .cN=>some true
 |.pointer _,.ptr _ _,.t .cN=>some false
 |.pointer _,.lS _ _,.t .cN=>some false
 |_,_,_=>none
def xC (P:jZ)(op:BinOp)(t:TypeId)(x y:Operand)(a b:TV):Option TV:=
 match l8 a,l8 b with
 |some u,some v=>match eP P (do eqGuard op t x y u v;binOp op t u v) with
  |some r=>valOf r
  |none=>none
 |_,_=>none
def isNil:TV->Bool
 |.bX=>true
 |.t .j4=>true
 |.t .uM=>true
 |.t .cN=>true
 |_=>false
def Wx (op:BinOp)(k:IntKind)(a b:Int):Option TV:=
 match op with
 |.add=>some (.t (.int k (k.wrap (a+b))))
 |.sub=>some (.t (.int k (k.wrap (a - b))))
 |.mul=>some (.t (.int k (k.wrap (a*b))))
 |.quo=>if b=0 then none else some (.t (.int k (k.wrap (a.tdiv b))))
 |.rem=>if b=0 then none else some (.t (.int k (a.tmod b)))
 |.eql=>some (.t (.bool (a==b)))
 |.neq=>some (.t (.bool (a != b)))
 |.lss=>some (.t (.bool (decide (a<b))))
 |.leq=>some (.t (.bool (decide (a<=b))))
 |.gtr=>some (.t (.bool (decide (a>b))))
 |.geq=>some (.t (.bool (decide (a>=b))))
 |_=>none
def vD (P:jZ)(op:BinOp)(t:TypeId)(x y:Operand)(a b:TV):Option TV:=
 match a,b with
 |.t (.str s),.t (.str u)=>SJ op s u
 |.t (.int k n),.t (.int k' m)=>if k=k' then(match Wx op k n m with|some v=>some v|none=>xC P op t x y (.t (.int k n)) (.t (.int k' m))) else xC P op t x y (.t (.int k n)) (.t (.int k' m))
 | a,b=>
  if isNil b then
   match op,bw P t with
   |.eql,some ti=>(LK ti.desc a b).map λr=>.t (.bool r)
   |.neq,some ti=>(LK ti.desc a b).map λr=>.t (.bool (!r))
   |_,_=>none
  else xC P op t x y a b
def unT (P:jZ)(op:UnOp)(a:TV):Option TV:=
 match l8 a with
 |some u=>match eP P (Op.unary op u) with
  |some r=>valOf r
  |none=>none
 |none=>none
def BE (H:Heap):TV->Option Nat
 |.t (.str s)=>some s.length
 |.t (.sl es)=>some es.length
 |.bX=>some 0
 |.qp es=>some es.length
 |.ref _ _ len=>some len
 |.t .j4=>some 0
 |.map k=>match H.get k with
  |some (.map es _)=>some es.length
  |_=>none
 |_=>none
def kH (H:Heap)(k:Nm)(off len:Nat):Option ((TypeId×Bool)×Nat×Bool×List TV):=
 match H.get k with
 |some (.arr g cc fz cs)=>if 0<cc/\(off+len) *cc=cs.length then some (g,cc,fz,cs) else none
 |_=>none
def fE (P:jZ)(H:Heap)(t:TypeId)(x i:TV):Option TV:=
 match bw P t,iB i with
 | some ti,some i=>
  match ti.desc,x with
  |.slice elem,.t (.sl es)=>match bw P elem,es[i]? with
   |some te,some e=>if e.cells.length=te.size then some (.lS e.cells 0) else none
   |_,_=>none
  |.slice elem,.qp es=>match bw P elem,es[i]? with
   |some te,some e=>if e.cells.length=te.size then some (.lS e.cells 0) else none
   |_,_=>none
  |.slice elem,.ref k off len=>match bw P elem,kH H k off len with
   |some te,some (_,cc,_,cs)=>if te.size=cc/\i<len then some (.lR k cs.length ((off+i) *cc)) else none
   |_,_=>none
  |.array len elem,x=>match bw P elem with
   |some te=>if i<len then th H x (i*te.size) else none
   |none=>none
  |_,_=>none
 |_,_=>none
def tj (P:jZ)(t:TypeId)(x i:TV):Option TV:=
 match bw P t,iB i with
 | some ti,some i=>
  match ti.desc,x with
  |.string,.t (.str s)=>match s[i]? with
   |some b=>some (.t (.int .u8 b.toNat))
   |none=>none
  |.array len elem,x=>match bw P elem with
   |some te=>if i<len/\te.size≠0/\Fk x=true then partT te.agg te.size x.cells (i*te.size) else none
   |none=>none
  |_,_=>none
 |_,_=>none
def gj (o:Option TV)(d:Nat):Option Nat:=
 match o with
 |none=>some d
 |some v=>iB v
def kZ (size:Nat):List Tree->Bool
 | []=>true
 |e::_=>e.cells.length==size
def Wy (tight:Bool)(es:List Tree)(l h:Nat):TV:=if tight then .qp ((es.take h).drop l) else .t (.sl ((es.take h).drop l))
def tq (P:jZ)(H:Heap)(t:TypeId)(x:TV)(lo hi mx:Option TV):Option (TV×List Nm):=
 match bw P t with
 |none=>none
 | some ti=>
  match ti.desc with
  | .string=>match x with
   |.t (.str s)=>match gj lo 0,gj hi s.length,mx with
    |some l,some h,none=>if l<=h/\h<=s.length then some (.t (.str ((s.take h).drop l)),[]) else none
    |_,_,_=>none
   |_=>none
  | .slice elem=>match bw P elem,BE H x with
   | some te,some n=>
    match gj lo 0,gj hi n,gj mx n,(mx.isNone||hi.isSome) with
    | some l,some h,some m,true=>
     if l<=h/\h<=m/\m<=n then
      match x with
      |.bX=>some (.bX,[])
      |.t (.sl es)=>if kZ te.size es=true then some (Wy (mx.isSome&&m==h) es l h,[]) else none
      |.qp es=>if kZ te.size es=true then some (Wy ((mx.isSome&&m==h)||(mx.isNone&&h==n)) es l h,[]) else none
      | .ref k off len=>
       if h=len/\mx.isNone=true then(match kH H k off len with
        |some (_,cc,_,_)=>if cc=te.size then some (.ref k (off+l) (h - l),[]) else none
        |none=>none)
       else match sG H ji (.ref k off len) with
        |some (.sl es,ks)=>if kZ te.size es=true then some (Wy (mx.isSome&&m==h) es l h,ks) else none
        |_=>none
      |_=>none
     else none
    |_,_,_,_=>none
   |_,_=>none
  |_=>none
def BF (P:jZ)(H:Heap)(nm:Nm)(t:TypeId)(x:TV)(lo hi mx:Option TV):Option (TV×List (Nm×aP)):=
 match x,lo,hi,mx with
 | .ref k 0 len,none,some hv,none=>(match bw P t,iB hv,kH H k 0 len with
  | some ti,some h,some (g,cc,false,cs)=>(match ti.desc with
   |.slice elem=>(match bw P elem with
    |some te=>if te.size=cc/\h<=len then some (.ref nm 0 h,[(k,.dead),(nm,.arr g cc false (cs.take (h*cc)))]) else none
    |none=>none)
   |_=>none)
  |_,_,_=>none)
 |_,_,_,_=>none
def Bf (b:Bool)(P:jZ)(H:Heap)(nm:Nm)(t:TypeId)(x:TV)(lo hi mx:Option TV):Option (TV×List (Nm×aP)):=if b=true then BF P H nm t x lo hi mx else none
theorem M0 {b:Bool}{P:jZ}{H:Heap}{nm:Nm}{t:TypeId}{x:Tree}{lo hi mx:Option TV}:Bf b P H nm t (.t x) lo hi mx=none:=by
 cases b<;>rfl
def gK (H:Heap)(g:Bool)(cc:Nat):TV->Option (Nat×List TV)
 |.bX=>some (0,[])
 |.t (.sl es)=>if kZ cc es=true then some (es.length,(flat es).map .t) else none
 |.qp es=>if kZ cc es=true then some (es.length,(flat es).map .t) else none
 |.ref k off len=>match kH H k off len with
  |some (_,e,_,cs)=>if e=cc then some (len,cs.drop (off*cc)) else none
  |none=>none
 |.t (.str s)=>if cc=1/\g=false then some (s.length,s.map λb=>.t (.int .u8 b.toNat)) else none
 |_=>none
def gL:Nat:=70368744177664
def lV (P:jZ)(nm:Nm)(H:Heap)(st xt:TypeId)(s x:TV):Option (TV×List (Nm×aP)):=
 match bw P st,bw P xt with
 | some ti,some tx=>
  match ti.desc,(match tx.desc with|.slice _=>true|.string=>true|_=>false) with
  | .slice elem,true=>match bw P elem with
   | some te=>match te.zero with
    |none=>none
    | some z=>
     if te.size=0\/z.cells.length≠te.size\/te.bytes=0 then none else
     match gK H te.agg te.size x with
     | some (m,cs)=>
      if m=0 then(match s with
       |.bX=>some (.bX,[])
       |.t (.sl es)=>some (.t (.sl es),[])
       |.qp es=>some (.qp es,[])
       |.ref k off len=>if(kH H k off len).isSome=true then some (.ref k off len,[]) else none
       |_=>none)
      else if cs.all TV.leaf=true then
       match s with
       |.bX=>if m*te.bytes<=gL then some (.ref nm 0 m,[(nm,.arr (elem,te.agg) te.size false cs)]) else none
       |.qp es=>match gK H te.agg te.size (.qp es) with
        |some (n,old)=>if(n+m) *te.bytes<=gL then some (.ref nm 0 (n+m),[(nm,.arr (elem,te.agg) te.size false (old++cs))]) else none
        |none=>none
       |.ref k 0 len=>match kH H k 0 len with
        |some (g,e,fz,old)=>if e=te.size/\g.1=elem/\(len+m) *te.bytes<=gL then some (.ref k 0 (len+m),[(k,.arr g e fz (old++cs))]) else none
        |none=>none
       |_=>none
      else none
     |none=>none
   |none=>none
  |_,_=>none
 |_,_=>none
def Yy (P:jZ)(H:Heap)(dt:TypeId)(d x:TV):Option (TV×List (Nm×aP)):=
 match bw P dt with
 | some ti=>match ti.desc with
  | .slice elem=>match bw P elem with
   | some te=>match d,gK H te.agg te.size x with
    |.bX,some _=>some (.t (.int .i64 0),[])
    |.ref k off len,some (m,cs)=>match kH H k off len with
     |some (g,e,false,old)=>if e=te.size/\cs.all TV.leaf=true then some (.t (.int .i64 ((min m len:Nat):Int)),[(k,.arr g e false (dH old (off*e) (cs.take ((min m len) *e))))]) else none
     |_=>none
    |_,_=>none
   |none=>none
  |_=>none
 |none=>none
def BG (P:jZ)(H:Heap)(t:TypeId)(x:TV):Option (TV×List (Nm×aP)):=
 match bw P t with
 | some ti=>match ti.desc with
  | .slice elem=>match bw P elem with
   | some te=>match te.zero,x with
    |some z,.ref k off len=>match kH H k off len with
     |some (g,e,false,old)=>if e=te.size/\z.cells.length=te.size/\z.cells.all TV.leaf=true then some (.t (.cG []),[(k,.arr g e false (dH old (off*e) (rR len z.cells)))]) else none
     |_=>none
    |_,_=>none
   |none=>none
  |_=>none
 |none=>none
def BH (P:jZ)(nm:Nm)(t:TypeId)(len cap:TV):Option (TV×List (Nm×aP)):=
 match bw P t,iB len,iB cap with
 | some ti,some l,some c=>match ti.desc with
  | .slice elem=>match bw P elem with
   |some te=>match te.zero with
    |some z=>if l<=c/\c*te.bytes<=gL/\c<=gL/\0<te.size/\z.cells.length=te.size/\z.cells.all TV.leaf=true then some (.ref nm 0 l,[(nm,.arr (elem,te.agg) te.size false (rR l z.cells))]) else none
    |none=>none
   |none=>none
  |_=>none
 |_,_,_=>none
def U4:TV->TV
 |.qp es=>.t (.sl es)
 |.bX=>.t (.sl [])
 |x=>x
def uO (P:jZ)(lW:Bool)(nm:Nm)(t:TypeId)(len:Nat)(parts:List (Nat×TV)):Option (TV×List (Nm×aP)):=
 match bw P t with
 | some ti=>match ti.desc with
  | .slice elem=>match bw P elem with
   | some te=>match te.zero with
    | some z=>
     if 0<te.size/\len*te.size<=16777216/\z.cells.length=te.size/\z.cells.all TV.leaf=true then
      match uN (λi=>some (i*te.size,te.size)) (rR len z.cells) parts with
      |some cs=>match lW,(allT (cs.map U4)).bind (chunk te.agg te.size len) with
       |false,some es=>some (.qp es,[])
       |_,_=>some (.ref nm 0 len,[(nm,.arr (elem,te.agg) te.size false cs)])
      |none=>none
     else none
    |none=>none
   |none=>none
  |_=>none
 |none=>none
def Po (P:jZ)(kt:TypeId)(d:TypeDesc)(k k':TV):Option Bool:=
 match l8 k,l8 k' with
 | some u,some u'=>
  match d with
  |.struct _=>match u,u' with
   |.agg _,.agg _=>eP P (Op.equal kt u u')
   |_,_=>none
  |d=>Instr.sameNow d u u'
 |_,_=>none
def o7 (P:jZ)(kt:TypeId)(d:TypeDesc)(k:TV):List (TV×TV×Nat)->Nat->Option (Option (Nat×TV×Nat))
 | [],_=>some none
 | (k',v,b)::r,i=>match Po P kt d k k' with
  |some true=>match l8 k,l8 k' with
   |some u,some u'=>if Instr.sameBits 10000 u' u=true then some (some (i,v,b)) else none
   |_,_=>none
  |some false=>o7 P kt d k r (i+1)
  |none=>none
def y9 (P:jZ)(empty:Bool)(kt:TypeId)(k:TV):Bool:=
 match l8 k with
 |some u=>(eP P (Instr.checkKey empty 10000 kt u)).isSome
 |none=>false
def mapOf (H:Heap):TV->Option (List (TV×TV×Nat)×Nat)
 |.map k=>match H.get k with
  |some (.map es c)=>some (es,c)
  |_=>none
 |_=>none
def xD (P:jZ)(H:Heap)(t:TypeId)(x k:TV)(ok:Bool):Option TV:=
 match bw P t with
 | some ti=>match ti.desc with
  | .map kt et=>match bw P kt,bw P et,(match x with|.t .j4=>some ([],0)|x=>mapOf H x) with
   | some tk,some te,some (es,_)=>
    if y9 P es.isEmpty kt k=true then
     match o7 P kt tk.desc k es 0,te.zero with
     |some (some (_,v,_)),_=>some (if ok then sF [v,.t (.bool true)] else v)
     |some none,some z=>some (if ok then sF [z,.t (.bool false)] else z)
     |_,_=>none
    else none
   |_,_,_=>none
  |_=>none
 |none=>none
def k3 (P:jZ)(H:Heap)(t:TypeId)(x k v:TV):Option (List (Nm×aP)):=
 match bw P t,x with
 | some ti,.map m=>match ti.desc,H.get m with
  | .map kt _,some (.map es c)=>match bw P kt with
   | some tk=>
    if y9 P false kt k=true then
     match o7 P kt tk.desc k es 0 with
     |some (some (i,_,b))=>some [(m,.map (es.set i (k,v,b)) c)]
     |some none=>some [(m,.map (es++[(k,v,c)]) (c+1))]
     |none=>none
    else none
   |none=>none
  |_,_=>none
 |_,_=>none
def og (P:jZ)(H:Heap)(t:TypeId)(x k:TV):Option (TV×List (Nm×aP)):=
 match bw P t,x with
 | some ti,.map m=>match ti.desc,H.get m with
  | .map kt et,some (.map es c)=>match bw P kt,bw P et with
   | some tk,some te=>
    if y9 P false kt k=true then
     match o7 P kt tk.desc k es 0,te.zero with
     |some (some (i,v,b)),_=>some (sF [v,.t (.int .i64 b)],[(m,.map (es.set i (k,v,b)) c)])
     |some none,some z=>some (sF [z,.t (.int .i64 c)],[(m,.map (es++[(k,z,c)]) (c+1))])
     |_,_=>none
    else none
   |_,_=>none
  |_,_=>none
 |_,_=>none
def sK:List (TV×TV×Nat)->Int->Nat->Option Nat
 | [],_,_=>none
 |(_,_,b)::r,n,i=>if(b:Int)=n then some i else sK r n (i+1)
def kS (H:Heap)(x s v:TV):Option (List (Nm×aP)):=
 match x,s with
 | .map m,.t (.int _ n)=>match H.get m with
  | some (.map es c)=>match sK es n 0 with
   |some i=>match es[i]? with
    |some (k,_,b)=>some [(m,.map (es.set i (k,v,b)) c)]
    |none=>none
   |none=>none
  |_=>none
 |_,_=>none
def bytesOf:List TV->Option (List UInt8)
 | []=>some []
 |.t (.int .u8 n)::r=>match bytesOf r with
  |some bs=>some (UInt8.ofNat n.toNat::bs)
  |none=>none
 |_::_=>none
def wm (P:jZ)(lW:Bool)(nm:Nm)(H:Heap)(src dst:TypeId)(x:TV):Option (TV×List (Nm×aP)):=
 match bw P src,bw P dst with
 | some ts,some td=>
  match ts.desc,td.desc,x with
  |.string,.string,.t (.str s)=>some (.t (.str s),[])
  | .string,.slice e,.t (.str s)=>match bw P e with
   |some te=>match te.desc with
    |.int .u8=>if lW then some (.ref nm 0 s.length,[(nm,.arr (e,false) 1 false (s.map λb=>.t (.int .u8 b.toNat)))]) else some (.t (.sl (s.map λb=>.int .u8 b.toNat)),[])
    |_=>none
   |none=>none
  | .slice e,.string,x=>match bw P e with
   | some te=>match te.desc,gK H false 1 x with
    |.int .u8,some (_,cs)=>match bytesOf cs with
     |some bs=>(match x with|.t (.str _)=>none|_=>some (.t (.str bs),[]))
     |none=>none
    |_,_=>none
   |none=>none
  |.int _,.int _,.t (.int k n)=>match eP P (convert src dst (.int k n)) with
   |some r=>(valOf r).map λv=>(v,[])
   |none=>none
  |_,_,_=>none
 |_,_=>none
def M1 (P:jZ)(x:TV)(asserted:TypeId)(ok:Bool):Option TV:=
 match bw P asserted with
 | some ta=>match ta.desc,(match x with|.iface t v=>some (t,v)|.t (.iface t v)=>some (t,.t v)|_=>none) with
  |.interface _,_=>none
  |_,some (t,v)=>
   if t=asserted then some (if ok then sF [v,.t (.bool true)] else v)
   else if ok then ta.zero.map λz=>sF [z,.t (.bool false)] else none
  |_,none=>none
 |none=>none
def IJ:TV->Nat->Option TV
 |.cG vs,i=>vs[i]?
 |.t (.cG vs),i=>vs[i]?.map .t
 |_,_=>none
def aic (f:Fn)(first captured:List TV):TV:=if first.isEmpty/\captured.isEmpty then .t (.fn f) else .fn f first captured
def Pp:TV->Bool
 |.ptr _ _=>true
 |.lR _ _ _=>true
 |.lS _ _=>true
 |.t (.fn (.func _))=>true
 |.fn (.func _) _ _=>true
 |_=>false
def eU (H:Heap)(ks:List Nm):List (Nm×aP):=ks.filterMap λk=>match H.get k with
 |some (.arr g e _ cs)=>some (k,.arr g e true cs)
 |_=>none
structure ew where
 P:jZ
 ku:Nat->Option (List Tree)
 lW:FuncId->Tmp->Bool
def adZ (l:List TV):Nat->TV:=
 List.rec (motive:=λ_=>Nat->TV) (λ_=>dc) (λx _ ih n=>Nat.rec (motive:=λ_=>TV) x (λm _=>ih m) n) l
theorem M3:∀(l:List TV) (t:Nat),adZ l t=l.getD t dc:=by
 intro l;induction l with
 |nil=>intro t;rfl
 |cons x r ih=>
  intro t
  cases t with
  |zero=>rfl
  |succ t=>exact(ih t).trans (by simp)
def dr (C:ew)(slots:List TV):Operand->Option TV
 |.tmp t=>some (adZ slots t)
 |.const v=>valOf v
 |.global g=>match C.ku g with
  |some cs=>some (.lS cs 0)
  |none=>none
 |.func f=>some (.t (.fn (.func f)))
def kT (C:ew)(slots:List TV):List Operand->Option (List TV)
 | []=>some []
 |x::r=>match dr C slots x,kT C slots r with
  |some v,some vs=>some (v::vs)
  |_,_=>none
def tu (C:ew)(slots:List TV):List (Nat×Operand)->Option (List (Nat×TV))
 | []=>some []
 |(i,x)::r=>match dr C slots x,tu C slots r with
  |some v,some vs=>some ((i,v)::vs)
  |_,_=>none
def za (C:ew)(slots:List TV):Option Operand->Option (Option TV)
 |none=>some none
 |some x=>(dr C slots x).map some
def CH (v:Option TV):Option (TV×List (Nm×aP)):=v.map λx=>(x,[])
def Bg (u:Option (List (Nm×aP))):Option (TV×List (Nm×aP)):=u.map λx=>(dc,x)
def nC.nM (k:IntKind):List TV->Option (List Int)
 | []=>some []
 |.t (.int k' y)::r=>match nC.nM k r with
  |some ys=>if k'=k then some (y::ys) else none
  |none=>none
 |_::_=>none
def nC (mx:Bool):List TV->Option TV
 |.t (.int k x)::r=>match nC.nM k r with
  |some ys=>some (.t (.int k (ys.foldl (λx y=>if mx then(if y>x then y else x) else(if y<x then y else x)) x)))
  |none=>none
 |_=>none
def nr (C:ew)(nm:Nm)(H:Heap)(b:Builtin)(ats:List TypeId)(args:List TV):Option (TV×List (Nm×aP)):=
 match b,ats,args with
 | .len,[t],[x]=>match bw C.P t with
  |some ti=>match ti.desc with
   |.array n _=>some (.t (.int .i64 n),[])
   |.string=>(match x with|.t (.str s)=>some (.t (.int .i64 s.length),[])|_=>none)
   |.slice _=>(match x with|.t (.str _)=>none|.t .j4=>none|.map _=>none|x=>(BE H x).map λn=>(.t (.int .i64 n),[]))
   |.map _ _=>(match x with|.t .j4=>some (.t (.int .i64 0),[])|.map k=>(BE H (.map k)).map λn=>(.t (.int .i64 n),[])|_=>none)
   |_=>none
  |none=>none
 |.append,[s,t],[x,y]=>lV C.P nm H s t x y
 |.copy,[s,_],[x,y]=>Yy C.P H s x y
 |.clear,[t],[x]=>BG C.P H t x
 |.min,_,xs=>CH (nC false xs)
 |.max,_,xs=>CH (nC true xs)
 | .cap,[t],[.bX]=>match bw C.P t with
  |some ti=>(match ti.desc with
   |.slice _=>some (.t (.int .i64 0),[])
   |_=>none)
  |none=>none
 |_,_,_=>none
def evalOp (C:ew)(f:FuncId)(nm:Nm)(H:Heap)(slots:List TV)(o:Oper):Option (TV×List (Nm×aP)):=
 let ρ:=dr C slots
 match o.op with
 |.move x=>CH (ρ x)
 |.assign x=>CH (ρ x)
 |.pick c a b=>match ρ c,ρ a,ρ b with
  |some (.t (.bool c)),some a,some b=>some (if c then a else b,[])
  |_,_,_=>none
 | .alloc elem=>match bw C.P elem with
  |some ti=>match ti.zero with
   |some z=>if z.cells.all TV.leaf=true then some (.ptr nm 0,[(nm,.cells elem z.cells)]) else none
   |none=>none
  |none=>none
 |.box elem x=>match ρ x with
  |some v=>if v.cells.all TV.leaf=true then some (.ptr nm 0,[(nm,.cells elem v.cells)]) else none
  |none=>none
 |.build t parts=>match tu C slots parts.toList with
  |some ps=>CH (SI C.P t ps)
  |none=>none
 |.buildSlice t len parts=>match tu C slots parts.toList with
  |some ps=>uO C.P (o.dst.any (C.lW f)) nm t len ps
  |none=>none
 |.load t a=>match ρ a with
  |some a=>CH (loadT C.P H t a)
  |none=>none
 |.store t a x=>match ρ a,ρ x with
  |some a,some x=>Bg (storeT C.P H t a x)
  |_,_=>none
 |.nilCheck x=>match ρ x with
  |some v=>if Pp v=true then some (v,[]) else none
  |none=>none
 |.binOp op t x y _=>match ρ x,ρ y with
  |some a,some b=>CH (vD C.P op t x y a b)
  |_,_=>none
 |.unOp op _ x=>match ρ x with
  |some a=>CH (unT C.P op a)
  |none=>none
 |.convert s d x=>match ρ x with
  |some a=>wm C.P (o.dst.any (C.lW f)) nm H s d a
  |none=>none
 | .makeInterface t x=>match ρ x,bw C.P t with
  |some v,some ti=>match ti.desc with
   |.interface _=>none
   |_=>some ((match v with|.t x=>.t (.iface t x)|v=>.iface t v),[])
  |_,_=>none
 |.makeFunc fn first captured=>match kT C slots first.toList,kT C slots captured.toList with
  |some fs,some cs=>some (aic fn fs cs,[])
  |_,_=>none
 |.makeMap t r=>match za C slots r,bw C.P t with
  |some none,some _=>some (.map nm,[(nm,.map [] 0)])
  |_,_=>none
 |.makeSlice t l c=>match ρ l,ρ c with
  |some l,some c=>BH C.P nm t l c
  |_,_=>none
 | .slice t x lo hi mx=>match ρ x,za C slots lo,za C slots hi,za C slots mx with
  | some v,some l,some h,some m=>match Bf (o.dst.any (C.lW f)) C.P H nm t v l h m with
   |some r=>some r
   |none=>match tq C.P H t v l h m with
    |some (r,ks)=>some (r,eU H ks)
    |none=>none
  |_,_,_,_=>none
 | .fieldAddr s x i=>match ρ x,bw C.P s with
  | some a,some ti=>match ti.desc with
   | .struct fs=>match fs[i]? with
    |some fd=>match bw C.P fd.type with
     |some tf=>if tf.size=0 then none else CH (th H a fd.offset)
     |none=>none
    |none=>none
   |_=>none
  |_,_=>none
 | .field t x i=>match ρ x,bw C.P t with
  | some v,some ti=>match ti.desc with
   | .struct fs=>match fs[i]? with
    |some fd=>match bw C.P fd.type with
     |some tf=>if Fk v=true then CH (partT tf.agg tf.size v.cells fd.offset) else none
     |none=>none
    |none=>none
   |_=>none
  |_,_=>none
 |.indexAddr t x i=>match ρ x,ρ i with
  |some v,some j=>CH (fE C.P H t v j)
  |_,_=>none
 |.index t x i=>match ρ x,ρ i with
  |some v,some j=>CH (tj C.P t v j)
  |_,_=>none
 |.lookup t x k ok=>match ρ x,ρ k with
  |some v,some j=>CH (xD C.P H t v j ok)
  |_,_=>none
 |.mapUpdate t m k x=>match ρ m,ρ k,ρ x with
  |some m,some k,some x=>Bg (k3 C.P H t m k x)
  |_,_,_=>none
 |.insert t m k x=>match ρ m,ρ k,ρ x with
  |some m,some k,some x=>Bg (k3 C.P H t m k x)
  |_,_,_=>none
 |.mapEntry t m k=>match ρ m,ρ k with
  |some m,some k=>og C.P H t m k
  |_,_=>none
 |.entryStore _ m s x=>match ρ m,ρ s,ρ x with
  |some m,some s,some x=>Bg (kS H m s x)
  |_,_,_=>none
 |.typeAssert x _ asserted ok=>match ρ x with
  |some v=>CH (M1 C.P v asserted ok)
  |none=>none
 |.extract t i=>match ρ t with
  |some v=>CH (IJ v i)
  |none=>none
 |.call {callee:=.builtin b,args,argTypes}=>match kT C slots args.toList with
  |some vs=>nr C nm H b argTypes.toList vs
  |none=>none
 |_=>none
end Go.Abs
end
noncomputable section
namespace Go.Abs
open Go
mutual
def TV.names:TV->List Nm
 |.t _=>[]
 |.any=>[]
 |.bX=>[]
 |.qp _=>[]
 |.lS _ _=>[]
 |.ref k _ _=>[k]
 |.ptr k _=>[k]
 |.lR k _ _=>[k]
 |.map k=>[k]
 |.agg cs=>TV.k4 cs
 |.cG cs=>TV.k4 cs
 |.fn _ fs cs=>TV.k4 fs++TV.k4 cs
 |.iface _ v=>v.names
def TV.k4:List TV->List Nm
 | []=>[]
 |v::r=>v.names++TV.k4 r
end
def M4:List (TV×TV×Nat)->List Nm
 | []=>[]
 |(k,v,_)::r=>k.names++v.names++M4 r
def aP.names:aP->List Nm
 |.cells _ cs=>TV.k4 cs
 |.arr _ _ _ cs=>TV.k4 cs
 |.map es _=>M4 es
 |.dead=>[]
def reach (H:Heap):Nat->List Nm->List Nm->Option (List Nm)
 |_,done,[]=>some done
 |0,_,_=>none
 | n+1,done,k::todo=>
  if k∈done then reach H n done todo
  else match H.get k with
   |some o=>reach H n (done++[k]) (todo++o.names)
   |none=>none
def iK:Nat:=4000
def idxOf (k:Nm):List Nm->Nat->Option Nat
 | [],_=>none
 |k'::r,i=>if k'=k then some i else idxOf k r (i+1)
mutual
def TV.rn (σ:Nm->Option Nm):TV->Option TV
 |.t x=>some (.t x)
 |.any=>some .any
 |.bX=>some .bX
 |.qp es=>some (.qp es)
 |.lS cs o=>some (.lS cs o)
 |.ref k o l=>(σ k).map λk=>.ref k o l
 |.ptr k o=>(σ k).map λk=>.ptr k o
 |.lR k n o=>(σ k).map λk=>.lR k n o
 |.map k=>(σ k).map .map
 |.agg cs=>(TV.yZ σ cs).map .agg
 |.cG cs=>(TV.yZ σ cs).map .cG
 |.fn f fs cs=>match TV.yZ σ fs,TV.yZ σ cs with
  |some fs,some cs=>some (.fn f fs cs)
  |_,_=>none
 |.iface ty v=>(v.rn σ).map (.iface ty)
def TV.yZ (σ:Nm->Option Nm):List TV->Option (List TV)
 | []=>some []
 |v::r=>match v.rn σ,TV.yZ σ r with
  |some v,some r=>some (v::r)
  |_,_=>none
end
def Yz (σ:Nm->Option Nm):List (TV×TV×Nat)->Option (List (TV×TV×Nat))
 | []=>some []
 |(k,v,b)::r=>match k.rn σ,v.rn σ,Yz σ r with
  |some k,some v,some r=>some ((k,v,b)::r)
  |_,_,_=>none
def aP.rn (σ:Nm->Option Nm):aP->Option aP
 |.cells ty cs=>(TV.yZ σ cs).map (.cells ty)
 |.arr g e fz cs=>(TV.yZ σ cs).map (.arr g e fz)
 |.map es c=>(Yz σ es).map (.map · c)
 |.dead=>some .dead
def Nm.jf:Nm->Bool
 |.loc _=>true
 |.arg _=>false
inductive br where
 |ret (v:TV) (bq:List aP) (news:Heap)
 |panic (v:TV) (bq:List (Option aP))
 deriving Inhabited
abbrev bp:=FuncId->List TV->List aP->Option br
structure St where
 slots:List TV
 H:Heap
 tick:Nat
 deriving Inhabited
inductive aR where
 |normal
 |exit (id:Nat)
 |ret
 |panic (v:TV)
 deriving Inhabited
def ad0 (v:TV)(l:List TV):Nat->List TV:=
 List.rec (motive:=λ_=>Nat->List TV) (λ_=>[]) (λx xs ih n=>Nat.rec (motive:=λ_=>List TV) (v::xs) (λm _=>x::ih m) n) l
theorem qY (v:TV):∀(l:List TV) (t:Nat),ad0 v l t=l.set t v:=by
 intro l;induction l with
 |nil=>intro t;rfl
 |cons x r ih=>
  intro t
  cases t with
  |zero=>rfl
  |succ t=>exact congrArg (x:: ·) (ih t)
def eu (slots:List TV)(dst:Option Tmp)(v:TV):List TV:=
 match dst with
 |some d=>ad0 v slots d
 |none=>slots
def o8 (H:Heap):List TV->List TV×List Nm
 | []=>([],[])
 |v::r=>
  let(vs,ks):=o8 H r
  match sG H ji v with
  |some (x,k)=>(TV.t x::vs,k++ks)
  |none=>(v::vs,ks)
def LL (S:List Nm)(k:Nm):Option Nm:=(idxOf k S 0).map .arg
def nN (S:List Nm)(t:Nat):Nm->Option Nm
 |.arg i=>S[i]?
 |.loc p=>some (.loc (t::p))
def jM (H:Heap)(S:List Nm):List Nm->Option (List aP)
 | []=>some []
 |k::r=>match H.get k,jM H S r with
  |some o,some os=>(o.rn (LL S)).map (· ::os)
  |_,_=>none
def kB (S:List Nm)(t:Nat):List Nm->List aP->Option Heap
 | [],[]=>some []
 |k::r,o::os=>match o.rn (nN S t),kB S t r os with
  |some o,some h=>some ((k,o)::h)
  |_,_=>none
 |_,_=>none
def kC (S:List Nm)(t:Nat):Heap->Option Heap
 | []=>some []
 |(k,o)::r=>match nN S t k,o.rn (nN S t),kC S t r with
  |some k,some o,some h=>some ((k,o)::h)
  |_,_,_=>none
def o9 (S:List Nm)(t:Nat):List Nm->List (Option aP)->Option (Heap×List Nm)
 | [],[]=>some ([],[])
 |k::r,some o::os=>match o.rn (nN S t),o9 S t r os with
  |some o,some (h,ks)=>some ((k,o)::h,ks)
  |_,_=>none
 |k::r,none::os=>match o9 S t r os with
  |some (h,ks)=>some (h,k::ks)
  |none=>none
 |_,_=>none
def Heap.yU (H:Heap)(ks:List Nm):Heap:=H.filter λp=> !(ks.contains p.1)
inductive tv where
 |val (v:TV) (u:Heap)
 |panic (v:TV) (u:Heap) (lost:List Nm)
def Pq (H:Heap)(keep:Bool)(args:List TV):List TV×List Nm:=match keep with
 |true=>(args,[])
 |false=>o8 H args
def Pr (C:ew)(f:FuncId)(o:Oper):Bool:=C.lW f (o.dst.getD 255)
def uP (ev:bp)(H:Heap)(g:FuncId)(args:List TV)(t:Nat)(keep:Bool:=false):Option tv:=
 let(args,ks):=Pq H keep args
 let H1:=H.fk (eU H ks)
 match reach H1 iK [] (TV.k4 args) with
 |none=>none
 | some S=>
  if S.Nodup then
   match TV.yZ (LL S) args,jM H1 S S with
   | some aua,some os=>
    match ev g aua os with
    |some (.ret v os' news)=>match v.rn (nN S t),kB S t S os',kC S t news with
     |some v,some h,some h'=>some (.val v ((eU H ks).filter (λp=> !(S.contains p.1))++h++h'))
     |_,_,_=>none
    |some (.panic v os')=>match v.rn (nN S t),o9 S t S os' with
     |some v,some (h,lost)=>some (.panic v ((eU H ks).filter (λp=> !(S.contains p.1))++h) lost)
     |_,_=>none
    |none=>none
   |_,_=>none
  else none
def lX (C:ew)(slots:List TV)(c:Call):Option (FuncId×List TV):=
 match c.callee with
 |.value fo=>match dr C slots fo,kT C slots c.args.toList with
  |some (.t (.fn (.func g))),some aua=>some (g,aua)
  |some (.fn (.func g) fs cs),some aua=>some (g,fs++aua++cs)
  |_,_=>none
 |_=>none
def M5 (P:jZ)(H:Heap)(t:TypeId)(v:TV)(name:String):Option (FuncId×TV):=
 match(P.prog.info? t).bind (λi=>i.methods.find? (·.name==name)) with
 | some m=>match m.path.isEmpty,m.func,P.prog.underlying t with
  |true,some (f,true),some (.pointer _)=>some (f,v)
  |true,some (f,false),some (.pointer e)=>(match v with
   |.ptr k o=>(match loadT P H e (.ptr k o) with|some x=>some (f,x)|none=>none)
   |_=>none)
  |_,_,_=>none
 |none=>none
def H6 (C:ew)(H:Heap)(slots:List TV)(recv:Operand)(name:String)(args:Array Operand):Option (FuncId×List TV):=
 match dr C slots recv,kT C slots args.toList with
 |some (.iface t v),some aua=>(match M5 C.P H t v name with|some (f,x)=>some (f,x::aua)|none=>none)
 |_,_=>none
def eX (ops:Array Oper)(slots:List TV)(o:Oper):Option Bool:=
 match o.guard with
 |none=>some true
 | some (j,want)=>match(ops[j]?).bind (·.dst) with
  |none=>some false
  |some d=>match slots[d]? with
   |some (.t (.bool b))=>some (b==want)
   |some (.t (.cG []))=>some false
   |none=>some false
   |_=>none
def M6:TV->Option TV
 |.iface t v=>some (.iface t v)
 |.t (.iface t v)=>some (.t (.iface t v))
 |_=>none
def bk (C:ew)(ev:bp)(f:FuncId)(H:Heap)(slots:List TV)(t:Nat)(o:Oper):Option tv:=
 match o.op with
 |.panic x=>match(dr C slots x).bind M6 with
  |some v=>some (.panic v [] [])
  |none=>none
 |.call {callee:=.value fo,args,argTypes}=>match lX C slots {callee:=.value fo,args,argTypes} with
  |some (g,aua)=>uP ev H g aua t (Pr C f o)
  |none=>none
 |.call {callee:=.invoke recv name,args,argTypes}=>match H6 C H slots recv name args with
  |some (g,aua)=>uP ev H g aua t (Pr C f o)
  |none=>none
 |_=>match evalOp C f (.loc [t]) H slots o with
  |some (v,u)=>some (.val v u)
  |none=>none
def HD (C:ew)(ev:bp)(f:FuncId)(ops:Array Oper):List Oper->St->Option (aR×St)
 | [],st=>some (.normal,st)
 | o::r,st=>
  match eX ops st.slots o with
  |none=>none
  |some false=>HD C ev f ops r {st with slots:=eu st.slots o.dst dc,tick:=st.tick+1}
  |some true=>match bk C ev f st.H st.slots st.tick o with
   |none=>none
   |some (.val v u)=>HD C ev f ops r {slots:=eu st.slots o.dst v,H:=st.H.fk u,tick:=st.tick+1}
   |some (.panic v u l)=>some (.panic v,{st with H:=(st.H.yU l).fk u,tick:=st.tick+1})
def SK (C:ew)(H:Heap)(slots:List TV)(o:Oper):Option (List Nm):=
 match o.op with
 |.move _|.assign _|.pick .. |.alloc _|.box .. |.build .. |.buildSlice .. |.nilCheck _|.makeInterface .. |.makeFunc .. |.makeMap .. |.makeSlice .. |.field .. |.extract .. |.typeAssert .. |.panic _|.unOp .. |.binOp .. |.index ..=>some []
 |.fieldAddr _ x _=>match dr C slots x with
  |some (.lR k _ _)=>some [k]
  |_=>some []
 |.store _ p _=>match dr C slots p with
  |some v=>some v.names
  |none=>none
 |.call {callee:=.value fo,args,argTypes}=>match lX C slots {callee:=.value fo,args,argTypes} with
  |some (_,aua)=>reach H iK [] (TV.k4 aua)
  |none=>none
 |.call {callee:=.invoke recv name,args,argTypes}=>match dr C slots recv,kT C slots args.toList with
  |some v,some aua=>reach H iK [] (v.names++TV.k4 aua)
  |_,_=>none
 |op=>match kT C slots op.operands.toList with
  |some vs=>some (TV.k4 vs)
  |none=>none
inductive HE where
 |Aw
 |unwanted
 |val (v:TV) (u:Heap)
 |panic (v:TV) (u:Heap) (lost:List Nm)
structure Rec where
 fp:List Nm
 res:HE
def HE.keys:HE->List Nm
 |.val _ u=>u.map (·.1)
 |.panic _ u l=>u.map (·.1)++l
 |_=>[]
structure xE where
 slots:List TV
 H:Heap
def xE.after (s:xE)(o:Oper):HE->xE
 |.Aw=>s
 |.unwanted=>{s with slots:=eu s.slots o.dst dc}
 |.val v u=>{slots:=eu s.slots o.dst v,H:=s.H.fk u}
 |.panic ..=>s
def mg (i:Nat)(uD:Option Nat):HE->Option Nat
 |.panic ..=>some i
 |_=>uD
def nO (ops:List Oper)(acc:List Nat):List Nat:=
 match ops with
 | []=>acc
 |o::r=>nO r (acc++[o.after.toList.foldl (λs e=>if Region.binds .any e then s|||2 ^ e.on|||acc.getD e.on 0 else s) 0])
def xF:Nat->List Oper->Bool
 |_,[]=>true
 |i,o::r=>o.after.toList.all (λe=> !Region.binds .any e||decide (e.on<i))&&xF (i+1) r
def iD (bs:List Nat)(i j:Nat):Bool:=(bs.getD j 0).testBit i
def kU (L:List Nat):Nat->List TV->List TV
 |_,[]=>[]
 |i,v::r=>(if L.contains i then v else dc)::kU L (i+1) r
def pg (H:Heap)(fp:List Nm):Heap:=fp.filterMap λk=>(H.get k).map (k, ·)
def YA (C:ew)(ev:bp)(f:FuncId)(ops:Array Oper)(bs:List Nat)(t0 i:Nat)(o:Oper)(s:xE)(uD:Option Nat):Option Rec:=
 match(match uD with|some j=>iD bs j i|none=>false) with
 |true=>some ⟨[],.Aw⟩
 | false=>
  match eX ops (kU (o.looksAt ops) 0 s.slots) o with
  |none=>none
  |some false=>some ⟨[],.unwanted⟩
  | some true=>
   match SK C s.H s.slots o with
   |none=>none
   | some fp=>
    match bk C ev f (pg s.H fp) (kU (o.looksAt ops) 0 s.slots) (t0+i) o with
    |none=>none
    |some (.val v u)=>some ⟨fp,.val v u⟩
    |some (.panic v u l)=>match uD with
     |some _=>none
     |none=>some ⟨fp,.panic v u l⟩
def HF (C:ew)(ev:bp)(f:FuncId)(ops:Array Oper)(bs:List Nat)(t0:Nat):Nat->List Oper->xE->Option Nat->Option (List Rec)
 |_,[],_,_=>some []
 | i,o::r,s,uD=>match YA C ev f ops bs t0 i o s uD with
  |none=>none
  |some rec=>match HF C ev f ops bs t0 (i+1) r (s.after o rec.res) (mg i uD rec.res) with
   |some rs=>some (rec::rs)
   |none=>none
def M7 (a b:List Nm):Bool:=a.all λk=> !(b.contains k)
def mh (ops:Array Oper)(x y:Oper):Bool:=
 (match x.dst with
  |some d=> !((y.looksAt ops).contains d)&&y.dst != some d
  |none=>true)&&
 (match y.dst with
  |some d=> !((x.looksAt ops).contains d)
  |none=>true)
def vE (ops:Array Oper)(x y:Oper)(rx ry:Rec):Bool:=
 mh ops x y&&M7 rx.res.keys ry.fp&&M7 rx.res.keys ry.res.keys&&M7 ry.res.keys rx.fp
def CL (ops:Array Oper)(b:Nat)(j:Oper)(rj:Rec):Nat->List Oper->List Rec->Bool
 |i,x::xs,r::rs=>(b.testBit i||vE ops x j r rj)&&CL ops b j rj (i+1) xs rs
 |_,_,_=>true
def oh (ops:Array Oper)(l:List Oper)(recs:List Rec):List Nat->List Oper->List Rec->Nat->Bool
 |b::bs,o::os,r::rs,n=>CL ops b o r 0 (l.take n) (recs.take n)&&oh ops l recs bs os rs (n+1)
 |_,_,_,_=>true
def lY:Nat->List Rec->Option (Nat×TV×Heap×List Nm)
 |_,[]=>none
 |i,r::rs=>match r.res with
  |.panic v u l=>some (i,v,u,l)
  |_=>lY (i+1) rs
def Fl (b:Nat):Nat->List Rec->List Nm
 |_,[]=>[]
 |i,r::rs=>(if b.testBit i then [] else r.res.keys)++Fl b (i+1) rs
def CM:List Oper->List Rec->xE->xE
 |o::os,r::rs,s=>CM os rs (s.after o r.res)
 |_,_,s=>s
def IK (ops:List Oper)(slots:List TV):List TV:=ops.foldl (λs o=>eu s o.dst .any) slots
def Ax (C:ew)(ev:bp)(f:FuncId)(ops:Array Oper)(st:St):Option (aR×St):=
 let l:=ops.toList
 let bs:=nO l []
 match HF C ev f ops bs st.tick 0 l {slots:=st.slots,H:=st.H} none with
 |none=>none
 | some recs=>
  if oh ops l recs bs l recs 0=true/\xF 0 l=true then
   let s:=CM l recs {slots:=st.slots,H:=st.H}
   match lY 0 recs with
   |none=>some (.normal,{slots:=s.slots,H:=s.H,tick:=st.tick+ops.size})
   |some (j,v,u,lost)=>
    some (.panic v,{slots:=IK l st.slots,H:=(s.H.yU (lost++Fl (bs.getD j 0) 0 recs)).fk u,tick:=st.tick+ops.size})
  else none
def IL (body:St->Option (aR×St)):Nat->St->Option (aR×St)
 |0,_=>none
 |n+1,st=>match body st with
  |some (.normal,st')=>IL body n st'
  |r=>r
def evalCode (C:ew)(ev:bp)(f:FuncId)(fuel:Nat):Code->St->Option (aR×St)
 |.skip,st=>some (.normal,st)
 |.label _,st=>some (.normal,st)
 |.region _ ops draw,st=>if draw then Ax C ev f ops st else HD C ev f ops ops.toList st
 |.seq a b,st=>match evalCode C ev f fuel a st with
  |some (.normal,st')=>evalCode C ev f fuel b st'
  |r=>r
 |.cond c a b,st=>match dr C st.slots c with
  |some (.t (.bool true))=>evalCode C ev f fuel a st
  |some (.t (.bool false))=>evalCode C ev f fuel b st
  |_=>none
 |.block id body,st=>match evalCode C ev f fuel body st with
  |some (.exit id',st')=>if id'=id then some (.normal,st') else some (.exit id',st')
  |r=>r
 |.loop body,st=>IL (evalCode C ev f fuel body) fuel st
 |.exit id,st=>some (.exit id,st)
 |.ret,st=>some (.ret,st)
 |_,_=>none
def l5 (C:ew)(st:St):List ResultVar->Option (List TV)
 | []=>some []
 |.tmp t::r=>match l5 C st r with
  |some vs=>some (st.slots.getD t dc::vs)
  |none=>none
 |.cell a t::r=>match loadT C.P st.H t (st.slots.getD a dc),l5 C st r with
  |some v,some vs=>some (v::vs)
  |_,_=>none
def CN:List TV->TV
 | [v]=>v
 |vs=>sF vs
def dw:Nat->List aP->Heap
 |_,[]=>[]
 |i,o::r=>(.arg i,o)::dw (i+1) r
def tA (H:Heap):Nat->Nat->Option (List aP)
 |_,0=>some []
 |i,n+1=>match H.get (.arg i),tA H (i+1) n with
  |some o,some os=>some (o::os)
  |_,_=>none
def uQ (H:Heap):Nat->Nat->List (Option aP)
 |_,0=>[]
 | i,n+1=>(match H.get (.arg i) with
   |some o=>if o.names.any Nm.jf then none else some o
   |none=>none)::uQ H (i+1) n
def pn (H:Heap):List Nm->Option Heap
 | []=>some []
 |k::r=>match pn H r with
  |some h=>if k.jf then(H.get k).map λo=>(k,o)::h else some h
  |none=>none
def finish (C:ew)(fn:Func)(n:Nat)(st:St):Option br:=
 match l5 C st fn.results.toList with
 |none=>none
 | some vs=>
  let v0:=CN vs
  let(v,ks):=match sG st.H ji v0 with
   |some (x,ks)=>(TV.t x,ks)
   |none=>(v0,[])
  let H:=st.H.fk (eU st.H ks)
  match tA H 0 n with
  |none=>none
  |some os=>match reach H iK [] (v.names++os.flatMap aP.names) with
   |none=>none
   |some R=>(pn H R).map λh=>.ret v os h
def Pt (C:ew)(ev:bp)(fuel:Nat)(f:FuncId)(args:List TV)(bq:List aP):Option br:=
 match C.P.fn f with
 |none=>none
 | some fn=>match fn.body with
  |none=>none
  |some body=>
   if fn.name= "runtime.NumGoroutine" then none else
   match evalCode C ev f fuel body {slots:=args++List.replicate (fn.ntmps - args.length) dc,H:=dw 0 bq,tick:=0} with
   |some (.normal,st)=>finish C fn bq.length st
   |some (.ret,st)=>finish C fn bq.length st
   |some (.panic v,st)=>if v.names.any Nm.jf then none else some (.panic v (uQ st.H 0 bq.length))
   |_=>none
abbrev Ext:=FuncId->Option (bp->List TV->List aP->Option br)
def IM (C:ew)(X:Ext):Nat->bp
 |0,_,_,_=>none
 |n+1,f,args,bq=>match X f with
  |some s=>s (IM C X n) args bq
  |none=>Pt C (IM C X n) n f args bq
end Go.Abs
namespace Go.Abs
open Go
def HG (F:y8)(cs:List Tree)(vs:List Value):Prop:=vs.length=cs.length/\∀(j:Nat) c v,cs[j]?=some c->vs[j]?=some v->VT F c v
theorem HG.Pu {G:Gh}{cs:List Tree}{vs:List Value}(h:HG G.F cs vs):dU G (cs.map .t) vs:=by
 refine⟨by simp[h.1],λj c v hc hv=> ?_⟩;rw[List.getElem?_map] at hc;cases hx:cs[j]? with
 |none=>rw[hx] at hc;simp at hc
 |some x=>rw[hx] at hc;simp at hc;subst hc;exact .t x v (h.2 j x v hx hv)
theorem VR.tree {G:Gh}{x:Tree}{v:Value}(h:VR G (.t x) v):VT G.F x v:=by cases h;assumption
theorem dU.YB {G:Gh}{cs:List Tree}{vs:List Value}(h:dU G (cs.map .t) vs):HG G.F cs vs:=by
 refine⟨by have:=h.1;simpa using this,λj c v hc hv=> ?_⟩;exact(h.2 j (.t c) v (by rw[List.getElem?_map,hc];rfl) hv).tree
theorem YC {G:Gh}{x:TV}{v:Value}(h:VR G x v):VR G (U4 x) v:=by
 cases h with
 |bX=>exact .t _ _ (.Fg _ _)
 |qp es a h=>exact .t _ _ h
 |t x v h=>exact .t _ _ h
 |ref k off len n cc cap v a b c d e=>exact .ref k off len n cc cap v a b c d e
 |agg cs vs a b=>exact .agg cs vs a b
 |cG cs vs a b=>exact .cG cs vs a b
 |ptr k off a b=>exact .ptr k off a b
 |lR k n off n' cc cap v a b c d e=>exact .lR k n off n' cc cap v a b c d e
 |lS cs off b o vals c d=>exact .lS cs off b o vals c d
 |map k a b=>exact .map k a b
 |fn f fs cs vs ws a b c d=>exact .fn f fs cs vs ws a b c d
 |iface t x v h=>exact .iface t x v h
 |any v=>exact .any v
theorem Wz {G:Gh}{cs:List TV}{vs:List Value}(h:dU G cs vs):dU G (cs.map U4) vs:=by
 refine⟨by rw[List.length_map];exact h.1,λj c v hc hv=> ?_⟩;rw[List.getElem?_map] at hc;cases hx:cs[j]? with
 |none=>rw[hx] at hc;cases hc
 |some x=>rw[hx] at hc;cases hc;exact YC (h.2 j x v hx hv)
theorem Fm {cs:List TV}{ts:List Tree}(h:allT cs=some ts):cs=ts.map .t:=by
 induction cs generalizing ts with
 |nil=>simp[allT] at h;subst h;rfl
 |cons c r ih=>
  cases c<;>simp only[allT] at h<;>try (simp at h;done)
  rename_i x
  cases hr:allT r with
  |none=>rw[hr] at h;simp at h
  |some xs=>rw[hr] at h;simp at h;subst h;simp[ih hr]
theorem HG.agg {F:y8}{cs:List Tree}{vs:List Value}(h:HG F cs vs):VT F (.agg cs) (.agg vs.toArray):=.agg cs vs h.1 h.2
theorem HG.cG {F:y8}{cs:List Tree}{vs:List Value}(h:HG F cs vs):VT F (.cG cs) (.tuple vs.toArray):=.cG cs vs h.1 h.2
theorem zb {G:Gh}{cs:List TV}{vs:List Value}(h:dU G cs vs):VR G (Be cs) (.agg vs.toArray):=by
 unfold Be;cases ha:allT cs with
 |none=>exact .agg cs vs h.1 h.2
 |some ts=>have:=Fm ha;subst this;exact .t _ _ h.YB.agg
theorem pz {G:Gh}{cs:List TV}{vs:List Value}(h:dU G cs vs):VR G (sF cs) (.tuple vs.toArray):=by
 unfold sF;cases ha:allT cs with
 |none=>exact .cG cs vs h.1 h.2
 |some ts=>have:=Fm ha;subst this;exact .t _ _ h.YB.cG
theorem VT.leaf {F:y8}{x:Tree}{v:Value}(h:VT F x v)(hx:x.leaf=true):one v=true:=by
 cases h<;>simp_all [Tree.leaf,one]
theorem VR.leaf {G:Gh}{x:TV}{v:Value}(h:VR G x v)(hx:x.leaf=true):one v=true:=by
 cases h with
 |t x v h=>exact h.leaf hx
 |ref k off len n cc cap v hd ha hle ho hv=>obtain⟨_,_,rfl⟩:=ho;rfl
 |lR k n off n' cc cap v hd ha hle ho hv=>obtain⟨_,rfl⟩:=ho;rfl
 |_=>simp_all [TV.leaf,one]
theorem LM {v:Value}(h:one v=true):v.cells= #[v]:=by cases v<;>simp_all [one,Value.cells]
theorem dU.one {G:Gh}{x:TV}{v:Value}(h:VR G x v):dU G [x] [v]:=dU.cons h (dU.nil G)
theorem VR.cells {G:Gh}{x:TV}{v:Value}(h:VR G x v)(hx:x≠ .any):dU G x.cells v.cells.toList:=by
 cases h with
 |any=>exact absurd rfl hx
 |t x v h=>
  cases h with
  |agg cs vs hl h=>exact HG.Pu ⟨hl,h⟩
  |cG cs vs hl h=>exact dU.one (.t _ _ (.cG cs vs hl h))
  |bool=>exact dU.one (.t _ _ (.bool _))
  |int=>exact dU.one (.t _ _ (.int _ _))
  |str=>exact dU.one (.t _ _ (.str _))
  |Fg=>exact dU.one (.t _ _ (.Fg _ _))
  |sl e es b o cap vals h1 h2 h3 h4 h5=>exact dU.one (.t _ _ (.sl e es b o cap vals h1 h2 h3 h4 h5))
  |cN=>exact dU.one (.t _ _ .cN)
  |j4=>exact dU.one (.t _ _ .j4)
  |uM=>exact dU.one (.t _ _ .uM)
  |fn=>exact dU.one (.t _ _ (.fn _))
  |CJ=>exact dU.one (.t _ _ .CJ)
  |iface t x v h=>exact dU.one (.t _ _ (.iface t x v h))
 |bX=>exact dU.one .bX
 |qp es a h=>exact dU.one (.qp es a h)
 |ref k off len n cc cap v hd ha hle ho hv=>rw[LM (by obtain⟨_,_,rfl⟩:=ho;rfl)];exact dU.one (.ref k off len n cc cap v hd ha hle ho hv)
 |agg cs vs hl h=>exact⟨hl,h⟩
 |cG cs vs hl h=>exact dU.one (.cG cs vs hl h)
 |ptr k off hd hn=>exact dU.one (.ptr k off hd hn)
 |lR k n off n' cc cap v hd ha hle ho hv=>rw[LM (by obtain⟨_,rfl⟩:=ho;rfl)];exact dU.one (.lR k n off n' cc cap v hd ha hle ho hv)
 |lS cs off b o vals hF hv=>exact dU.one (.lS cs off b o vals hF hv)
 |map k hd hn=>exact dU.one (.map k hd hn)
 |fn f fs cs vs ws hl h hl' h'=>exact dU.one (.fn f fs cs vs ws hl h hl' h')
 |iface t x v h=>exact dU.one (.iface t x v h)
theorem HG.nil (F:y8):HG F [] []:=⟨rfl,by simp⟩
theorem HG.cons {F:y8}{c:Tree}{v:Value}{cs:List Tree}{vs:List Value}(h:VT F c v)(hs:HG F cs vs):HG F (c::cs) (v::vs):=by
 refine⟨by simp[hs.1],λj d u hd hu=> ?_⟩;cases j with
 |zero=>simp at hd hu;subst hd;subst hu;exact h
 |succ j=>simp at hd hu;exact hs.2 j d u hd hu
theorem VT.cells {F:y8}{x:Tree}{v:Value}(h:VT F x v):HG F x.cells v.cells.toList:=by
 cases h<;>first
  |(rename_i cs vs hl h;exact⟨hl,h⟩)
  |exact HG.cons (by first|assumption|(constructor;done)|(constructor<;>assumption)) (HG.nil F)
theorem LN {G:Gh}{v:Value}{x:TV}(h:BD v=some x):VR G x v:=by
 unfold BD at h;split at h<;>simp at h<;>(try subst h)
 ·exact .t _ _ (.bool _)
 ·exact .t _ _ (.int _ _)
 ·rename_i s;have:(Value.string s)=.string ⟨s.data.toList.toArray⟩:=by simp
  rw[this];exact .t _ _ (.str _)
 ·exact .bX
 ·exact .t _ _ .cN
 ·exact .t _ _ .j4
 ·exact .t _ _ .uM
 ·exact .t _ _ .CJ
 ·obtain⟨⟨h1,h2⟩,h3⟩:=h;subst h3;subst h1;subst h2;exact .t _ _ (.fn _)
theorem CO {G:Gh}{vs:List Value}{xs:List TV}(h:o6 vs=some xs):dU G xs vs:=by
 induction vs generalizing xs with
 |nil=>simp[o6] at h;subst h;exact dU.nil G
 |cons v r ih=>
  simp only[o6] at h
  cases h1:BD v<;>cases h2:o6 r<;>simp[h1,h2] at h
  subst h
  exact dU.cons (LN h1) (ih h2)
theorem zf {G:Gh}{v:Value}{x:TV}(h:valOf v=some x):VR G x v:=by
 unfold valOf at h;split at h
 ·rename_i cs;cases h1:o6 cs.toList<;>simp[h1] at h;subst h;have:=zb (CO (G:=G) h1);simpa using this
 ·rename_i cs;cases h1:o6 cs.toList<;>simp[h1] at h;subst h;have:=pz (CO (G:=G) h1);simpa using this
 ·exact LN h
theorem Pv {G:Gh}{x:TV}{u v:Value}(h:IG x=some u)(hr:VR G x v):v=u:=by
 cases hr with
 |t x v ht=>cases ht<;>simp[IG] at h<;>exact h
 |bX=>simp[IG] at h;exact h
 |_=>simp[IG] at h
theorem IP {G:Gh}{xs:List TV}{us vs:List Value}(h:sJ xs=some us)(hr:dU G xs vs):vs=us:=by
 induction xs generalizing us vs with
 |nil=>simp[sJ] at h;subst h;have:=hr.1;simpa using this
 |cons x r ih=>
  obtain⟨v,vs',rfl,h1,h2⟩:=hr.j5
  simp only[sJ] at h
  cases h3:IG x<;>cases h4:sJ r<;>simp[h3,h4] at h
  subst h
  rw[Pv h3 h1,ih h4 h2]
theorem IQ {G:Gh}{x:TV}{u v:Value}(h:II x=some u)(hr:VR G x v):v=u:=by
 unfold II at h;split at h
 ·rename_i cs;cases h1:sJ (cs.map .t)<;>simp[h1] at h;subst h;cases hr with|t _ _ ht=>cases ht with|agg _ vs hl hh=>
   rw[IP h1 (HG.Pu (G:=G) ⟨hl,hh⟩)]
 ·rename_i cs;cases h1:sJ cs<;>simp[h1] at h;subst h;cases hr with|agg _ vs hl hh=>rw[IP h1 ⟨hl,hh⟩]
 ·exact Pv h hr
theorem pE {G:Gh}{x:TV}{u v:Value}(h:l8 x=some u)(hr:VR G x v):v=u:=by
 unfold l8 at h;split at h
 ·rename_i t x;cases h1:II (.t x)<;>simp[h1] at h;subst h;cases hr with|t _ _ ht=>cases ht with|iface _ _ w hw=>rw[IQ (G:=G) h1 (.t _ _ hw)]
 ·rename_i t x;cases h1:II x<;>simp[h1] at h;subst h;cases hr with|iface _ _ w hw=>rw[IQ h1 hw]
 ·exact IQ h hr
theorem ru {α:Type}{P:Program}{s:Sem α}{a:α}(h:eP P s=some a)(w:World):s.run P w=.ok a w:=by
 induction s with
 |pure x=>simp[eP] at h;subst h;rfl
 |program k ih=>simp only[eP] at h;exact ih P h
 |_=>simp[eP] at h
def vF (vs:Array Value)(fr:Nat×Nat):Prop:=∀o,o<vs.size->¬(fr.1<=o/\o<fr.2)
def MR (G:Gh):List (TV×TV×Nat)->List MapEntry->Prop
 | [],[]=>True
 |(k,v,b)::r,e::es=>VR G k e.key/\VR G v e.val/\e.born=b/\MR G r es
 |_,_=>False
def OR (G:Gh)(w:World)(k:Nm):aP->Prop
 |.cells Lf cs=>G.arr k=none/\∃vs ty fr,w.heap[G.mu k]?=some (.cells vs ty fr)/\(vF vs fr/\ty=Lf)/\dU G cs vs.toList/\∀o,G.F (G.mu k) o=none
 | .arr g cc fz cs=>0<cc/\∃cap vs ty fr,G.arr k=some (cs.length,cc,cap)/\w.heap[G.mu k]?=some (.cells vs ty fr)/\(vF vs fr/\ty=g.1)/\vs.size=cap*cc/\cs.length<=vs.size/\
   dU G cs (vs.toList.take cs.length)/\∀o,(fz=false\/cs.length<=o)->G.F (G.mu k) o=none
 |.map es c=>G.arr k=none/\∃ck,w.heap[G.mu k]?=some (.map ck c)/\MR G es ck.toList/\∀o,G.F (G.mu k) o=none
 |.dead=>True
structure WF (G:Gh)(w:World):Prop where
 F:∀b o v,G.F b o=some v->∃vs ty fr,w.heap[b]?=some (.cells vs ty fr)/\vs[o]?=some v
 inj:∀k k',G.dom k->G.dom k'->G.alive k->G.alive k'->G.mu k=G.mu k'->k=k'
 lt:∀k,G.dom k->G.mu k<w.heap.size
def HR (G:Gh)(w:World)(H:Heap):Prop:=∀k o,H.get k=some o->G.dom k/\OR G w k o
structure Step (W N:Nm->Prop)(G:Gh)(w:World)(G':Gh)(w':World):Prop where
 le:G.le G'
 wf:WF G' w'
 same:∀k,G.dom k->¬W k->G'.mu k=G.mu k/\G'.arr k=G.arr k
 blocks:∀b,b<w.heap.size->(∀k,W k->G.dom k->G.alive k->G.mu k≠b)->w'.heap[b]?=w.heap[b]? /\∀o,G'.F b o=G.F b o
 news:∀k,G'.dom k->G.dom k\/N k
 fresh:∀k,G'.dom k->(∃k0,G.dom k0/\G'.mu k=G.mu k0/\(k0=k\/(W k0/\G.alive k0)))\/w.heap.size<=G'.mu k
 size:w.heap.size<=w'.heap.size
 os:w'.os=w.os
 tape:w'.tape=w.tape
 output:w'.output=w.output
theorem Step.refl {G:Gh}{w:World}(hw:WF G w)(W N:Nm->Prop):Step W N G w G w:=
 ⟨.refl G,hw,λ_ _ _=>⟨rfl,rfl⟩,λ_ _ _=>⟨rfl,λ_=>rfl⟩,λ_ h=>.inl h,λk h=>.inl ⟨k,h,rfl,.inl rfl⟩,Nat.le_refl _,rfl,rfl,rfl⟩
theorem Step.mono {W N W' N':Nm->Prop}{G G':Gh}{w w':World}(h:Step W N G w G' w')(hW:∀k,G.dom k->W k->W' k)(hN:∀k,N k->N' k):Step W' N' G w G' w':=
 ⟨h.le,h.wf,λk d n=>h.same k d (λx=>n (hW k d x)),λb hb hn=>h.blocks b hb (λk hk d=>hn k (hW k d hk) d),λk d=>(h.news k d).imp id (hN k),λk d=>(h.fresh k d).imp (λ⟨k0,a,b,c⟩=>⟨k0,a,b,c.imp id λx=>⟨hW k0 a x.1,x.2⟩⟩) id,h.size,h.os,h.tape,h.output⟩
theorem Step.trans {W N W' N':Nm->Prop}{A B C:Gh}{u v w:World}(h:Step W N A u B v)(k:Step W' N' B v C w):
 Step (λx=>W x\/W' x) (λx=>N x\/N' x) A u C w:=by
 refine⟨h.le.trans k.le,k.wf,λx d n=> ?_,λb hb hn=> ?_,λx d=> ?_,λx d=> ?_,Nat.le_trans h.size k.size,k.os.trans h.os,k.tape.trans h.tape,k.output.trans h.output⟩
 ·obtain⟨a1,a2⟩:=h.same x d (λy=>n (.inl y));obtain⟨b1,b2⟩:=k.same x (h.le.dom _ d) (λy=>n (.inr y));exact⟨b1.trans a1,b2.trans a2⟩
 ·obtain⟨a1,a2⟩:=h.blocks b hb (λx hx d=>hn x (.inl hx) d);obtain⟨b1,b2⟩:=k.blocks b (Nat.lt_of_lt_of_le hb h.size) (λx hx d=>by
   intro al;rcases h.fresh x d with ⟨k0,d0,e,rfl|⟨hw,a0⟩⟩|e
   ·rw[e];exact hn k0 (.inr hx) d0 (h.le.alive d0 al)
   ·rw[e];exact hn k0 (.inl hw) d0 a0
   ·omega)
  exact⟨b1.trans a1,λo=>(b2 o).trans (a2 o)⟩
 ·rcases k.news x d with d|d
  ·exact(h.news x d).imp id .inl
  ·exact .inr (.inr d)
 ·rcases k.fresh x d with ⟨k1,d1,e1,o1⟩|e1
  ·rcases h.fresh k1 d1 with ⟨k0,d0,e0,o0⟩|e0
   ·refine .inl ⟨k0,d0,e1.trans e0, ?_⟩;rcases o0 with rfl|⟨w0,a0⟩
    ·rcases o1 with rfl|⟨w1,a1⟩
     ·exact .inl rfl
     ·exact .inr ⟨.inr w1,h.le.alive d0 a1⟩
    ·exact .inr ⟨.inl w0,a0⟩
   ·exact .inr (by rw[e1];exact e0)
  ·exact .inr (Nat.le_trans h.size e1)
theorem MR.mono {G G':Gh}(hG:G.le G'){es:List (TV×TV×Nat)}{ck:List MapEntry}(h:MR G es ck):MR G' es ck:=by
 induction es generalizing ck with
 |nil=>cases ck<;>simp_all [MR]
 | cons e r ih=>
  obtain⟨k,v,b⟩:=e
  cases ck with
  |nil=>simp[MR] at h
  |cons x xs=>
   simp only[MR] at h ⊢
   exact⟨h.1.mono hG,h.2.1.mono hG,h.2.2.1,ih h.2.2.2⟩
theorem OR.alive {G:Gh}{w:World}{k:Nm}{o:aP}(h:OR G w k o)(hd:o≠ .dead):G.alive k:=by
 cases o with
 |cells ty cs=>exact Gh.kY h.1
 |arr g e fz cs=>obtain⟨he,cap,_,_,_,ha,_⟩:=h;exact Gh.lH ha he
 |map es c=>exact Gh.kY h.1
 |dead=>exact absurd rfl hd
theorem Step.keeps {W N:Nm->Prop}{G G':Gh}{w w':World}(h:Step W N G w G' w')(hw:WF G w){k:Nm}(hk:G.dom k)(hn:¬W k){o:aP}(ho:OR G w k o):OR G' w' k o:=by
 by_cases ag8:o=.dead
 ·subst ag8;trivial
 have ak:=ho.alive ag8;obtain⟨em,ea⟩:=h.same k hk hn;obtain⟨hb,hF⟩:=h.blocks (G.mu k) (hw.lt k hk) (λx hx dx ax e=>hn (by rw[← hw.inj x k dx hk ax ak e];exact hx));cases o with
 |cells Lf cs=>
  obtain⟨ha,vs,ty,fr,hh,ht,hv,hf⟩:=ho
  exact⟨by rw[ea];exact ha,vs,ty,fr,by rw[em,hb];exact hh,ht,hv.mono h.le,λo=>by rw[em,hF];exact hf o⟩
 |arr g cc fz cs=>
  obtain⟨he,cap,vs,ty,fr,ha,hh,ht,hs,hl,hv,hf⟩:=ho
  exact⟨he,cap,vs,ty,fr,by rw[ea];exact ha,by rw[em,hb];exact hh,ht,hs,hl,hv.mono h.le,λo ho=>by rw[em,hF];exact hf o ho⟩
 |map es c=>
  obtain⟨ha,ck,hh,hv,hf⟩:=ho
  exact⟨by rw[ea];exact ha,ck,by rw[em,hb];exact hh,hv.mono h.le,λo=>by rw[em,hF];exact hf o⟩
 |dead=>trivial
theorem Heap.CP (H:Heap)(k k':Nm)(o:aP):(H.put k o).get k'=if k=k' then some o else H.get k':=by
 induction H with
 |nil=>simp only[Heap.put,Heap.get]
 | cons p r ih=>
   obtain⟨k0,o0⟩:=p
   simp only[Heap.put]
   by_cases h:k0=k
   · subst h
     simp only[if_true,Heap.get]
     split<;>rfl
   · simp only[if_neg h,Heap.get,ih]
     by_cases h2:k0=k'
     · subst h2
       rw[if_pos rfl,if_neg (λe=>h e.symm),if_pos rfl]
     · rw[if_neg h2,if_neg h2]
theorem Heap.wo (H:Heap)(u:List (Nm×aP))(k:Nm)(o:aP)(h:(H.fk u).get k=some o):
 (k,o)∈u\/(H.get k=some o/\k∉u.map (·.1)):=by
 unfold Heap.fk at h
 induction u generalizing H with
 |nil=>exact .inr ⟨h,by simp⟩
 | cons p r ih=>
   simp only[List.foldl_cons] at h
   rcases ih (H.put p.1 p.2) h with h|⟨h,hn⟩
   · exact .inl (List.mem_cons_of_mem _ h)
   · rw[Heap.CP] at h
     split at h
     · rename_i e;simp at h;subst h;subst e;exact .inl List.mem_cons_self
     · rename_i e;exact .inr ⟨h,by simp only[List.map_cons,List.mem_cons,not_or];exact⟨λx=>e x.symm,hn⟩⟩
theorem Heap.get_filter (H:Heap)(q:Nm->Bool)(k:Nm):Heap.get (H.filter λp=>q p.1) k=if q k=true then H.get k else none:=by
 induction H with
 |nil=>simp[Heap.get]
 | cons p r ih=>
   obtain⟨k0,o0⟩:=p
   simp only[List.filter_cons]
   by_cases h:q k0=true
   · simp only[h,if_true,Heap.get,ih]
     by_cases e:k0=k
     · subst e;simp[h]
     · simp[e]
   · simp only[h,Heap.get]
     by_cases e:k0=k
     · subst e;simp[ih,h]
     · simp[e,ih]
theorem Heap.zg (H:Heap)(ks:List Nm)(k:Nm):(H.yU ks).get k=if k∈ks then none else H.get k:=by
 unfold Heap.yU;rw[Heap.get_filter H (λk=> !(ks.contains k)) k];by_cases h:k∈ks<;>simp[h]
theorem HR.fk {W N:Nm->Prop}{G G':Gh}{w w':World}{H:Heap}{u:List (Nm×aP)}(h:Step W N G w G' w')(hw:WF G w)(hH:HR G w H)
 (hu:∀k o,(k,o)∈u->G'.dom k/\OR G' w' k o)(hW:∀k,G.dom k->W k->k∈u.map (·.1)):HR G' w' (H.fk u):=by
 intro k o hk
 rcases Heap.wo H u k o hk with h1|⟨h1,hn⟩
 ·exact hu k o h1
 ·obtain⟨d,ho⟩:=hH k o h1;exact⟨h.le.dom _ d,h.keeps hw d (λx=>hn (hW k d x)) ho⟩
theorem zh {α β:Type}{P:Program}{s:Sem α}{f:α->Sem β}{w w':World}{a:α}(h:s.run P w=.ok a w'):(s.bind f).run P w=(f a).run P w':=by
 induction s generalizing w with
 |pure x=>simp[Sem.run] at h;obtain⟨rfl,rfl⟩:=h;rfl
 | load m x k ih=>
   simp only[Sem.bind,Sem.run] at h ⊢
   split at h
   · exact ih _ h
   · split at h
     · exact ih _ h
     · simp at h
 | store m x v k ih=>
   cases v<;>simp only[Sem.bind,Sem.run] at h ⊢<;>first
     |(simp at h;done)
     |( split at h
        · split at h
          · simp at h
          · rename_i hf;rw[if_neg hf];exact ih h
        · split at h
          · exact ih h
          · simp at h)
 |new o k ih=>exact ih _ h
 |shape r k ih=>exact ih _ h
 |freeze x n k ih=>exact ih h
 |frozen x k ih=>exact ih _ h
 | getObj r k ih=>
   simp only[Sem.bind,Sem.run] at h ⊢
   split at h
   · simp at h
   · exact ih _ h
   · simp at h
 | setObj r o k ih=>
   simp only[Sem.bind,Sem.run] at h ⊢
   split at h
   · simp at h
   · exact ih h
   · simp at h
 | choose q k ih=>
   simp only[Sem.bind,Sem.run] at h ⊢
   split at h
   · rename_i hf;rw[if_pos hf];exact ih _ h
   · rename_i hf;rw[if_neg hf];exact ih _ h
 |sys c k ih=>exact ih _ h
 |program k ih=>exact ih _ h
 |mark m k ih=>exact ih h
 |halt x=>simp[Sem.run] at h
theorem iU {α β:Type}{P:Program}{s:Sem α}{f:α->Sem β}{w w':World}{a:α}(h:s.run P w=.ok a w'):(s>>=f).run P w=(f a).run P w':=zh h
theorem rz (b o n:Nat):(Addr.add ⟨b,o,none⟩ n)=⟨b,o+n,none⟩:=by
 unfold Addr.add;split
 ·rename_i h;subst h;rfl
 ·rfl
theorem cell_of {w:World}{b:Nat}{vs:Array Value}{ty:TypeId}{fr:Nat×Nat}(h:w.heap[b]?=some (.cells vs ty fr))(o:Nat):w.cell? ⟨b,o,none⟩=vs[o]?:=by
 simp[World.cell?,h]
theorem LO {w:World}{b:Nat}{vs:Array Value}{ty:TypeId}{fr:Nat×Nat}(h:w.heap[b]?=some (.cells vs ty fr))(o:Nat):w.frozen? ⟨b,o,none⟩=(decide (fr.1<=o)&&decide (o<fr.2)):=by
 simp[World.frozen?,h]
theorem Pw {P:Program}{w:World}{a:Addr}{v:Value}(h:w.cell? a=some v):(load a).run P w=.ok v w:=by
 simp[load,Sem.run,h]
theorem CQ {P:Program}{w:World}{b o:Nat}(vs:List Value):∀(i:Nat) (acc:Array Value),(∀j v,vs[j]?=some v->w.cell? ⟨b,o+i+j,none⟩=some v)->
 (loadCellsFrom ⟨b,o,none⟩ i vs.length acc).run P w=.ok (acc++vs.toArray) w:=by
 induction vs with
 |nil=>intro i acc _;simp[loadCellsFrom]
 |cons v r ih=>
  intro i acc h
  simp only[List.length_cons,loadCellsFrom,rz]
  rw[iU (Pw (by simpa using h 0 v rfl))]
  rw[ih (i+1) (acc.push v) (λj u hu=>by have:=h (j+1) u (by simpa using hu);rw[← this];congr 2;omega)]
  simp
theorem qZ {P:Program}{w:World}{b o:Nat}(vs:List Value)(h:∀j v,vs[j]?=some v->w.cell? ⟨b,o+j,none⟩=some v):
 (loadCells ⟨b,o,none⟩ vs.length).run P w=.ok vs.toArray w:=by
 unfold loadCells
 have:=CQ (P:=P) vs 0 #[] (by simpa using h)
 simpa using this
def World.dF (w:World)(b:Nat)(vs:Array Value)(ty:TypeId)(fr:Nat×Nat):World:={w with heap:=w.heap.setIfInBounds b (.cells vs ty fr)}
theorem pF {w:World}{b:Nat}{vs:Array Value}{ty:TypeId}{fr:Nat×Nat}(h:w.heap[b]?=some (.cells vs ty fr))(o:Nat)(v:Value):
 w.setCell ⟨b,o,none⟩ v=World.dF w b (vs.setIfInBounds o v) ty fr:=by
 unfold World.setCell World.dF
 congr 1
 apply Array.ext_getElem?
 intro i
 rw[Array.getElem?_modify,Array.getElem?_setIfInBounds]
 by_cases e:b=i
 ·subst e;have hb:b<w.heap.size:=(Array.getElem?_eq_some_iff.1 h).1;rw[h];simp[hb]
 ·simp[e]
theorem gM {w:World}{b:Nat}(hb:b<w.heap.size)(vs:Array Value)(ty:TypeId)(fr:Nat×Nat):(World.dF w b vs ty fr).heap[b]?=some (.cells vs ty fr):=by
 simp[World.dF,hb]
theorem nD {w:World}{b c:Nat}(h:b≠c)(vs:Array Value)(ty:TypeId)(fr:Nat×Nat):(World.dF w b vs ty fr).heap[c]?=w.heap[c]?:=by
 simp[World.dF,Array.getElem?_setIfInBounds,h]
theorem HH (w:World)(b:Nat)(vs us:Array Value)(ty ty':TypeId)(fr fr':Nat×Nat):World.dF (World.dF w b vs ty fr) b us ty' fr'=World.dF w b us ty' fr':=by
 simp[World.dF]
theorem pG {w:World}{b:Nat}{vs:Array Value}{ty:TypeId}{fr:Nat×Nat}(h:w.heap[b]?=some (.cells vs ty fr)):World.dF w b vs ty fr=w:=by
 unfold World.dF;have:w.heap.setIfInBounds b (.cells vs ty fr)=w.heap:=by
  apply Array.ext_getElem?;intro i;rw[Array.getElem?_setIfInBounds];by_cases e:b=i
  ·subst e;obtain⟨hb,he⟩:=Array.getElem?_eq_some_iff.1 h;simp[hb,he]
  ·simp[e]
 rw[this]
theorem pH (w:World)(b:Nat)(vs:Array Value)(ty:TypeId)(fr:Nat×Nat):(World.dF w b vs ty fr).heap.size=w.heap.size:=by
 simp[World.dF]
def over (vs:List Value)(o:Nat)(xs:List Value):List Value:=vs.take o++xs++vs.drop (o+xs.length)
theorem zi (vs:List Value)(o:Nat):over vs o []=vs:=by simp[over]
theorem LP {vs:List Value}{o:Nat}{x:Value}{xs:List Value}(h:o+(x::xs).length<=vs.length):over (vs.set o x) (o+1) xs=over vs o (x::xs):=by
 unfold over;simp only[List.length_cons] at h;apply List.ext_getElem?;intro i;simp only[List.getElem?_append,List.length_append,List.length_take,List.length_set,List.getElem?_take,List.getElem?_drop,List.getElem?_set,List.length_cons];have e1:min (o+1) vs.length=o+1:=by omega
 have e2:min o vs.length=o:=by omega
 rw[e1,e2];by_cases c1:i<o
 ·simp[show i<o+1+xs.length by omega,show i<o+1 by omega,show i<o+(xs.length+1) by omega,c1,show ¬o=i by omega]
 ·by_cases c2:i=o
  ·subst c2;simp[show i<i+1+xs.length by omega,show i<vs.length by omega]
  ·by_cases c3:i<o+1+xs.length
   ·simp[c3,show ¬i<o+1 by omega,show i<o+(xs.length+1) by omega,c1];rw[show i - o=(i - (o+1))+1 by omega];simp
   ·simp[c3,show ¬i<o+(xs.length+1) by omega];rw[if_neg (by omega)];congr 1;omega
theorem WA {P:Program}{w:World}{a:Addr}{u v:Value}(ho:one v=true)(h:w.cell? a=some u)(hf:w.frozen? a=false):(store a v).run P w=.ok () (w.setCell a v):=by
 cases v<;>simp_all [store,Sem.run,one]
theorem pI {P:Program}{b o:Nat}{ty:TypeId}{fr:Nat×Nat}(xs:List Value):∀(w:World) (i:Nat) (vs:List Value),(∀x∈xs,one x=true)->w.heap[b]?=some (.cells vs.toArray ty fr)->vF vs.toArray fr->
 o+i+xs.length<=vs.length->(storeCells ⟨b,o,none⟩ xs i).run P w=.ok () (World.dF w b (over vs (o+i) xs).toArray ty fr):=by
 induction xs with
 |nil=>
  intro w i vs _ h _ _
  simp only[storeCells,zi]
  rw[pG h];rfl
 | cons x r ih=>
  intro w i vs ho h ht hl
  have hl':o+i<vs.length:=by simp at hl;omega
  simp only[storeCells,rz]
  have hc:w.cell? ⟨b,o+i,none⟩=some vs[o+i]:=by rw[cell_of h];simp[hl']
  have hf:w.frozen? ⟨b,o+i,none⟩=false:=by
   rw[LO h]
   have:=ht (o+i) (by simpa using hl')
   simp only[Bool.and_eq_false_iff,decide_eq_false_iff_not]
   by_cases h1:fr.1<=o+i
   · right;exactλh2=>this ⟨h1,h2⟩
   · left;exact h1
  rw[iU (WA (ho x List.mem_cons_self) hc hf),pF h]
  have hb:b<w.heap.size:=(Array.getElem?_eq_some_iff.1 h).1
  have YD:vs.toArray.setIfInBounds (o+i) x=(vs.set (o+i) x).toArray:=by simp
  rw[YD,ih _ (i+1) (vs.set (o+i) x) (λy hy=>ho y (List.mem_cons_of_mem _ hy)) (gM hb _ _ _) (by simpa [vF] using ht) (by simp at hl ⊢;omega)]
  rw[HH,← Nat.add_assoc,LP (by simpa [Nat.add_assoc] using hl)]
theorem k5 {P:Program}{w:World}(elem:TypeId)(cells:Array Value):(newRow elem cells).run P w=.ok ⟨w.heap.size,0,none⟩ {w with heap:=w.heap.push (.cells cells elem)}:=by
 rfl
theorem bW {P:jZ}{t:TypeId}{ti:TI}(h:bw P t=some ti):
 ∃i,P.prog.info? t=some i/\P.prog.underlying t=some ti.desc/\i.size=ti.size/\i.bytes=ti.bytes/\i.zero.bind valOf=ti.zero/\ti.agg=(match ti.desc with|.struct _|.array _ _=>true|_=>false):=by
 have h:=P.alx _ _ h
 unfold Yv at h
 cases h1:P.prog.info? t<;>cases h2:P.prog.underlying t<;>simp[h1,h2] at h
 subst h
 exact⟨_,rfl,rfl,rfl,rfl,rfl,rfl⟩
theorem aS {P:Program}{t:TypeId}{d:TypeDesc}(h:P.underlying t=some d)(w:World):(underlying t).run P w=.ok d w:=by
 unfold underlying program;simp only[bind,Sem.bind,Sem.run,h];rfl
theorem sL {P:Program}{t:TypeId}{i:TypeInfo}(h:P.info? t=some i)(w:World):(typeInfo t).run P w=.ok i w:=by
 unfold typeInfo program;simp only[bind,Sem.bind,Sem.run,h];rfl
theorem fQ {P:jZ}{t:TypeId}{ti:TI}(h:bw P t=some ti)(w:World):(sizeOf t).run P w=.ok ti.size w:=by
 obtain⟨i,hi,_,hs,_⟩:=bW h;unfold sizeOf;rw[iU (sL hi w),hs];rfl
theorem LQ {P:jZ}{t:TypeId}{ti:TI}(h:bw P t=some ti)(w:World):(isAgg t).run P w=.ok ti.agg w:=by
 obtain⟨i,hi,hu,_,_,_,ha⟩:=bW h;unfold isAgg;rw[iU (aS hu w),ha];cases ti.desc<;>rfl
theorem gI {P:jZ}{t:TypeId}{ti:TI}{z:TV}(h:bw P t=some ti)(hz:ti.zero=some z)(w:World)(G:Gh):∃v,(zeroValue t).run P w=.ok v w/\VR G z v:=by
 obtain⟨i,hi,_,_,_,h0,_⟩:=bW h;rw[hz] at h0;cases hv:i.zero with
 |none=>rw[hv] at h0;simp at h0
 |some v=>
  rw[hv] at h0
  simp only[Option.bind_some] at h0
  refine⟨v, ?_,zf h0⟩
  unfold zeroValue
  rw[iU (sL hi w),hv];rfl
theorem WB {v:Value}{x:TV}(h:BD v=some x):x≠ .any:=by
 rintro rfl;unfold BD at h;split at h<;>simp at h
theorem YE (l:List TV):Be l≠ .any:=by
 unfold Be;split<;>simp
theorem YF (l:List TV):sF l≠ .any:=by
 unfold sF;split<;>simp
theorem YG {v:Value}{x:TV}(h:valOf v=some x):x≠ .any:=by
 unfold valOf at h;split at h
 ·split at h<;>simp at h;subst h;exact YE _
 ·split at h<;>simp at h;subst h;exact YF _
 ·exact WB h
theorem sM {P:jZ}{t:TypeId}{ti:TI}{z:TV}(h:bw P t=some ti)(hz:ti.zero=some z):z≠ .any:=by
 obtain⟨i,hi,_,_,_,h0,_⟩:=bW h;rw[hz] at h0;cases hv:i.zero with
 |none=>rw[hv] at h0;simp at h0
 |some v=>
  rw[hv] at h0
  simp only[Option.bind_some] at h0
  exact YG h0
theorem H7 {x:TV}(h:x.cells.all TV.leaf=true):x≠ .any:=by
 rintro rfl;simp[TV.cells,TV.leaf] at h
end Go.Abs
namespace Go.Abs
open Go
def jK (C:ew)(G:Gh):Prop:=∀g cs,C.ku g=some cs->∃vals:Nat->Value,(∀(j:Nat) c,cs[j]?=some c->G.F g (0+j)=some (vals j))/\∀(j:Nat) c,cs[j]?=some c->VT G.F c (vals j)
theorem jK.mono {C:ew}{G G':Gh}(h:jK C G)(hG:G.le G'):jK C G':=λg cs hg=>
 let⟨vals,h1,h2⟩:=h g cs hg
 ⟨vals,λj c hc=>hG.F _ _ _ (h1 j c hc),λj c hc=>(h2 j c hc).mono hG.F⟩
def SR (G:Gh)(slots:List TV)(a:Act):Prop:=dU G slots a.tmps.toList
theorem rA (G:Gh):VR G dc undef:=.t _ _ (.cG [] [] rfl (by simp))
theorem SR.getD {G:Gh}{slots:List TV}{a:Act}(h:SR G slots a)(t:Nat):VR G (slots.getD t dc) (a.tmps.getD t undef):=by
 by_cases ht:t<slots.length
 ·have ht':t<a.tmps.size:=by have:=h.1;simp at this;omega
  have e1:slots[t]?=some slots[t]:=List.getElem?_eq_getElem ht;have e2:a.tmps.toList[t]?=some a.tmps[t]:=by simp[ht']
  have:=h.2 t _ _ e1 e2;simpa [List.getD,e1,ht'] using this
 ·have ht':¬t<a.tmps.size:=by have:=h.1;simp at this;omega
  have e1:slots[t]?=none:=List.getElem?_eq_none (by omega);simpa [List.getD,e1,ht'] using rA G
theorem cH {C:ew}{G:Gh}{slots:List TV}{a:Act}(hs:SR G slots a)(hg:jK C G){x:Operand}{v:TV}(h:dr C slots x=some v):VR G v (a.eval x):=by
 cases x with
 |tmp t=>simp[dr,M3] at h;subst h;exact hs.getD t
 |const c=>exact zf h
 |global g=>
  simp only[dr] at h
  cases hc:C.ku g<;>simp[hc] at h
  subst h
  obtain⟨vals,h1,h2⟩:=hg g _ hc
  exact .lS _ 0 g 0 vals h1 h2
 |func f=>simp[dr] at h;subst h;exact .t _ _ (.fn _)
theorem Ay {C:ew}{G:Gh}{slots:List TV}{a:Act}(hs:SR G slots a)(hg:jK C G){xs:List Operand}{vs:List TV}(h:kT C slots xs=some vs):dU G vs (xs.map a.eval):=by
 induction xs generalizing vs with
 |nil=>simp[kT] at h;subst h;exact dU.nil G
 |cons x r ih=>
  simp only[kT] at h
  cases h1:dr C slots x<;>cases h2:kT C slots r<;>simp[h1,h2] at h
  subst h
  exact dU.cons (cH hs hg h1) (ih h2)
def ec (P:Program)(nm:Nm)(o:Oper)(a:Act)(w:World)(G:Gh)(v:TV)(u:List (Nm×aP)):Prop:=
 ∃x w' G',((execOp a.eval o).run P w=.ok (.value x) w'\/((execOp a.eval o).run P w=.ok .skip w'/\x=undef))/\Step (λk=>k∈u.map (·.1)) (λk=>k=nm) G w G' w'/\
  (∀k ob,(k,ob)∈u->G'.dom k/\OR G' w' k ob)/\VR G' v x
theorem ec.gN {P:Program}{nm:Nm}{o:Oper}{a:Act}{w w':World}{G G':Gh}{v:TV}{u:List (Nm×aP)}{x:Value}
 (hr:(execOp a.eval o).run P w=.ok (.value x) w')(hs:Step (λk=>k∈u.map (·.1)) (λk=>k=nm) G w G' w')
 (hu:∀k ob,(k,ob)∈u->G'.dom k/\OR G' w' k ob)(hv:VR G' v x):ec P nm o a w G v u:=
 ⟨x,w',G',.inl hr,hs,hu,hv⟩
theorem ec.H8 {P:Program}{nm:Nm}{o:Oper}{a:Act}{w w':World}{G G':Gh}{u:List (Nm×aP)}
 (hr:(execOp a.eval o).run P w=.ok .skip w')(hs:Step (λk=>k∈u.map (·.1)) (λk=>k=nm) G w G' w')
 (hu:∀k ob,(k,ob)∈u->G'.dom k/\OR G' w' k ob):ec P nm o a w G dc u:=
 ⟨undef,w',G',.inr ⟨hr,rfl⟩,hs,hu,rA G'⟩
theorem ec.quiet {P:Program}{nm:Nm}{o:Oper}{a:Act}{w:World}{G:Gh}{v:TV}{x:Value}(hw:WF G w)
 (hr:(execOp a.eval o).run P w=.ok (.value x) w)(hv:VR G v x):ec P nm o a w G v []:=
 ec.gN hr (Step.refl hw _ _) (λ_ _ h=>by simp at h) hv
theorem VR.bool {G:Gh}{b:Bool}{v:Value}(h:VR G (.t (.bool b)) v):v=.bool b:=by cases h with|t _ _ h=>cases h;rfl
theorem VR.int {G:Gh}{k:IntKind}{n:Int}{v:Value}(h:VR G (.t (.int k n)) v):v=.int k n:=by cases h with|t _ _ h=>cases h;rfl
theorem VR.str {G:Gh}{s:List UInt8}{v:Value}(h:VR G (.t (.str s)) v):v=.string ⟨s.toArray⟩:=by cases h with|t _ _ h=>cases h;rfl
theorem bytesLess_eq:∀(a b:List UInt8),Op.bytesLess a b=jx a b
 |_,[]=>by cases ‹List UInt8›<;>rfl
 | [],_::_=>rfl
 |a::x,b::y=>by simp only[Op.bytesLess,jx,bytesLess_eq x y]
theorem toList_mk (s:List UInt8):(ByteArray.mk s.toArray).toList=s:=by
 rw[Go.ByteArray.toList_eq]
theorem YH {P:Program}{G:Gh}{op:BinOp}{s u:List UInt8}{v:TV}(h:SJ op s u=some v)(w:World):
 ∃x,(Op.stringOp op ⟨s.toArray⟩ ⟨u.toArray⟩).run P w=.ok x w/\VR G v x:=by
 cases op<;>simp only[SJ] at h<;>(try (simp at h;done))<;>
  simp only[Op.stringOp,toList_mk,bytesLess_eq]
 case add=>
  split at h
  ·rename_i hle;simp at h;subst h;rw[if_neg]
   ·refine⟨_,rfl, ?_⟩;have e:(ByteArray.mk s.toArray++ByteArray.mk u.toArray)=⟨(s++u).toArray⟩:=by
     apply Go.WideShapes.bytes_inj;simp
    rw[e];exact .t _ _ (.str _)
   ·have e:IntKind.i64.max=9223372036854775807:=by decide
    rw[e];simp only[ByteArray.size,Yx,List.size_toArray] at hle ⊢;omega
  ·simp at h
 all_goals
  simp only[Option.some.injEq] at h;subst h
  exact⟨_,rfl,.t _ _ (.bool _)⟩
section quiet
variable {C:ew}{f:FuncId}{nm:Nm}{H:Heap}{slots:List TV}{o:Oper}{a:Act}{w:World}{G:Gh}{v:TV}{u:List (Nm×aP)}
theorem jy {x:Option TV}(h:CH x=some (v,u)):x=some v/\u=[]:=by
 cases x<;>simp[CH] at h;exact⟨by rw[h.1],h.2⟩
theorem zj {op:BinOp}{t:TypeId}{x y:Operand}{b c:TV}{p q:Value}(hb:VR G b p)(hc:VR G c q)(h:xC C.P op t x y b c=some v):
 ∃r,(do eqGuard op t x y p q;binOp op t p q:Sem Value).run C.P w=.ok r w/\VR G v r:=by
 unfold xC at h
 cases h1:l8 b<;>cases h2:l8 c<;>simp[h1,h2] at h
 rename_i p' q'
 have e1:=pE h1 hb
 have e2:=pE h2 hc
 subst e1;subst e2
 cases h3:eP C.P (do eqGuard op t x y p q;binOp op t p q)<;>simp[h3] at h
 exact⟨_,ru h3 w,zf h⟩
theorem uR {op:BinOp}{t:TypeId}{x y:Operand}{p q:Value}(h:∀z,q≠ .agg z)(h':q≠ .nilIface):eqGuard op t x y p q=pure ():=by
 unfold eqGuard;cases q<;>first
  |(exact absurd rfl (h _))
  |(exact absurd rfl h')
  |(cases op<;>cases p<;>rfl)
theorem iw {t:TypeId}{x y:Operand}{p q:Value}{r:Bool}(hq:∀z,q≠ .agg z)(hq':q≠ .nilIface)(hp1:binOp .eql t p q=do pure (.bool (← Op.equal t p q)))(hp2:binOp .neq t p q=do pure (.bool (!(← Op.equal t p q))))
 (he:(Op.equalIn (9999+1) t p q).run C.P w=.ok r w):
 (do eqGuard .eql t x y p q;binOp .eql t p q:Sem Value).run C.P w=.ok (.bool r) w/\(do eqGuard .neq t x y p q;binOp .neq t p q:Sem Value).run C.P w=.ok (.bool (!r)) w:=by
 have he:(Op.equal t p q).run C.P w=.ok r w:=he
 rw[uR hq hq',uR hq hq',hp1,hp2]
 constructor
 ·show(Sem.bind (Op.equal t p q) _).run C.P w=_;rw[zh he];rfl
 ·show(Sem.bind (Op.equal t p q) _).run C.P w=_;rw[zh he];rfl
section eqs
variable {t e k:TypeId}{ps rs:Array TypeId}{va:Bool}{d:Nat}
theorem CR (hu:C.P.prog.underlying t=some (.slice e))(b:Option Addr)(n m l c:Nat):(Op.equalIn (d+1) t (.slice b n m) (.slice none l c)).run C.P w=.ok b.isNone w:=by
 simp only[Op.equalIn];rw[iU (aS hu w)];cases b<;>rfl
theorem LR (hu:C.P.prog.underlying t=some (.map k e))(b:Option Nat):(Op.equalIn (d+1) t (.map b) (.map none)).run C.P w=.ok b.isNone w:=by
 simp only[Op.equalIn];rw[iU (aS hu w)];cases b<;>rfl
theorem YI (hu:C.P.prog.underlying t=some (.func ps rs va)):(Op.equalIn (d+1) t .nilFunc .nilFunc).run C.P w=.ok true w:=by
 simp only[Op.equalIn];rw[iU (aS hu w)];rfl
theorem Px (hu:C.P.prog.underlying t=some (.func ps rs va))(f:Fn)(a b:Array Value):(Op.equalIn (d+1) t (.func f a b) .nilFunc).run C.P w=.ok false w:=by
 simp only[Op.equalIn];rw[iU (aS hu w)];rfl
theorem Fo (hu:C.P.prog.underlying t=some (.pointer e))(b:Option Addr):(Op.equalIn (d+1) t (.pointer b) (.pointer none)).run C.P w=.ok b.isNone w:=by
 simp only[Op.equalIn];rw[iU (aS hu w)];cases b<;>rfl
end eqs
theorem LS {t:TypeId}{x y:Operand}{b c:TV}{p q:Value}{ti:TI}{r:Bool}(ht:bw C.P t=some ti)(hb:VR G b p)(hc:VR G c q)(h:LK ti.desc b c=some r)(w:World):
 (do eqGuard .eql t x y p q;binOp .eql t p q:Sem Value).run C.P w=.ok (.bool r) w/\(do eqGuard .neq t x y p q;binOp .neq t p q:Sem Value).run C.P w=.ok (.bool (!r)) w:=by
 obtain⟨i,hi,hu,_⟩:=bW ht
 unfold LK at h
 split at h<;>simp only[Option.some.injEq,reduceCtorEq] at h<;>subst h<;>rename_i hd<;>rw[hd] at hu
 ·cases hb;cases hc;exact iw (by intro z;simp) (by simp) rfl rfl (CR hu none 0 0 0 0)
 ·cases hb with|t _ _ hb=>cases hb with|sl=>cases hc;exact iw (by intro z;simp) (by simp) rfl rfl (CR hu (some _) _ _ 0 0)
 ·cases hb with|qp _ _ hb=>cases hb with|sl=>cases hc;exact iw (by intro z;simp) (by simp) rfl rfl (CR hu (some _) _ _ 0 0)
 ·cases hb with|t _ _ hb=>cases hb;cases hc with|t _ _ hc=>cases hc;exact iw (by intro z;simp) (by simp) rfl rfl (LR hu none)
 ·cases hb;cases hc with|t _ _ hc=>cases hc;exact iw (by intro z;simp) (by simp) rfl rfl (LR hu (some _))
 ·cases hb with|t _ _ hb=>cases hb;cases hc with|t _ _ hc=>cases hc;exact iw (by intro z;simp) (by simp) rfl rfl (YI hu)
 ·cases hb;cases hc with|t _ _ hc=>cases hc;exact iw (by intro z;simp) (by simp) rfl rfl (Px hu _ _ _)
 ·cases hb with|t _ _ hb=>cases hb;cases hc with|t _ _ hc=>cases hc;exact iw (by intro z;simp) (by simp) rfl rfl (Px hu _ _ _)
 ·cases hb with|t _ _ hb=>cases hb;cases hc with|t _ _ hc=>cases hc;exact iw (by intro z;simp) (by simp) rfl rfl (Fo hu none)
 ·cases hb;cases hc with|t _ _ hc=>cases hc;exact iw (by intro z;simp) (by simp) rfl rfl (Fo hu (some _))
 ·cases hb;cases hc with|t _ _ hc=>cases hc;exact iw (by intro z;simp) (by simp) rfl rfl (Fo hu (some _))
end quiet
end Go.Abs
namespace Go.Abs
open Go
section
variable {C:ew}{f:FuncId}{nm:Nm}{H:Heap}{slots:List TV}{a:Act}{w:World}{G:Gh}{v:TV}
theorem YJ {P:Program}{op:BinOp}{k:IntKind}{n m:Int}(h:Wx op k n m=some v)(t:TypeId)(w:World):
 ∃r,(binOp op t (.int k n) (.int k m)).run P w=.ok r w/\VR G v r:=by
 cases op<;>simp only[Wx] at h<;>first
  |(simp at h;done)
  |(simp only[Option.some.injEq] at h;subst h;exact⟨_,by simp[binOp,Op.intArith,Op.intCmp]<;>rfl,.t _ _ (by first|exact .int _ _|exact .bool _)⟩)
  |( split at h
     · simp at h
     · rename_i h0
       simp only[Option.some.injEq] at h;subst h;exact⟨_,by simp[binOp,Op.intDiv,h0]<;>rfl,.t _ _ (.int _ _)⟩)
theorem YK {op:BinOp}{t:TypeId}{x y:Operand}{b c:TV}{p q:Value}(hb:VR G b p)(hc:VR G c q)(h:vD C.P op t x y b c=some v)(w:World):
 ∃r,(do eqGuard op t x y p q;binOp op t p q:Sem Value).run C.P w=.ok r w/\VR G v r:=by
 unfold vD at h
 split at h
 ·rename_i s u;have e1:=hb.str;have e2:=hc.str;subst e1;subst e2;obtain⟨r,h1,h2⟩:=YH h w (P:=C.P) (G:=G);refine⟨r, ?_,h2⟩;rw[uR (by intro z;simp) (by simp)];cases op<;>first|exact h1|(simp[SJ] at h)
 ·rename_i k n k' m;split at h;case isFalse=>exact zj hb hc h
  rename_i hk;subst hk;split at h
  ·rename_i v' hv;simp only[Option.some.injEq] at h;subst h;have e1:=hb.int;have e2:=hc.int;subst e1;subst e2;obtain⟨r,h1,h2⟩:=YJ (P:=C.P) (G:=G) hv t w;refine⟨r, ?_,h2⟩;rw[uR (by intro z;simp) (by simp)];exact h1
  ·exact zj hb hc h
 ·split at h
  ·split at h
   ·rename_i ti ht;cases hn:LK ti.desc b c<;>simp[hn] at h;subst h;exact⟨_,(LS ht hb hc hn w).1,.t _ _ (.bool _)⟩
   ·rename_i ti ht;cases hn:LK ti.desc b c<;>simp[hn] at h;subst h;exact⟨_,(LS ht hb hc hn w).2,.t _ _ (.bool _)⟩
   ·simp at h
  ·exact zj hb hc h
theorem ad1 {op:UnOp}{b:TV}{p:Value}(hb:VR G b p)(h:unT C.P op b=some v)(w:World):∃r,(Op.unary op p).run C.P w=.ok r w/\VR G v r:=by
 unfold unT at h;cases h1:l8 b<;>simp[h1] at h;have e:=pE h1 hb;subst e;cases h2:eP C.P (Op.unary op p)<;>simp[h2] at h;exact⟨_,ru h2 w,zf h⟩
theorem Gz {p:TV}{x:Value}{cs:List TV}{off:Nat}(hH:HR G w H)(hw:WF G w)(hp:VR G p x)(h:xB H p=some (cs,off)):
 ∃b o vs,x=.pointer (some ⟨b,o+off,none⟩)/\dU G cs vs/\∀(j:Nat) u,vs[j]?=some u->w.cell? ⟨b,o+j,none⟩=some u:=by
 unfold xB at h
 split at h
 ·rename_i k o;split at h<;>simp at h;rename_i cs' hk;obtain⟨rfl,rfl⟩:=h;obtain⟨hd,ha,vs,ty,fr,hh,ht,hv,hf⟩:=hH k _ hk;cases hp with|ptr _ _ _ _=>
   refine⟨G.mu k,0,vs.toList,by simp,hv,λj u hu=> ?_⟩
   rw[cell_of hh];simpa using hu
 ·rename_i k n o;split at h
  ·rename_i g cc fz cs' hk;split at h<;>simp at h;rename_i hn;obtain⟨rfl,rfl⟩:=h;obtain⟨hd,he,cap,vs,ty,fr,ha,hh,ht,hs,hl,hv,hf⟩:=hH k _ hk;cases hp with|lR _ _ _ n' YL cap' _ hd' CS hle ho BI=>
    rw[ha] at CS
    simp at CS
    obtain⟨e1,e2,e3⟩:=CS
    have hx:=BI (by omega)
    refine⟨G.mu k,0,vs.toList.take cs'.length,by simpa using hx,hv,λj u hu=> ?_⟩
    rw[cell_of hh]
    rw[List.getElem?_take] at hu
    split at hu
    ·simpa using hu
    ·simp at hu
  ·simp at h
 ·rename_i cs' o;simp at h;obtain⟨rfl,rfl⟩:=h;cases hp with|lS _ _ b o' vals hF hv=>
   refine⟨b,o',(List.range cs'.length).map vals,rfl,⟨by simp,λj c u hc hu=> ?_⟩,λj u hu=> ?_⟩
   ·rw[List.getElem?_map] at hc hu;cases hj:cs'[j]? with
    |none=>rw[hj] at hc;simp at hc
    | some t=>
      rw[hj] at hc;simp at hc;subst hc
      have hlt:j<cs'.length:=(List.getElem?_eq_some_iff.1 hj).1
      simp[hlt] at hu
      subst hu
      exact .t _ _ (hv j t hj)
   ·rw[List.getElem?_map] at hu;by_cases hlt:j<cs'.length
    ·simp[hlt] at hu;subst hu;obtain⟨vs,ty,fr,h1,h2⟩:=hw.F _ _ _ (hF j cs'[j] (List.getElem?_eq_getElem hlt));rw[cell_of h1];exact h2
    ·rw[List.getElem?_eq_none (by simpa using hlt)] at hu;simp at hu
 ·simp at h
theorem IU {t:TypeId}{ti:TI}{cs:List TV}{vs:List Value}{b o off:Nat}(ht:bw C.P t=some ti)(hv:dU G cs vs)(hc:∀(j:Nat) u,vs[j]?=some u->w.cell? ⟨b,o+j,none⟩=some u)
 (h:partT ti.agg ti.size cs off=some v):∃r,(loadVar t ⟨b,o+off,none⟩).run C.P w=.ok r w/\VR G v r:=by
 unfold partT at h
 unfold loadVar
 rw[iU (LQ ht w)]
 cases hag:ti.agg<;>rw[hag] at h<;>simp only[Bool.false_eq_true,if_true,if_false] at h ⊢
 ·obtain⟨u,hu,hvu⟩:=hv.at h;refine⟨u, ?_,hvu⟩;exact Pw (hc off u hu)
 ·split at h<;>simp at h;rename_i hle;subst h;have hlen:((vs.drop off).take ti.size).length=ti.size:=by have:=hv.1;simp;omega
  refine⟨.agg ((vs.drop off).take ti.size).toArray, ?_,zb ((hv.drop off).take ti.size)⟩;rw[iU (fQ ht w)];have hl:=qZ (P:=C.P) (w:=w) (b:=b) (o:=o+off) ((vs.drop off).take ti.size) (λj u hu=>by
   rw[List.getElem?_take] at hu;split at hu
   ·rw[List.getElem?_drop] at hu;rw[Nat.add_assoc];exact hc _ u hu
   ·simp at hu)
  rw[hlen] at hl;rw[iU hl];rfl
theorem WC {t:TypeId}{p:TV}{x:Value}(hH:HR G w H)(hw:WF G w)(hp:VR G p x)(h:loadT C.P H t p=some v):∃r,(Instr.loadAt t x).run C.P w=.ok r w/\VR G v r:=by
 unfold loadT at h;cases ht:bw C.P t<;>cases hc:xB H p<;>simp[ht,hc] at h;rename_i ti co;obtain⟨cs,off⟩:=co;obtain⟨b,o,vs,rfl,hv,hcell⟩:=Gz hH hw hp hc;exact IU ht hv hcell h
theorem IV {t:TypeId}{ti:TI}{cs:List TV}{vs:List Value}{off:Nat}(ht:bw C.P t=some ti)(hv:dU G cs vs)
 (h:partT ti.agg ti.size cs off=some v)(w:World):∃r,(part t vs.toArray off).run C.P w=.ok r w/\VR G v r:=by
 unfold partT at h
 unfold part
 rw[iU (LQ ht w)]
 cases hag:ti.agg<;>rw[hag] at h<;>simp only[Bool.false_eq_true,if_true,if_false] at h ⊢
 ·obtain⟨u,hu,hvu⟩:=hv.at h;refine⟨u, ?_,hvu⟩;have:vs.toArray[off]?=some u:=by simpa using hu
  rw[this];rfl
 ·split at h<;>simp at h;rename_i hle;subst h;refine⟨.agg ((vs.drop off).take ti.size).toArray, ?_,zb ((hv.drop off).take ti.size)⟩;rw[iU (fQ ht w)];have:vs.toArray.extract off (off+ti.size)=((vs.drop off).take ti.size).toArray:=by
   simp[List.extract_eq_take_drop]
  rw[this];rfl
theorem VR.YM {p:TV}{x:Value}(hp:VR G p x)(hx:Fk p=true):∃vs:List Value,x=.agg vs.toArray/\dU G p.cells vs:=by
 cases hp with
 |t y v h=>
  cases h with
  |agg cs vs hl h=>exact⟨vs,rfl,HG.Pu ⟨hl,h⟩⟩
  |_=>simp[Fk] at hx
 |agg cs vs hl h=>exact⟨vs,rfl,hl,h⟩
 |_=>simp[Fk] at hx
theorem LU {p:TV}{x:Value}{n:Nat}(hH:HR G w H)(hp:VR G p x)(h:th H p n=some v):
 ∃b o,x=.pointer (some ⟨b,o,none⟩)/\VR G v (.pointer (some ⟨b,o+n,none⟩)):=by
 unfold th at h
 split at h
 ·simp at h;subst h;cases hp with|ptr k o hd hn=>exact⟨_,_,rfl,.ptr _ _ hd hn⟩
 ·rename_i k m o;split at h
  ·rename_i g cc fz cs hk;split at h<;>simp at h;rename_i hm;subst h;obtain⟨hd,he,cap,vs,ty,fr,ha,hh,ht,hs,hl,hv,hf⟩:=hH k _ hk;cases hp with|lR _ _ _ n' YL cap' _ hd' CS hle ho BI=>
    rw[ha] at CS
    simp at CS
    obtain⟨e1,e2,e3⟩:=CS
    have hx:=BI (by omega)
    exact⟨_,_,hx,.lR k m _ cs.length cc cap _ hd ha (by omega) ⟨_,rfl⟩ (λ_=>rfl)⟩
  ·simp at h
 ·simp at h;subst h;cases hp with|lS cs o b o' vals hF hv=>exact⟨b,_,rfl,by rw[Nat.add_assoc];exact .lS _ _ b o' vals hF hv⟩
 ·simp at h
theorem IW {fd:Field}{ti:TI}{b o:Nat}(ht:bw C.P fd.type=some ti)(hs:ti.size≠0)(w:World):(fieldPlace ⟨b,o,none⟩ fd).run C.P w=.ok ⟨b,o+fd.offset,none⟩ w:=by
 unfold fieldPlace;rw[iU (fQ ht w),if_neg hs,rz];rfl
theorem Lg {s:TypeId}{x:Value}{p:TV}{i:Nat}{ti tf:TI}{fs:Array Field}{fd:Field}(hH:HR G w H)(hp:VR G p x)(ht:bw C.P s=some ti)(hd:ti.desc=.struct fs)(hi:fs[i]?=some fd)
 (YN:bw C.P fd.type=some tf)(hs:tf.size≠0)(h:th H p fd.offset=some v):∃r,(Instr.fieldAt s x i).run C.P w=.ok r w/\VR G v r:=by
 obtain⟨b,o,rfl,hv⟩:=LU hH hp h
 refine⟨_, ?_,hv⟩
 obtain⟨_,_,hu,_⟩:=bW ht
 rw[hd] at hu
 simp[Instr.fieldAt,aS hu w,hi,Instr.sureAddr,IW YN hs w]
theorem WD {t:TypeId}{x:Value}{p:TV}{i:Nat}{ti tf:TI}{fs:Array Field}{fd:Field}(hp:VR G p x)(ht:bw C.P t=some ti)(hd:ti.desc=.struct fs)(hi:fs[i]?=some fd)
 (YN:bw C.P fd.type=some tf)(hagg:Fk p=true)(h:partT tf.agg tf.size p.cells fd.offset=some v)(w:World):∃r,(Instr.field t x i).run C.P w=.ok r w/\VR G v r:=by
 obtain⟨vs,rfl,hv⟩:=hp.YM hagg
 obtain⟨r,h1,h2⟩:=IV YN hv h w
 refine⟨r, ?_,h2⟩
 obtain⟨_,_,hu,_⟩:=bW ht
 rw[hd] at hu
 simp[Instr.field,aS hu w,hi,asAgg,h1]
theorem tB {p:TV}{x:Value}{n:Nat}(hp:VR G p x)(h:iB p=some n):∃k,x=.int k (n:Int):=by
 unfold iB at h;split at h
 ·rename_i k m;split at h<;>simp at h;subst h;have:=hp.int;subst this;exact⟨k,by rw[Int.toNat_of_nonneg (by assumption)]⟩
 ·simp at h
theorem WE {t:TypeId}{x y:Value}{p q:TV}(hp:VR G p x)(hq:VR G q y)(h:tj C.P t p q=some v)(w:World):∃r,(Instr.index t x y).run C.P w=.ok r w/\VR G v r:=by
 unfold tj at h;cases ht:bw C.P t<;>cases hi:iB q<;>simp only[ht,hi,reduceCtorEq] at h;rename_i ti i;obtain⟨k,rfl⟩:=tB hq hi;obtain⟨_,_,hu,_⟩:=bW ht;split at h
 ·rename_i s hd;have:=hp.str;subst this;rw[hd] at hu;cases hb:s[i]? <;>simp[hb] at h;subst h;refine⟨_, ?_,.t _ _ (.int _ _)⟩;have hs:(ByteArray.mk s.toArray)[i]?=some ‹UInt8›:=by
   obtain⟨h1,h2⟩:=List.getElem?_eq_some_iff.1 hb;rw[getElem?_pos _ _ (by simpa [ByteArray.size] using h1)];have e:(ByteArray.mk s.toArray)[i]'(by simpa [ByteArray.size] using h1)=s[i]:=rfl;rw[e,h2]
  simp[Instr.index,asIntOf,aS hu w,hs]
 ·rename_i len elem hd;cases hte:bw C.P elem<;>simp only[hte,reduceCtorEq] at h;rename_i te;split at h
  ·rename_i hc;obtain⟨h1,h2,h3⟩:=hc;obtain⟨vs,rfl,hv⟩:=hp.YM h3;obtain⟨r,h4,h5⟩:=IV hte hv h w;refine⟨r, ?_,h5⟩;rw[hd] at hu;simp[Instr.index,asIntOf,aS hu w,h1,fQ hte w,h4]
  ·simp at h
 ·simp at h
theorem Py {x:Value}{p:TV}{i:Nat}(hp:VR G p x)(h:IJ p i=some v)(w:World):∃r,(Instr.extract x i).run C.P w=.ok r w/\VR G v r:=by
 unfold IJ at h;split at h
 ·cases hp with|cG _ vs hl hh=>
   obtain⟨u,h1,h2⟩:=dU.at ⟨hl,hh⟩ h
   refine⟨u, ?_,h2⟩
   have:vs.toArray[i]?=some u:=by simpa using h1
   simp[Instr.extract,this]
 ·rename_i cs;cases hp with|t _ _ ht=>cases ht with|cG _ vs hl hh=>
   obtain⟨u,h1,h2⟩:=dU.at (HG.Pu (G:=G) ⟨hl,hh⟩) (by simpa using h)
   refine⟨u, ?_,h2⟩
   have:vs.toArray[i]?=some u:=by simpa using h1
   simp[Instr.extract,this]
 ·simp at h
theorem SN {x:Value}{p:TV}{xt t:TypeId}{ok:Bool}(hp:VR G p x)(h:M1 C.P p t ok=some v)(w:World):∃r,(Instr.typeAssert x xt t ok).run C.P w=.ok r w/\VR G v r:=by
 unfold M1 at h;cases ht:bw C.P t<;>simp only[ht,reduceCtorEq] at h;rename_i ta;obtain⟨_,_,hu,_⟩:=bW ht;have hx:∀t' v',(match p with|.iface t v=>some (t,v)|.t (.iface t v)=>some (t,.t v)|_=>none)=some (t',v')->∃y,x=.iface t' y/\VR G v' y:=by
  intro t' v' he;split at he<;>simp at he
  ·obtain⟨rfl,rfl⟩:=he;cases hp with|iface _ _ y hy=>exact⟨y,rfl,hy⟩
  ·obtain⟨rfl,rfl⟩:=he;cases hp with|t _ _ hy=>cases hy with|iface _ _ y hy=>exact⟨y,rfl,.t _ _ hy⟩
 split at h
 ·simp at h
 ·rename_i t' v' he hni;obtain⟨y,rfl,hy⟩:=hx t' v' he;split at h
  ·rename_i YO;subst YO;simp at h;subst h;refine⟨if ok then .tuple #[y,.bool true] else y, ?_, ?_⟩
   ·unfold Instr.typeAssert;rw[iU (aS hu w)];cases hdd:ta.desc<;>first
     |(exact absurd hdd (hni _))
     |(cases ok<;>simp)
   ·cases ok
    ·exact hy
    ·exact pz (dU.cons hy (dU.one (.t _ _ (.bool true))))
  ·rename_i YO;split at h
   ·rename_i hok;subst hok;cases hz:ta.zero<;>simp[hz] at h;subst h;obtain⟨z,hz1,K8⟩:=gI ht hz w G;refine⟨.tuple #[z,.bool false], ?_,pz (dU.cons K8 (dU.one (.t _ _ (.bool false))))⟩;unfold Instr.typeAssert;rw[iU (aS hu w)];cases hdd:ta.desc<;>first
     |(exact absurd hdd (hni _))
     |simp[YO,hz1]
   ·simp at h
 ·simp at h
def sure:Value->Prop
 |.pointer (some _)=>True
 |.func (.func _) _ _=>True
 |_=>False
theorem Pz {x:Value}{p:TV}(hp:VR G p x)(h:Pp p=true):sure x:=by
 unfold Pp at h;split at h<;>simp at h
 ·cases hp;trivial
 ·cases hp with|lR _ _ _ _ _ _ _ _ _ _ ho _=>obtain⟨_,rfl⟩:=ho;trivial
 ·cases hp;trivial
 ·cases hp with|t _ _ hp=>cases hp;trivial
 ·cases hp;trivial
end
end Go.Abs
namespace Go.Abs
open Go
theorem Tree.IX {x:Tree}(h:x.leaf=true):x.cells=[x]:=by cases x<;>simp_all [Tree.leaf,Tree.cells]
theorem xG {g:Bool}{size:Nat}:∀{n:Nat} {cs es:List Tree},chunk g size n cs=some es->es.length=n/\flat es=cs/\∀e∈es,e.cells.length=size:=by
 intro n;induction n with
 | zero=>
   intro cs es h
   simp only[chunk] at h
   split at h<;>simp at h
   rename_i hc
   subst h
   simp at hc
   subst hc
   simp[flat]
 | succ n ih =>
   intro cs es h
   simp only[chunk] at h
   split at h
   · rename_i hle
     cases hr:chunk g size n (cs.drop size) with
     |none=>rw[hr] at h;simp at h
     | some r=>
       rw[hr] at h
       simp only at h
       obtain⟨h1,h2,h3⟩:=ih hr
       split at h
       · simp at h;subst h
         refine⟨by simp[h1], ?_,λe he=> ?_⟩
         · simp only[flat,List.flatMap_cons,Tree.cells] at h2 ⊢
           rw[h2,List.take_append_drop]
         · rcases List.mem_cons.1 he with rfl|he
           · simp[Tree.cells,hle]
           · exact h3 e he
       · split at h
         · rename_i c rest
           split at h<;>simp at h
           rename_i hc
           obtain⟨rfl,hl⟩:=hc
           subst h
           refine⟨by simp[h1], ?_,λe he=> ?_⟩
           · simp only[flat,List.flatMap_cons,Tree.IX hl] at h2 ⊢
             rw[h2];simp
           · rcases List.mem_cons.1 he with rfl|he
             · simp[Tree.IX hl]
             · exact h3 e he
         · simp at h
   · simp at h
section
variable {G:Gh}{w:World}{H:Heap}
open Classical in
noncomputable def M8 (G:Gh)(w:World)(H:Heap)(ks:List Nm):y8:=λb o=>
 if ∃k,k∈ks/\G.dom k/\∃g e fz cs,H.get k=some (.arr g e fz cs)/\G.mu k=b/\o<cs.length then w.cell? ⟨b,o,none⟩ else G.F b o
noncomputable def Gh.frozen (G:Gh)(w:World)(H:Heap)(ks:List Nm):Gh:={G with F:=M8 G w H ks}
theorem zk (hw:WF G w)(ks:List Nm):∀b o v,G.F b o=some v->M8 G w H ks b o=some v:=by
 intro b o v h;unfold M8;split
 ·obtain⟨vs,ty,fr,h1,h2⟩:=hw.F b o v h;rw[cell_of h1];exact h2
 ·exact h
theorem IY (    hw:WF G w)(hH:HR G w H)(ks:List Nm):∀(n:Nat) (v:TV) (x:Tree) (k0:List Nm) (val:Value),sG H n v=some (x,k0)->(∀k∈k0,k∈ks)->VR G v val->VT (M8 G w H ks) x val:=by
 intro n;induction n with
 | zero=>
   intro v x k0 val h hk hv
   cases v<;>simp only[sG] at h<;>try (simp at h;done)
   · simp at h;obtain⟨rfl,rfl⟩:=h;exact hv.tree.mono (zk hw ks)
   · simp at h;obtain⟨rfl,rfl⟩:=h;cases hv;exact .Fg _ _
   · simp at h;obtain⟨rfl,rfl⟩:=h;cases hv with|qp _ _ hv=>exact hv.mono (zk hw ks)
 | succ n ih =>
   have ihs:∀(vs:List TV) (xs:List Tree) (k0:List Nm) (vals:List Value),CK (sG H n) vs=some (xs,k0)->(∀k∈k0,k∈ks)->dU G vs vals->HG (M8 G w H ks) xs vals:=by
     intro vs
     induction vs with
     |nil=>intro xs k0 vals h _ hv;simp[CK] at h;obtain⟨rfl,rfl⟩:=h;have:=hv.1;simp at this;subst this;exact HG.nil _
     | cons v r ihr=>
       intro xs k0 vals h hk hv
       obtain⟨u,us,rfl,h1,h2⟩:=hv.j5
       simp only[CK] at h
       cases h3:sG H n v<;>cases h4:CK (sG H n) r<;>simp[h3,h4] at h
       rename_i p q
       obtain⟨rfl,rfl⟩:=h
       exact HG.cons (ih v p.1 p.2 u (by rw[h3]) (λk hk'=>hk k (List.mem_append.2 (.inl hk'))) h1)
         (ihr q.1 q.2 us (by rw[h4]) (λk hk'=>hk k (List.mem_append.2 (.inr hk'))) h2)
   intro v x k0 val h hk hv
   cases v with
   |any=>simp[sG] at h
   |t y=>simp only[sG] at h;simp at h;obtain⟨rfl,rfl⟩:=h;exact hv.tree.mono (zk hw ks)
   |bX=>simp only[sG] at h;simp at h;obtain⟨rfl,rfl⟩:=h;cases hv;exact .Fg _ _
   |qp es=>simp only[sG] at h;simp at h;obtain⟨rfl,rfl⟩:=h;cases hv with|qp _ _ hv=>exact hv.mono (zk hw ks)
   | ref k off len =>
     simp only[sG] at h
     split at h
     · rename_i g cc fz cs hk'
       split at h
       · rename_i hc
         obtain⟨hpos,hlen⟩:=hc
         split at h
         · rename_i ts ks' hts
           split at h
           · rename_i es Bh
             simp at h
             obtain⟨rfl,rfl⟩:=h
             obtain⟨hd,he,cap,vs,ty,fr,ha,hh,ht,hs,hl,hvs,hf⟩:=hH k _ hk'
             cases hv with|ref _ _ _ n' YL cap' _ hd' CS hle ho BI=>
               rw[ha] at CS
               simp at CS
               obtain⟨e1,e2,e3⟩:=CS
               subst e2;subst e3
               obtain⟨a,rfl,aly⟩:=BI (by rw[hlen];exact e1)
               obtain⟨c1,c2,c3⟩:=xG Bh
               by_cases hne:es=[]
               · subst hne
                 simp at c1
                 subst c1
                 exact .Fg _ _
               · have U5:len≠0:=by intro e;subst e;exact hne (List.length_eq_zero_iff.1 c1)
                 have hcap:off+len<=cap:=by
                   have:(off+len) *cc<=cap*cc:=by rw[hlen,← hs];exact hl
                   exact Nat.le_of_mul_le_mul_right this hpos
                 rw[aly (by omega),← c1]
                 have hsub:=(hvs.drop (off*cc)).take (len*cc)
                 have hVT:=ihs _ ts ks' _ hts (λk hk2=>hk k (List.mem_cons_of_mem _ hk2)) hsub
                 have htl:ts.length=len*cc:=by
                   have:=hVT.1
                   have h2:=hsub.1
                   simp at h2 this
                   rw[← this,h2]
                   have:(off+len) *cc=off*cc+len*cc:=Nat.add_mul _ _ _
                   omega
                 have hmul:(off+len) *cc=off*cc+len*cc:=Nat.add_mul _ _ _
                 refine .sl cc es (G.mu k) (off*cc) (cap - off) (λj=>vs.toList.getD (off*cc+j) undef) hne (by omega) c3 ?_ ?_
                 · intro j c hj
                   rw[c2] at hj
                   have hjl:j<ts.length:=(List.getElem?_eq_some_iff.1 hj).1
                   have hbound:off*cc+j<cs.length:=by omega
                   unfold M8
                   rw[if_pos ⟨k,hk k List.mem_cons_self,hd,g,cc,fz,cs,hk',rfl,hbound⟩,cell_of hh]
                   have:off*cc+j<vs.size:=by omega
                   simp[List.getD,this]
                 · intro j c hj
                   rw[c2] at hj
                   have hjl:j<ts.length:=(List.getElem?_eq_some_iff.1 hj).1
                   have hbound:off*cc+j<cs.length:=by omega
                   have hvl:off*cc+j<vs.size:=by omega
                   refine hVT.2 j c _ hj ?_
                   rw[List.getElem?_take,if_pos (by omega),List.getElem?_drop,List.getElem?_take,if_pos hbound]
                   simp[List.getD,hvl]
           · simp at h
         · simp at h
       · simp at h
     · simp at h
   | agg cs=>
     simp only[sG] at h
     cases h1:CK (sG H n) cs<;>simp[h1] at h
     obtain⟨rfl,rfl⟩:=h
     cases hv with|agg _ vs hl hh=>exact(ihs cs _ _ vs (by rw[h1]) hk ⟨hl,hh⟩).agg
   | cG cs=>
     simp only[sG] at h
     cases h1:CK (sG H n) cs<;>simp[h1] at h
     obtain⟨rfl,rfl⟩:=h
     cases hv with|cG _ vs hl hh=>exact(ihs cs _ _ vs (by rw[h1]) hk ⟨hl,hh⟩).cG
   | iface ty y=>
     simp only[sG] at h
     cases h1:sG H n y<;>simp[h1] at h
     obtain⟨rfl,rfl⟩:=h
     cases hv with|iface _ _ u hu=>exact .iface _ _ _ (ih y _ _ u (by rw[h1]) hk hu)
   | fn f fs cs=>
     cases fs<;>cases cs<;>simp only[sG] at h<;>simp at h
     obtain⟨rfl,rfl⟩:=h
     cases hv with|fn _ _ _ vs ws hl _ hl' _=>simp at hl hl';subst hl;subst hl';exact .fn f
   |ptr=>simp[sG] at h
   |lR=>simp[sG] at h
   |lS=>simp[sG] at h
   |map=>simp[sG] at h
theorem kV (hw:WF G w)(hH:HR G w H)(ks:List Nm):Step (λk=>k∈ks/\∃g e fz cs,H.get k=some (.arr g e fz cs)) (λ_=>False) G w (G.frozen w H ks) w:=by
 refine⟨⟨zk hw ks,λ_ d=>d,λ_ _ a=>⟨a,rfl⟩,λ_ n e c _ a=>⟨n,e,c,a,Nat.le_refl _,λ_=>⟨rfl,rfl,rfl⟩,.inl rfl⟩⟩,⟨λb o v h=> ?_,hw.inj,hw.lt⟩,λ_ _ _=>⟨rfl,rfl⟩,λb hb hn=>⟨rfl,λo=> ?_⟩,λ_ d=>.inl d,λk d=>.inl ⟨k,d,rfl,.inl rfl⟩,Nat.le_refl _,rfl,rfl,rfl⟩
 ·simp only[Gh.frozen,M8] at h;split at h
  ·unfold World.cell? at h;split at h
   ·rename_i c ty fr hb;simp at h;exact⟨c,ty,fr,hb,h⟩
   ·simp at h
  ·exact hw.F b o v h
 ·simp only[Gh.frozen,M8];rw[if_neg];rintro ⟨k,hk,hd,g,e,fz,cs,h1,h2,h3⟩;exact hn k ⟨hk,g,e,fz,cs,h1⟩ hd ((hH k _ h1).2.alive (by simp)) h2
theorem PA {H:Heap}{ks:List Nm}{k:Nm}{ob:aP}(h:(k,ob)∈eU H ks):k∈ks/\∃g e fz cs,H.get k=some (.arr g e fz cs)/\ob=.arr g e true cs:=by
 unfold eU at h;rw[List.mem_filterMap] at h;obtain⟨k',hk',h⟩:=h;split at h
 ·rename_i g e fz cs hg;simp at h;obtain⟨rfl,rfl⟩:=h;exact⟨hk',g,e,fz,cs,hg,rfl⟩
 ·simp at h
theorem pJ {H:Heap}{ks:List Nm}{k:Nm}(hk:k∈ks)(h:∃g e fz cs,H.get k=some (.arr g e fz cs)):k∈(eU H ks).map (·.1):=by
 obtain⟨g,e,fz,cs,hg⟩:=h;rw[List.mem_map];refine⟨(k,.arr g e true cs), ?_,rfl⟩;unfold eU;rw[List.mem_filterMap];exact⟨k,hk,by rw[hg]⟩
theorem wq (hw:WF G w)(hH:HR G w H){ks:List Nm}{k:Nm}{ob:aP}(h:(k,ob)∈eU H ks):(G.frozen w H ks).dom k/\OR (G.frozen w H ks) w k ob:=by
 obtain⟨hk,g,e,fz,cs,hg,rfl⟩:=PA h;obtain⟨hd,he,cap,vs,ty,fr,ha,hh,ht,hs,hl,hv,hf⟩:=hH k _ hg;refine⟨hd,he,cap,vs,ty,fr,ha,hh,ht,hs,hl,hv.mono (kV hw hH ks).le,λo ho=> ?_⟩;rcases ho with ho|ho
 ·simp at ho
 ·simp only[Gh.frozen,M8];rw[if_neg]
  ·exact hf o (.inr ho)
  ·rintro ⟨k',hk',hd',g',e',fz',cs',h1,h2,h3⟩;have:=hw.inj k' k hd' hd ((hH k' _ h1).2.alive (by simp)) (Gh.lH ha he) h2;subst this;rw[hg] at h1;simp at h1;obtain⟨_,_,_,rfl⟩:=h1;omega
end
end Go.Abs
