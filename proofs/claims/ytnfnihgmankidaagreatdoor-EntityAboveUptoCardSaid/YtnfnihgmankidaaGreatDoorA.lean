/- The abstract interpreter: trees and abstract values, the heap of a call, the operations on them. Program-independent. -/
import Derived.WalkKit
set_option linter.unusedVariables false
set_option linter.unusedSimpArgs false
namespace Go.Abs
open Go
inductive Nm where
 |arg (i:Nat)
 |loc (p:List Nat)
 deriving DecidableEq,Repr,Inhabited
inductive Tree where
 |bool (b:Bool)
 |int (k:IntKind) (n:Int)
 |str (s:List UInt8)
 |sl (es:List Tree)
 |agg (cs:List Tree)
 |cT (vs:List Tree)
 |bQ
 |iu
 |qq
 |fn (f:Fn)
 |yE
 |iface (t:TypeId) (v:Tree)
 deriving Inhabited
inductive TV where
 |t (x:Tree)
 |bX
 |mB (es:List Tree)
 |ref (k:Nm) (off len:Nat)
 |agg (cs:List TV)
 |cT (vs:List TV)
 |ptr (k:Nm) (off:Nat)
 |je (k:Nm) (n off:Nat)
 |jf (cs:List Tree) (off:Nat)
 |map (k:Nm)
 |fn (f:Fn) (first captured:List TV)
 |iface (t:TypeId) (v:TV)
 |any
 deriving Inhabited
inductive aK where
 |cells (ty:TypeId) (cs:List TV)
 |arr (g:TypeId×Bool) (bx:Nat) (fz:Bool) (cs:List TV)
 |map (es:List (TV×TV×Nat)) (clock:Nat)
 |dead
 deriving Inhabited
abbrev Heap:=List (Nm×aK)
def Heap.get (H:Heap)(k:Nm):Option aK:=
 match H with
 | []=>none
 |(k',o)::r=>if k'=k then some o else Heap.get r k
def Heap.put (H:Heap)(k:Nm)(o:aK):Heap:=
 match H with
 | []=>[(k,o)]
 |(k',o')::r=>if k'=k then(k,o)::r else(k',o')::Heap.put r k o
def Heap.dR (H:Heap)(u:List (Nm×aK)):Heap:=u.foldl (λh p=>h.put p.1 p.2) H
def Tree.cells:Tree->List Tree
 |.agg cs=>cs
 |x=>[x]
def TV.cells:TV->List TV
 |.t (.agg cs)=>cs.map .t
 |.agg cs=>cs
 |v=>[v]
def Tree.leaf:Tree->Bool
 |.agg _=>false
 |.cT _=>false
 |_=>true
def TV.leaf:TV->Bool
 |.t x=>x.leaf
 |.any=>false
 |.agg _=>false
 |.cT _=>false
 |_=>true
def Ak:TV->Bool
 |.t (.agg _)=>true
 |.agg _=>true
 |_=>false
def allT:List TV->Option (List Tree)
 | []=>some []
 |.t x::r=>match allT r with
  |some xs=>some (x::xs)
  |none=>none
 |_::_=>none
def w6 (cs:List TV):TV:=
 match allT cs with
 |some ts=>.t (.agg ts)
 |none=>.agg cs
def oa (cs:List TV):TV:=
 match allT cs with
 |some ts=>.t (.cT ts)
 |none=>.cT cs
def bN:TV:=.t (.cT [])
def flat (es:List Tree):List Tree:=es.flatMap Tree.cells
def xL:Value->Option TV
 |.bool b=>some (.t (.bool b))
 |.int k n=>some (.t (.int k n))
 |.string s=>some (.t (.str s.data.toList))
 |.slice none 0 0=>some .bX
 |.pointer none=>some (.t .bQ)
 |.map none=>some (.t .iu)
 |.nilFunc=>some (.t .qq)
 |.nilIface=>some (.t .yE)
 |.func f fs cs=>if fs.isEmpty&&cs.isEmpty then some (.t (.fn f)) else none
 |_=>none
def k7:List Value->Option (List TV)
 | []=>some []
 |v::r=>match xL v,k7 r with
  |some x,some xs=>some (x::xs)
  |_,_=>none
def valOf:Value->Option TV
 |.agg cs=>match k7 cs.toList with
  |some xs=>some (w6 xs)
  |none=>none
 |.tuple cs=>match k7 cs.toList with
  |some xs=>some (oa xs)
  |none=>none
 |v=>xL v
def CC:TV->Option Value
 |.t (.bool b)=>some (.bool b)
 |.t (.int k n)=>some (.int k n)
 |.t (.str s)=>some (.string ⟨s.toArray⟩)
 |.bX=>some (.slice none 0 0)
 |.t .bQ=>some (.pointer none)
 |.t .iu=>some (.map none)
 |.t .qq=>some .nilFunc
 |.t .yE=>some .nilIface
 |_=>none
def oc:List TV->Option (List Value)
 | []=>some []
 |v::r=>match CC v,oc r with
  |some x,some xs=>some (x::xs)
  |_,_=>none
def CD:TV->Option Value
 |.t (.agg cs)=>match oc (cs.map .t) with
  |some vs=>some (.agg vs.toArray)
  |none=>none
 |.agg cs=>match oc cs with
  |some vs=>some (.agg vs.toArray)
  |none=>none
 |v=>CC v
def jD:TV->Option Value
 |.t (.iface t x)=>match CD (.t x) with
  |some v=>some (.iface t v)
  |none=>none
 |.iface t x=>match CD x with
  |some v=>some (.iface t v)
  |none=>none
 |v=>CD v
def cR {α:Type}(P:Program):Sem α->Option α
 |.pure a=>some a
 |.program k=>cR P (k P)
 |_=>none
structure TI where
 size:Nat
 bytes:Nat
 agg:Bool
 zero:Option TV
 desc:TypeDesc
def R8 (P:Program)(t:TypeId):Option TI:=
 match P.info? t,P.underlying t with
 |some i,some d=>some {size:=i.size,bytes:=i.bytes,agg:=(match d with|.struct _|.array _ _=>true|_=>false),zero:=i.zero.bind valOf,desc:=d}
 |_,_=>none
structure ij where
 prog:Program
 ty:TypeId->Option TI
 fn:FuncId->Option Func
 acV:∀t i,ty t=some i->R8 prog t=some i
 Qa:∀f g,fn f=some g->prog.funcs[f]?=some g
instance:Coe ij Program:=⟨ij.prog⟩
def aW (P:ij)(t:TypeId):Option TI:=P.ty t
def partT (agg:Bool)(size:Nat)(cs:List TV)(off:Nat):Option TV:=
 if agg then(if off+size<=cs.length then some (w6 ((cs.drop off).take size)) else none) else cs[off]?
def sI (H:Heap):TV->Option (List TV×Nat)
 |.ptr k off=>match H.get k with
  |some (.cells _ cs)=>some (cs,off)
  |_=>none
 |.je k n off=>match H.get k with
  |some (.arr _ _ _ cs)=>if cs.length=n then some (cs,off) else none
  |_=>none
 |.jf cs off=>some (cs.map .t,off)
 |_=>none
def loadT (P:ij)(H:Heap)(t:TypeId)(a:TV):Option TV:=
 match aW P t,sI H a with
 |some ti,some (cs,off)=>partT ti.agg ti.size cs off
 |_,_=>none
def cr (cs:List TV)(off:Nat)(vs:List TV):List TV:=cs.take off++vs++cs.drop (off+vs.length)
def storeT (P:ij)(H:Heap)(t:TypeId)(a x:TV):Option (List (Nm×aK)):=
 match aW P t with
 |none=>none
 | some ti=>
  if x.cells.length=ti.size/\x.cells.all TV.leaf=true then
   match a with
   |.ptr k off=>match H.get k with
    |some (.cells ty cs)=>if off+ti.size<=cs.length then some [(k,.cells ty (cr cs off x.cells))] else none
    |_=>none
   |.je k n off=>match H.get k with
    |some (.arr g bx false cs)=>if cs.length=n/\off+ti.size<=cs.length then some [(k,.arr g bx false (cr cs off x.cells))] else none
    |_=>none
   |_=>none
  else none
def pH (H:Heap)(a:TV)(n:Nat):Option TV:=
 match a with
 |.ptr k o=>some (.ptr k (o+n))
 |.je k m o=>match H.get k with
  |some (.arr _ _ _ cs)=>if cs.length=m then some (.je k m (o+n)) else none
  |_=>none
 |.jf cs o=>some (.jf cs (o+n))
 |_=>none
def qt (place:Nat->Option (Nat×Nat))(cells:List TV):List (Nat×TV)->Option (List TV)
 | []=>some cells
 |(i,v)::rest=>
  match place i with
  |none=>none
  |some (off,size)=>if v.cells.length=size/\off+size<=cells.length/\v.cells.all TV.leaf=true then qt place (cr cells off v.cells) rest else none
def jE (P:ij)(fs:List Field):Option (List (Nat×Nat)):=
 match fs with
 | []=>some []
 |f::r=>match aW P f.type,jE P r with
  |some ti,some ps=>some ((f.offset,ti.size)::ps)
  |_,_=>none
def L5 (P:ij)(t:TypeId)(parts:List (Nat×TV)):Option TV:=
 match aW P t with
 |none=>none
 | some ti=>
  match ti.zero,ti.desc with
  | some z,.struct fs=>match jE P fs.toList with
   |some ps=>match qt (λi=>ps[i]?) z.cells parts with
    |some cs=>some (w6 cs)
    |none=>none
   |none=>none
  | some z,.array _ elem=>match aW P elem with
   |some te=>match qt (λi=>some (i*te.size,te.size)) z.cells parts with
    |some cs=>some (w6 cs)
    |none=>none
   |none=>none
  |_,_=>none
def chunk (agg:Bool)(size:Nat):Nat->List Tree->Option (List Tree)
 |0,cs=>if cs.isEmpty then some [] else none
 | n+1,cs=>
  if size<=cs.length then
   match chunk agg size n (cs.drop size) with
   |some r=>if agg then some (.agg (cs.take size)::r) else match cs with
    |c::_=>if size=1/\c.leaf=true then some (c::r) else none
    | []=>none
   |none=>none
  else none
def qO (n:Nat)(z:List TV):List TV:=match n with
 |0=>[]
 |n+1=>z++qO n z
def eT:TV->Option Nat
 |.t (.int _ n)=>if 0<=n then some n.toNat else none
 |_=>none
abbrev uK:=Nat->Nat->Option Value
inductive VT (F:uK):Tree->Value->Prop
 |bool (b):VT F (.bool b) (.bool b)
 |int (k n):VT F (.int k n) (.int k n)
 |str (s):VT F (.str s) (.string ⟨s.toArray⟩)
 |Al (a cap):VT F (.sl []) (.slice a 0 cap)
 | sl (bx es b o cap) (vals:Nat->Value) (hne:es≠ []) (hc:es.length<=cap)
   (hu:∀e∈es,e.cells.length=bx) (hF:∀j c,(flat es)[j]?=some c->F b (o+j)=some (vals j))
   (hv:∀j c,(flat es)[j]?=some c->VT F c (vals j)):VT F (.sl es) (.slice (some ⟨b,o,none⟩) es.length cap)
 |agg (cs) (vs:List Value) (hl:vs.length=cs.length) (h:∀(j:Nat) c v,cs[j]?=some c->vs[j]?=some v->VT F c v):VT F (.agg cs) (.agg vs.toArray)
 |cT (cs) (vs:List Value) (hl:vs.length=cs.length) (h:∀(j:Nat) c v,cs[j]?=some c->vs[j]?=some v->VT F c v):VT F (.cT cs) (.tuple vs.toArray)
 |bQ:VT F .bQ (.pointer none)
 |iu:VT F .iu (.map none)
 |qq:VT F .qq .nilFunc
 |fn (f):VT F (.fn f) (.func f #[] #[])
 |yE:VT F .yE .nilIface
 |iface (t x v) (h:VT F x v):VT F (.iface t x) (.iface t v)
theorem VT.mono {F F':uK}(hF:∀b o v,F b o=some v->F' b o=some v){x:Tree}{v:Value}(h:VT F x v):VT F' x v:=by
 induction h with
 |bool=>exact .bool _
 |int=>exact .int _ _
 |str=>exact .str _
 |Al a c=>exact .Al a c
 |sl e es b o cap vals hne hc hu hf hv ih=>exact .sl e es b o cap vals hne hc hu (λj c h=>hF _ _ _ (hf j c h)) ih
 |agg cs vs hl h ih=>exact .agg cs vs hl ih
 |cT cs vs hl h ih=>exact .cT cs vs hl ih
 |bQ=>exact .bQ
 |iu=>exact .iu
 |qq=>exact .qq
 |fn=>exact .fn _
 |yE=>exact .yE
 |iface t x v h ih=>exact .iface t x v ih
structure Gh where
 F:uK
 mu:Nm->Nat
 arr:Nm->Option (Nat×Nat×Nat)
 dom:Nm->Prop
def one:Value->Bool
 |.agg _=>false
 |.tuple _=>false
 |_=>true
inductive VR (G:Gh):TV->Value->Prop
 |t (x v) (h:VT G.F x v):VR G (.t x) v
 |bX:VR G .bX (.slice none 0 0)
 |mB (es a) (h:VT G.F (.sl es) (.slice a es.length es.length)):VR G (.mB es) (.slice a es.length es.length)
 | ref (k off len n bx cap v) (hd:G.dom k) (ha:G.arr k=some (n,bx,cap)) (hle:(off+len) *bx<=n) (ho:∃a c,v=.slice a len c)
   (hv:(off+len) *bx=n->∃a,v=.slice a len (cap - off)/\(off<cap->a=some ⟨G.mu k,off*bx,none⟩)):VR G (.ref k off len) v
 |agg (cs) (vs:List Value) (hl:vs.length=cs.length) (h:∀(j:Nat) c v,cs[j]?=some c->vs[j]?=some v->VR G c v):VR G (.agg cs) (.agg vs.toArray)
 |cT (cs) (vs:List Value) (hl:vs.length=cs.length) (h:∀(j:Nat) c v,cs[j]?=some c->vs[j]?=some v->VR G c v):VR G (.cT cs) (.tuple vs.toArray)
 |ptr (k off) (hd:G.dom k) (hn:G.arr k=none):VR G (.ptr k off) (.pointer (some ⟨G.mu k,off,none⟩))
 |je (k n off n' bx cap v) (hd:G.dom k) (ha:G.arr k=some (n',bx,cap)) (hle:n<=n') (ho:∃ad,v=.pointer (some ad)) (hv:n=n'->v=.pointer (some ⟨G.mu k,off,none⟩)):VR G (.je k n off) v
 | jf (cs off b o) (vals:Nat->Value) (hF:∀j c,cs[j]?=some c->G.F b (o+j)=some (vals j)) (hv:∀j c,cs[j]?=some c->VT G.F c (vals j)):
   VR G (.jf cs off) (.pointer (some ⟨b,o+off,none⟩))
 |map (k) (hd:G.dom k) (hn:G.arr k=none):VR G (.map k) (.map (some (G.mu k)))
 | fn (f fs cs) (vs ws:List Value) (hl:vs.length=fs.length) (h:∀(j:Nat) c v,fs[j]?=some c->vs[j]?=some v->VR G c v)
   (hl':ws.length=cs.length) (h':∀(j:Nat) c v,cs[j]?=some c->ws[j]?=some v->VR G c v):VR G (.fn f fs cs) (.func f vs.toArray ws.toArray)
 |iface (t x v) (h:VR G x v):VR G (.iface t x) (.iface t v)
 |any (v):VR G .any v
structure Gh.le (G G':Gh):Prop where
 F:∀b o v,G.F b o=some v->G'.F b o=some v
 dom:∀k,G.dom k->G'.dom k
 plain:∀k,G.dom k->G.arr k=none->G'.arr k=none/\G'.mu k=G.mu k
 arr:∀k n e c,G.dom k->G.arr k=some (n,e,c)->∃n' e' c',G'.arr k=some (n',e',c')/\n<=n'/\(n=n'->e'=e/\c'=c/\G'.mu k=G.mu k)/\(e'=e\/e'=0)
def Gh.alive (G:Gh)(k:Nm):Prop:=∀n c,G.arr k≠some (n,0,c)
theorem Gh.iQ {G:Gh}{k:Nm}(h:G.arr k=none):G.alive k:=λn c e=>by rw[h] at e;cases e
theorem Gh.iD {G:Gh}{k:Nm}{n e c:Nat}(h:G.arr k=some (n,e,c))(he:0<e):G.alive k:=λn' c' x=>by rw[h] at x;cases x;omega
theorem Gh.le.alive {G G':Gh}(h:G.le G'){k:Nm}(d:G.dom k)(ha:G'.alive k):G.alive k:=λn c e=>by
 obtain⟨n',e',c',a,_,_,r⟩:=h.arr k n 0 c d e;rcases r with rfl|rfl<;>exact ha _ _ a
theorem Gh.le.refl (G:Gh):G.le G:=⟨λ_ _ _ h=>h,λ_ h=>h,λ_ _ h=>⟨h,rfl⟩,λ_ n e c _ h=>⟨n,e,c,h,Nat.le_refl _,λ_=>⟨rfl,rfl,rfl⟩,.inl rfl⟩⟩
theorem Gh.le.trans {A B C:Gh}(h:A.le B)(k:B.le C):A.le C:=by
 refine⟨λb o v x=>k.F _ _ _ (h.F _ _ _ x),λx d=>k.dom _ (h.dom _ d),λx d a=> ?_,λx n e c d a=> ?_⟩
 ·obtain⟨a1,m1⟩:=h.plain x d a;obtain⟨a2,m2⟩:=k.plain x (h.dom _ d) a1;exact⟨a2,m2.trans m1⟩
 ·obtain⟨n1,f1,c1,a1,l1,e1,o1⟩:=h.arr x n e c d a;obtain⟨n2,f2,c2,a2,l2,e2,o2⟩:=k.arr x n1 f1 c1 (h.dom _ d) a1;refine⟨n2,f2,c2,a2,Nat.le_trans l1 l2,λe=> ?_, ?_⟩
  ·obtain⟨g1,p1,q1⟩:=e1 (by omega);obtain⟨g2,p2,q2⟩:=e2 (by omega);exact⟨g2.trans g1,p2.trans p1,q2.trans q1⟩
  ·rcases o2 with rfl|rfl
   ·exact o1
   ·exact .inr rfl
theorem VR.mono {G G':Gh}(hG:G.le G'){x:TV}{v:Value}(h:VR G x v):VR G' x v:=by
 induction h with
 |t x v h=>exact .t x v (h.mono hG.F)
 |bX=>exact .bX
 |mB es a h=>exact .mB es a (h.mono hG.F)
 | ref k off len n bx cap v hd ha hle ho hv=>
   obtain⟨n',f',c',a',l',e',o'⟩:=hG.arr k n bx cap hd ha
   refine .ref k off len n' f' c' v (hG.dom _ hd) a' ?_ ho λhh=> ?_
   · rcases o' with rfl|rfl
     · exact Nat.le_trans hle l'
     · rw[Nat.mul_zero];exact Nat.zero_le _
   · have hn:n=n':=by
       rcases o' with rfl|rfl
       · omega
       · rw[Nat.mul_zero] at hh;omega
     obtain⟨r,p,q⟩:=e' hn
     subst r
     obtain⟨a,hva,hb⟩:=hv (by omega)
     rw[p,q]
     exact⟨a,hva,hb⟩
 |agg cs vs hl h ih=>exact .agg cs vs hl ih
 |cT cs vs hl h ih=>exact .cT cs vs hl ih
 | ptr k off hd hn=>
   obtain⟨a,m⟩:=hG.plain k hd hn
   rw[← m]
   exact .ptr k off (hG.dom _ hd) a
 | je k n off n' bx cap v hd ha hle ho hv=>
   obtain⟨n2,f',c',a',l',e',_⟩:=hG.arr k n' bx cap hd ha
   refine .je k n off n2 f' c' v (hG.dom _ hd) a' (Nat.le_trans hle l') ho λhh=> ?_
   obtain⟨_,p,q⟩:=e' (by omega)
   rw[hv (by omega),q]
 |jf cs off b o vals hF hv=>exact .jf cs off b o vals (λj c h=>hG.F _ _ _ (hF j c h)) (λj c h=>(hv j c h).mono hG.F)
 | map k hd hn=>
   obtain⟨a,m⟩:=hG.plain k hd hn
   rw[← m]
   exact .map k (hG.dom _ hd) a
 |fn f fs cs vs ws hl h hl' h' ih Jq=>exact .fn f fs cs vs ws hl ih hl' Jq
 |iface t x v h ih=>exact .iface t x v ih
 |any v=>exact .any v
def cv (G:Gh)(cs:List TV)(vs:List Value):Prop:=vs.length=cs.length/\∀(j:Nat) c v,cs[j]?=some c->vs[j]?=some v->VR G c v
theorem cv.mono {G G':Gh}(hG:G.le G'){cs:List TV}{vs:List Value}(h:cv G cs vs):cv G' cs vs:=⟨h.1,λj c v a b=>(h.2 j c v a b).mono hG⟩
theorem cv.nil (G:Gh):cv G [] []:=⟨rfl,by simp⟩
theorem cv.cons {G:Gh}{c:TV}{v:Value}{cs:List TV}{vs:List Value}(h:VR G c v)(hs:cv G cs vs):cv G (c::cs) (v::vs):=by
 refine⟨by simp[hs.1],λj d u hd hu=> ?_⟩;cases j with
 |zero=>simp at hd hu;subst hd;subst hu;exact h
 |succ j=>simp at hd hu;exact hs.2 j d u hd hu
theorem cv.gq {G:Gh}{c:TV}{cs:List TV}{vs:List Value}(h:cv G (c::cs) vs):∃v vs',vs=v::vs'/\VR G c v/\cv G cs vs':=by
 obtain⟨hl,hp⟩:=h;cases vs with
 |nil=>simp at hl
 |cons v vs'=>
  refine⟨v,vs',rfl,hp 0 c v rfl rfl,by simpa using hl,λj d u hd hu=>hp (j+1) d u (by simpa using hd) (by simpa using hu)⟩
theorem cv.at {G:Gh}{cs:List TV}{vs:List Value}(h:cv G cs vs){j:Nat}{c:TV}(hc:cs[j]?=some c):∃v,vs[j]?=some v/\VR G c v:=by
 have hj:j<cs.length:=(List.getElem?_eq_some_iff.1 hc).1;have hj':j<vs.length:=by rw[h.1];exact hj
 exact⟨vs[j],List.getElem?_eq_getElem hj',h.2 j c _ hc (List.getElem?_eq_getElem hj')⟩
theorem cv.append {G:Gh}{cs ds:List TV}{vs ws:List Value}(h:cv G cs vs)(k:cv G ds ws):cv G (cs++ds) (vs++ws):=by
 refine⟨by simp[h.1,k.1],λj c v hc hv=> ?_⟩;by_cases hj:j<cs.length
 ·rw[List.getElem?_append_left hj] at hc;rw[List.getElem?_append_left (by rw[h.1];exact hj)] at hv;exact h.2 j c v hc hv
 ·rw[List.getElem?_append_right (by omega)] at hc;rw[List.getElem?_append_right (by rw[h.1];omega),h.1] at hv;exact k.2 _ c v hc hv
theorem cv.drop {G:Gh}{cs:List TV}{vs:List Value}(h:cv G cs vs)(n:Nat):cv G (cs.drop n) (vs.drop n):=
 ⟨by simp[h.1],λj c v hc hv=>by rw[List.getElem?_drop] at hc hv;exact h.2 _ c v hc hv⟩
theorem cv.take {G:Gh}{cs:List TV}{vs:List Value}(h:cv G cs vs)(n:Nat):cv G (cs.take n) (vs.take n):=
 ⟨by simp[h.1],λj c v hc hv=>by
  rw[List.getElem?_take] at hc hv
  split at hc
  · rename_i hlt;rw[if_pos hlt] at hv;exact h.2 _ c v hc hv
  · simp at hc⟩
end Go.Abs
noncomputable section
namespace Go.Abs
open Go
def yF (g:TV->Option (Tree×List Nm)):List TV->Option (List Tree×List Nm)
 | []=>some ([],[])
 |v::r=>match g v,yF g r with
  |some (x,ks),some (xs,ks')=>some (x::xs,ks++ks')
  |_,_=>none
def oe (H:Heap):Nat->TV->Option (Tree×List Nm)
 |_,.t x=>some (x,[])
 |_,.bX=>some (.sl [],[])
 |_,.mB es=>some (.sl es,[])
 |0,_=>none
 | n +1,.ref k off len=>match H.get k with
  | some (.arr g bx _ cs)=>
   if 0<bx/\(off+len) *bx=cs.length then
    match yF (oe H n) ((cs.drop (off*bx)).take (len*bx)) with
    |some (ts,ks)=>match chunk g.2 bx len ts with
     |some es=>some (.sl es,k::ks)
     |none=>none
    |none=>none
   else none
  |_=>none
 |n+1,.agg cs=>match yF (oe H n) cs with
  |some (ts,ks)=>some (.agg ts,ks)
  |none=>none
 |n+1,.cT cs=>match yF (oe H n) cs with
  |some (ts,ks)=>some (.cT ts,ks)
  |none=>none
 |n+1,.iface t v=>match oe H n v with
  |some (x,ks)=>some (.iface t x,ks)
  |none=>none
 |_+1,.fn f [] []=>some (.fn f,[])
 |_+1,_=>none
def fT:Nat:=24
def Heap.freeze (H:Heap):List Nm->Heap
 | []=>H
 |k::ks=>match H.get k with
  |some (.arr g bx _ cs)=>Heap.freeze (H.put k (.arr g bx true cs)) ks
  |_=>Heap.freeze H ks
def bK:List UInt8->List UInt8->Bool
 |_,[]=>false
 | [],_::_=>true
 |a::x,b::y=>a<b||(a==b&&bK x y)
def R9:Nat:=4611686018427387904
def Xg (op:BinOp)(x y:List UInt8):Option TV:=
 match op with
 |.add=>if x.length+y.length<=R9 then some (.t (.str (x++y))) else none
 |.eql=>some (.t (.bool (x==y)))
 |.neq=>some (.t (.bool (!(x==y))))
 |.lss=>some (.t (.bool (bK x y)))
 |.leq=>some (.t (.bool (bK x y||x==y)))
 |.gtr=>some (.t (.bool (!(bK x y||x==y))))
 |.geq=>some (.t (.bool (!(bK x y))))
 |_=>none
def FX (d:TypeDesc)(a b:TV):Option Bool:=
 match d,a,b with
 |.slice _,.bX,.bX=>some true
 |.slice _,.t (.sl (_::_)),.bX=>some false
 |.slice _,.mB (_::_),.bX=>some false
 |.slice _,.ref _ _ _,.bX=>none
 |.map _ _,.t .iu,.t .iu=>some true
 |.map _ _,.map _,.t .iu=>some false
 |.func _ _ _,.t .qq,.t .qq=>some true
 |.func _ _ _,.fn _ _ _,.t .qq=>some false
 |.func _ _ _,.t (.fn _),.t .qq=>some false
 |.pointer _,.t .bQ,.t .bQ=>some true
 |.pointer _,.ptr _ _,.t .bQ=>some false
 |.pointer _,.jf _ _,.t .bQ=>some false
 |_,_,_=>none
def sJ (P:ij)(op:BinOp)(t:TypeId)(x y:Operand)(a b:TV):Option TV:=
 match jD a,jD b with
 |some u,some v=>match cR P (do eqGuard op t x y u v;binOp op t u v) with
  |some r=>valOf r
  |none=>none
 |_,_=>none
def isNil:TV->Bool
 |.bX=>true
 |.t .iu=>true
 |.t .qq=>true
 |.t .bQ=>true
 |_=>false
def Qb (op:BinOp)(k:IntKind)(a b:Int):Option TV:=
 match op with
 |.add=>some (.t (.int k (k.wrap (a+b))))
 |.sub=>some (.t (.int k (k.wrap (a - b))))
 |.mul=>some (.t (.int k (k.wrap (a*b))))
 |.quo=>if b=0 then none else some (.t (.int k (k.wrap (a.tdiv b))))
 |.rem=>if b=0 then none else some (.t (.int k (a.tmod b)))
 |.eql=>some (.t (.bool (a==b)))
 |.neq=>some (.t (.bool (a != b)))
 |.lss=>some (.t (.bool (decide (a<b))))
 |.leq=>some (.t (.bool (decide (a<=b))))
 |.gtr=>some (.t (.bool (decide (a>b))))
 |.geq=>some (.t (.bool (decide (a>=b))))
 |_=>none
def qP (P:ij)(op:BinOp)(t:TypeId)(x y:Operand)(a b:TV):Option TV:=
 match a,b with
 |.t (.str s),.t (.str u)=>Xg op s u
 |.t (.int k n),.t (.int k' m)=>if k=k' then(match Qb op k n m with|some v=>some v|none=>sJ P op t x y (.t (.int k n)) (.t (.int k' m))) else sJ P op t x y (.t (.int k n)) (.t (.int k' m))
 | a,b=>
  if isNil b then
   match op,aW P t with
   |.eql,some ti=>(FX ti.desc a b).map λr=>.t (.bool r)
   |.neq,some ti=>(FX ti.desc a b).map λr=>.t (.bool (!r))
   |_,_=>none
  else sJ P op t x y a b
def unT (P:ij)(op:UnOp)(a:TV):Option TV:=
 match jD a with
 |some u=>match cR P (Op.unary op u) with
  |some r=>valOf r
  |none=>none
 |none=>none
def xM (H:Heap):TV->Option Nat
 |.t (.str s)=>some s.length
 |.t (.sl es)=>some es.length
 |.bX=>some 0
 |.mB es=>some es.length
 |.ref _ _ len=>some len
 |.t .iu=>some 0
 |.map k=>match H.get k with
  |some (.map es _)=>some es.length
  |_=>none
 |_=>none
def iE (H:Heap)(k:Nm)(off len:Nat):Option ((TypeId×Bool)×Nat×Bool×List TV):=
 match H.get k with
 |some (.arr g bx fz cs)=>if 0<bx/\(off+len) *bx=cs.length then some (g,bx,fz,cs) else none
 |_=>none
def dG (P:ij)(H:Heap)(t:TypeId)(x i:TV):Option TV:=
 match aW P t,eT i with
 | some ti,some i=>
  match ti.desc,x with
  |.slice elem,.t (.sl es)=>match aW P elem,es[i]? with
   |some te,some e=>if e.cells.length=te.size then some (.jf e.cells 0) else none
   |_,_=>none
  |.slice elem,.mB es=>match aW P elem,es[i]? with
   |some te,some e=>if e.cells.length=te.size then some (.jf e.cells 0) else none
   |_,_=>none
  |.slice elem,.ref k off len=>match aW P elem,iE H k off len with
   |some te,some (_,bx,_,cs)=>if te.size=bx/\i<len then some (.je k cs.length ((off+i) *bx)) else none
   |_,_=>none
  |.array len elem,x=>match aW P elem with
   |some te=>if i<len then pH H x (i*te.size) else none
   |none=>none
  |_,_=>none
 |_,_=>none
def pI (P:ij)(t:TypeId)(x i:TV):Option TV:=
 match aW P t,eT i with
 | some ti,some i=>
  match ti.desc,x with
  |.string,.t (.str s)=>match s[i]? with
   |some b=>some (.t (.int .u8 b.toNat))
   |none=>none
  |.array len elem,x=>match aW P elem with
   |some te=>if i<len/\te.size≠0/\Ak x=true then partT te.agg te.size x.cells (i*te.size) else none
   |none=>none
  |_,_=>none
 |_,_=>none
def ec (o:Option TV)(d:Nat):Option Nat:=
 match o with
 |none=>some d
 |some v=>eT v
def jF (size:Nat):List Tree->Bool
 | []=>true
 |e::_=>e.cells.length==size
def Qc (tight:Bool)(es:List Tree)(l h:Nat):TV:=if tight then .mB ((es.take h).drop l) else .t (.sl ((es.take h).drop l))
def pJ (P:ij)(H:Heap)(t:TypeId)(x:TV)(lo hi mx:Option TV):Option (TV×List Nm):=
 match aW P t with
 |none=>none
 | some ti=>
  match ti.desc with
  | .string=>match x with
   |.t (.str s)=>match ec lo 0,ec hi s.length,mx with
    |some l,some h,none=>if l<=h/\h<=s.length then some (.t (.str ((s.take h).drop l)),[]) else none
    |_,_,_=>none
   |_=>none
  | .slice elem=>match aW P elem,xM H x with
   | some te,some n=>
    match ec lo 0,ec hi n,ec mx n,(mx.isNone||hi.isSome) with
    | some l,some h,some m,true=>
     if l<=h/\h<=m/\m<=n then
      match x with
      |.bX=>some (.bX,[])
      |.t (.sl es)=>if jF te.size es=true then some (Qc (mx.isSome&&m==h) es l h,[]) else none
      |.mB es=>if jF te.size es=true then some (Qc ((mx.isSome&&m==h)||(mx.isNone&&h==n)) es l h,[]) else none
      | .ref k off len=>
       if h=len/\mx.isNone=true then(match iE H k off len with
        |some (_,bx,_,_)=>if bx=te.size then some (.ref k (off+l) (h - l),[]) else none
        |none=>none)
       else match oe H fT (.ref k off len) with
        |some (.sl es,ks)=>if jF te.size es=true then some (Qc (mx.isSome&&m==h) es l h,ks) else none
        |_=>none
      |_=>none
     else none
    |_,_,_,_=>none
   |_,_=>none
  |_=>none
def xN (P:ij)(H:Heap)(nm:Nm)(t:TypeId)(x:TV)(lo hi mx:Option TV):Option (TV×List (Nm×aK)):=
 match x,lo,hi,mx with
 | .ref k 0 len,none,some hv,none=>(match aW P t,eT hv,iE H k 0 len with
  | some ti,some h,some (g,bx,false,cs)=>(match ti.desc with
   |.slice elem=>(match aW P elem with
    |some te=>if te.size=bx/\h<=len then some (.ref nm 0 h,[(k,.dead),(nm,.arr g bx false (cs.take (h*bx)))]) else none
    |none=>none)
   |_=>none)
  |_,_,_=>none)
 |_,_,_,_=>none
def w8 (b:Bool)(P:ij)(H:Heap)(nm:Nm)(t:TypeId)(x:TV)(lo hi mx:Option TV):Option (TV×List (Nm×aK)):=if b=true then xN P H nm t x lo hi mx else none
theorem G6 {b:Bool}{P:ij}{H:Heap}{nm:Nm}{t:TypeId}{x:Tree}{lo hi mx:Option TV}:w8 b P H nm t (.t x) lo hi mx=none:=by
 cases b<;>rfl
def eB (H:Heap)(g:Bool)(bx:Nat):TV->Option (Nat×List TV)
 |.bX=>some (0,[])
 |.t (.sl es)=>if jF bx es=true then some (es.length,(flat es).map .t) else none
 |.mB es=>if jF bx es=true then some (es.length,(flat es).map .t) else none
 |.ref k off len=>match iE H k off len with
  |some (_,e,_,cs)=>if e=bx then some (len,cs.drop (off*bx)) else none
  |none=>none
 |.t (.str s)=>if bx=1/\g=false then some (s.length,s.map λb=>.t (.int .u8 b.toNat)) else none
 |_=>none
def eC:Nat:=70368744177664
def jx (P:ij)(nm:Nm)(H:Heap)(st xt:TypeId)(s x:TV):Option (TV×List (Nm×aK)):=
 match aW P st,aW P xt with
 | some ti,some tx=>
  match ti.desc,(match tx.desc with|.slice _=>true|.string=>true|_=>false) with
  | .slice elem,true=>match aW P elem with
   | some te=>match te.zero with
    |none=>none
    | some z=>
     if te.size=0\/z.cells.length≠te.size\/te.bytes=0 then none else
     match eB H te.agg te.size x with
     | some (m,cs)=>
      if m=0 then(match s with
       |.bX=>some (.bX,[])
       |.t (.sl es)=>some (.t (.sl es),[])
       |.mB es=>some (.mB es,[])
       |.ref k off len=>if(iE H k off len).isSome=true then some (.ref k off len,[]) else none
       |_=>none)
      else if cs.all TV.leaf=true then
       match s with
       |.bX=>if m*te.bytes<=eC then some (.ref nm 0 m,[(nm,.arr (elem,te.agg) te.size false cs)]) else none
       |.mB es=>match eB H te.agg te.size (.mB es) with
        |some (n,old)=>if(n+m) *te.bytes<=eC then some (.ref nm 0 (n+m),[(nm,.arr (elem,te.agg) te.size false (old++cs))]) else none
        |none=>none
       |.ref k 0 len=>match iE H k 0 len with
        |some (g,e,fz,old)=>if e=te.size/\g.1=elem/\(len+m) *te.bytes<=eC then some (.ref k 0 (len+m),[(k,.arr g e fz (old++cs))]) else none
        |none=>none
       |_=>none
      else none
     |none=>none
   |none=>none
  |_,_=>none
 |_,_=>none
def Sb (P:ij)(H:Heap)(dt:TypeId)(d x:TV):Option (TV×List (Nm×aK)):=
 match aW P dt with
 | some ti=>match ti.desc with
  | .slice elem=>match aW P elem with
   | some te=>match d,eB H te.agg te.size x with
    |.bX,some _=>some (.t (.int .i64 0),[])
    |.ref k off len,some (m,cs)=>match iE H k off len with
     |some (g,e,false,old)=>if e=te.size/\cs.all TV.leaf=true then some (.t (.int .i64 ((min m len:Nat):Int)),[(k,.arr g e false (cr old (off*e) (cs.take ((min m len) *e))))]) else none
     |_=>none
    |_,_=>none
   |none=>none
  |_=>none
 |none=>none
def xO (P:ij)(H:Heap)(t:TypeId)(x:TV):Option (TV×List (Nm×aK)):=
 match aW P t with
 | some ti=>match ti.desc with
  | .slice elem=>match aW P elem with
   | some te=>match te.zero,x with
    |some z,.ref k off len=>match iE H k off len with
     |some (g,e,false,old)=>if e=te.size/\z.cells.length=te.size/\z.cells.all TV.leaf=true then some (.t (.cT []),[(k,.arr g e false (cr old (off*e) (qO len z.cells)))]) else none
     |_=>none
    |_,_=>none
   |none=>none
  |_=>none
 |none=>none
def xP (P:ij)(nm:Nm)(t:TypeId)(len cap:TV):Option (TV×List (Nm×aK)):=
 match aW P t,eT len,eT cap with
 | some ti,some l,some c=>match ti.desc with
  | .slice elem=>match aW P elem with
   |some te=>match te.zero with
    |some z=>if l<=c/\c*te.bytes<=eC/\c<=eC/\0<te.size/\z.cells.length=te.size/\z.cells.all TV.leaf=true then some (.ref nm 0 l,[(nm,.arr (elem,te.agg) te.size false (qO l z.cells))]) else none
    |none=>none
   |none=>none
  |_=>none
 |_,_,_=>none
def Ox:TV->TV
 |.mB es=>.t (.sl es)
 |.bX=>.t (.sl [])
 |x=>x
def qu (P:ij)(jy:Bool)(nm:Nm)(t:TypeId)(len:Nat)(parts:List (Nat×TV)):Option (TV×List (Nm×aK)):=
 match aW P t with
 | some ti=>match ti.desc with
  | .slice elem=>match aW P elem with
   | some te=>match te.zero with
    | some z=>
     if 0<te.size/\len*te.size<=16777216/\z.cells.length=te.size/\z.cells.all TV.leaf=true then
      match qt (λi=>some (i*te.size,te.size)) (qO len z.cells) parts with
      |some cs=>match jy,(allT (cs.map Ox)).bind (chunk te.agg te.size len) with
       |false,some es=>some (.mB es,[])
       |_,_=>some (.ref nm 0 len,[(nm,.arr (elem,te.agg) te.size false cs)])
      |none=>none
     else none
    |none=>none
   |none=>none
  |_=>none
 |none=>none
def Jr (P:ij)(kt:TypeId)(d:TypeDesc)(k k':TV):Option Bool:=
 match jD k,jD k' with
 | some u,some u'=>
  match d with
  |.struct _=>match u,u' with
   |.agg _,.agg _=>cR P (Op.equal kt u u')
   |_,_=>none
  |d=>Instr.sameNow d u u'
 |_,_=>none
def k9 (P:ij)(kt:TypeId)(d:TypeDesc)(k:TV):List (TV×TV×Nat)->Nat->Option (Option (Nat×TV×Nat))
 | [],_=>some none
 | (k',v,b)::r,i=>match Jr P kt d k k' with
  |some true=>match jD k,jD k' with
   |some u,some u'=>if Instr.sameBits 10000 u' u=true then some (some (i,v,b)) else none
   |_,_=>none
  |some false=>k9 P kt d k r (i+1)
  |none=>none
def uL (P:ij)(empty:Bool)(kt:TypeId)(k:TV):Bool:=
 match jD k with
 |some u=>(cR P (Instr.checkKey empty 10000 kt u)).isSome
 |none=>false
def mapOf (H:Heap):TV->Option (List (TV×TV×Nat)×Nat)
 |.map k=>match H.get k with
  |some (.map es c)=>some (es,c)
  |_=>none
 |_=>none
def sK (P:ij)(H:Heap)(t:TypeId)(x k:TV)(ok:Bool):Option TV:=
 match aW P t with
 | some ti=>match ti.desc with
  | .map kt et=>match aW P kt,aW P et,(match x with|.t .iu=>some ([],0)|x=>mapOf H x) with
   | some tk,some te,some (es,_)=>
    if uL P es.isEmpty kt k=true then
     match k9 P kt tk.desc k es 0,te.zero with
     |some (some (_,v,_)),_=>some (if ok then oa [v,.t (.bool true)] else v)
     |some none,some z=>some (if ok then oa [z,.t (.bool false)] else z)
     |_,_=>none
    else none
   |_,_,_=>none
  |_=>none
 |none=>none
def iR (P:ij)(H:Heap)(t:TypeId)(x k v:TV):Option (List (Nm×aK)):=
 match aW P t,x with
 | some ti,.map m=>match ti.desc,H.get m with
  | .map kt _,some (.map es c)=>match aW P kt with
   | some tk=>
    if uL P false kt k=true then
     match k9 P kt tk.desc k es 0 with
     |some (some (i,_,b))=>some [(m,.map (es.set i (k,v,b)) c)]
     |some none=>some [(m,.map (es++[(k,v,c)]) (c+1))]
     |none=>none
    else none
   |none=>none
  |_,_=>none
 |_,_=>none
def kX (P:ij)(H:Heap)(t:TypeId)(x k:TV):Option (TV×List (Nm×aK)):=
 match aW P t,x with
 | some ti,.map m=>match ti.desc,H.get m with
  | .map kt et,some (.map es c)=>match aW P kt,aW P et with
   | some tk,some te=>
    if uL P false kt k=true then
     match k9 P kt tk.desc k es 0,te.zero with
     |some (some (i,v,b)),_=>some (oa [v,.t (.int .i64 b)],[(m,.map (es.set i (k,v,b)) c)])
     |some none,some z=>some (oa [z,.t (.int .i64 c)],[(m,.map (es++[(k,z,c)]) (c+1))])
     |_,_=>none
    else none
   |_,_=>none
  |_,_=>none
 |_,_=>none
def og:List (TV×TV×Nat)->Int->Nat->Option Nat
 | [],_,_=>none
 |(_,_,b)::r,n,i=>if(b:Int)=n then some i else og r n (i+1)
def iM (H:Heap)(x s v:TV):Option (List (Nm×aK)):=
 match x,s with
 | .map m,.t (.int _ n)=>match H.get m with
  | some (.map es c)=>match og es n 0 with
   |some i=>match es[i]? with
    |some (k,_,b)=>some [(m,.map (es.set i (k,v,b)) c)]
    |none=>none
   |none=>none
  |_=>none
 |_,_=>none
def bytesOf:List TV->Option (List UInt8)
 | []=>some []
 |.t (.int .u8 n)::r=>match bytesOf r with
  |some bs=>some (UInt8.ofNat n.toNat::bs)
  |none=>none
 |_::_=>none
def q5 (P:ij)(jy:Bool)(nm:Nm)(H:Heap)(src dst:TypeId)(x:TV):Option (TV×List (Nm×aK)):=
 match aW P src,aW P dst with
 | some ts,some td=>
  match ts.desc,td.desc,x with
  |.string,.string,.t (.str s)=>some (.t (.str s),[])
  | .string,.slice e,.t (.str s)=>match aW P e with
   |some te=>match te.desc with
    |.int .u8=>if jy then some (.ref nm 0 s.length,[(nm,.arr (e,false) 1 false (s.map λb=>.t (.int .u8 b.toNat)))]) else some (.t (.sl (s.map λb=>.int .u8 b.toNat)),[])
    |_=>none
   |none=>none
  | .slice e,.string,x=>match aW P e with
   | some te=>match te.desc,eB H false 1 x with
    |.int .u8,some (_,cs)=>match bytesOf cs with
     |some bs=>(match x with|.t (.str _)=>none|_=>some (.t (.str bs),[]))
     |none=>none
    |_,_=>none
   |none=>none
  |.int _,.int _,.t (.int k n)=>match cR P (convert src dst (.int k n)) with
   |some r=>(valOf r).map λv=>(v,[])
   |none=>none
  |_,_,_=>none
 |_,_=>none
def G7 (P:ij)(x:TV)(asserted:TypeId)(ok:Bool):Option TV:=
 match aW P asserted with
 | some ta=>match ta.desc,(match x with|.iface t v=>some (t,v)|.t (.iface t v)=>some (t,.t v)|_=>none) with
  |.interface _,_=>none
  |_,some (t,v)=>
   if t=asserted then some (if ok then oa [v,.t (.bool true)] else v)
   else if ok then ta.zero.map λz=>oa [z,.t (.bool false)] else none
  |_,none=>none
 |none=>none
def CF:TV->Nat->Option TV
 |.cT vs,i=>vs[i]?
 |.t (.cT vs),i=>vs[i]?.map .t
 |_,_=>none
def aaC (f:Fn)(first captured:List TV):TV:=if first.isEmpty/\captured.isEmpty then .t (.fn f) else .fn f first captured
def Js:TV->Bool
 |.ptr _ _=>true
 |.je _ _ _=>true
 |.jf _ _=>true
 |.t (.fn (.func _))=>true
 |.fn (.func _) _ _=>true
 |_=>false
def cW (H:Heap)(ks:List Nm):List (Nm×aK):=ks.filterMap λk=>match H.get k with
 |some (.arr g e _ cs)=>some (k,.arr g e true cs)
 |_=>none
structure cE where
 P:ij
 iL:Nat->Option (List Tree)
 jy:FuncId->Tmp->Bool
def Xh (l:List TV):Nat->TV:=
 List.rec (motive:=λ_=>Nat->TV) (λ_=>bN) (λx _ ih n=>Nat.rec (motive:=λ_=>TV) x (λm _=>ih m) n) l
theorem G8:∀(l:List TV) (t:Nat),Xh l t=l.getD t bN:=by
 intro l;induction l with
 |nil=>intro t;rfl
 |cons x r ih=>
  intro t
  cases t with
  |zero=>rfl
  |succ t=>exact(ih t).trans (by simp)
def bU (C:cE)(slots:List TV):Operand->Option TV
 |.tmp t=>some (Xh slots t)
 |.const v=>valOf v
 |.global g=>match C.iL g with
  |some cs=>some (.jf cs 0)
  |none=>none
 |.func f=>some (.t (.fn (.func f)))
def iF (C:cE)(slots:List TV):List Operand->Option (List TV)
 | []=>some []
 |x::r=>match bU C slots x,iF C slots r with
  |some v,some vs=>some (v::vs)
  |_,_=>none
def pK (C:cE)(slots:List TV):List (Nat×Operand)->Option (List (Nat×TV))
 | []=>some []
 |(i,x)::r=>match bU C slots x,pK C slots r with
  |some v,some vs=>some ((i,v)::vs)
  |_,_=>none
def uM (C:cE)(slots:List TV):Option Operand->Option (Option TV)
 |none=>some none
 |some x=>(bU C slots x).map some
def yD (v:Option TV):Option (TV×List (Nm×aK)):=v.map λx=>(x,[])
def w9 (u:Option (List (Nm×aK))):Option (TV×List (Nm×aK)):=u.map λx=>(bN,x)
def kI.kS (k:IntKind):List TV->Option (List Int)
 | []=>some []
 |.t (.int k' y)::r=>match kI.kS k r with
  |some ys=>if k'=k then some (y::ys) else none
  |none=>none
 |_::_=>none
def kI (mx:Bool):List TV->Option TV
 |.t (.int k x)::r=>match kI.kS k r with
  |some ys=>some (.t (.int k (ys.foldl (λx y=>if mx then(if y>x then y else x) else(if y<x then y else x)) x)))
  |none=>none
 |_=>none
def kj (C:cE)(nm:Nm)(H:Heap)(b:Builtin)(ats:List TypeId)(args:List TV):Option (TV×List (Nm×aK)):=
 match b,ats,args with
 | .len,[t],[x]=>match aW C.P t with
  |some ti=>match ti.desc with
   |.array n _=>some (.t (.int .i64 n),[])
   |.string=>(match x with|.t (.str s)=>some (.t (.int .i64 s.length),[])|_=>none)
   |.slice _=>(match x with|.t (.str _)=>none|.t .iu=>none|.map _=>none|x=>(xM H x).map λn=>(.t (.int .i64 n),[]))
   |.map _ _=>(match x with|.t .iu=>some (.t (.int .i64 0),[])|.map k=>(xM H (.map k)).map λn=>(.t (.int .i64 n),[])|_=>none)
   |_=>none
  |none=>none
 |.append,[s,t],[x,y]=>jx C.P nm H s t x y
 |.copy,[s,_],[x,y]=>Sb C.P H s x y
 |.clear,[t],[x]=>xO C.P H t x
 |.min,_,xs=>yD (kI false xs)
 |.max,_,xs=>yD (kI true xs)
 | .cap,[t],[.bX]=>match aW C.P t with
  |some ti=>(match ti.desc with
   |.slice _=>some (.t (.int .i64 0),[])
   |_=>none)
  |none=>none
 |_,_,_=>none
def evalOp (C:cE)(f:FuncId)(nm:Nm)(H:Heap)(slots:List TV)(o:Oper):Option (TV×List (Nm×aK)):=
 let ρ:=bU C slots
 match o.op with
 |.move x=>yD (ρ x)
 |.assign x=>yD (ρ x)
 |.pick c a b=>match ρ c,ρ a,ρ b with
  |some (.t (.bool c)),some a,some b=>some (if c then a else b,[])
  |_,_,_=>none
 | .alloc elem=>match aW C.P elem with
  |some ti=>match ti.zero with
   |some z=>if z.cells.all TV.leaf=true then some (.ptr nm 0,[(nm,.cells elem z.cells)]) else none
   |none=>none
  |none=>none
 |.box elem x=>match ρ x with
  |some v=>if v.cells.all TV.leaf=true then some (.ptr nm 0,[(nm,.cells elem v.cells)]) else none
  |none=>none
 |.build t parts=>match pK C slots parts.toList with
  |some ps=>yD (L5 C.P t ps)
  |none=>none
 |.buildSlice t len parts=>match pK C slots parts.toList with
  |some ps=>qu C.P (o.dst.any (C.jy f)) nm t len ps
  |none=>none
 |.load t a=>match ρ a with
  |some a=>yD (loadT C.P H t a)
  |none=>none
 |.store t a x=>match ρ a,ρ x with
  |some a,some x=>w9 (storeT C.P H t a x)
  |_,_=>none
 |.nilCheck x=>match ρ x with
  |some v=>if Js v=true then some (v,[]) else none
  |none=>none
 |.binOp op t x y _=>match ρ x,ρ y with
  |some a,some b=>yD (qP C.P op t x y a b)
  |_,_=>none
 |.unOp op _ x=>match ρ x with
  |some a=>yD (unT C.P op a)
  |none=>none
 |.convert s d x=>match ρ x with
  |some a=>q5 C.P (o.dst.any (C.jy f)) nm H s d a
  |none=>none
 | .makeInterface t x=>match ρ x,aW C.P t with
  |some v,some ti=>match ti.desc with
   |.interface _=>none
   |_=>some ((match v with|.t x=>.t (.iface t x)|v=>.iface t v),[])
  |_,_=>none
 |.makeFunc fn first captured=>match iF C slots first.toList,iF C slots captured.toList with
  |some fs,some cs=>some (aaC fn fs cs,[])
  |_,_=>none
 |.makeMap t r=>match uM C slots r,aW C.P t with
  |some none,some _=>some (.map nm,[(nm,.map [] 0)])
  |_,_=>none
 |.makeSlice t l c=>match ρ l,ρ c with
  |some l,some c=>xP C.P nm t l c
  |_,_=>none
 | .slice t x lo hi mx=>match ρ x,uM C slots lo,uM C slots hi,uM C slots mx with
  | some v,some l,some h,some m=>match w8 (o.dst.any (C.jy f)) C.P H nm t v l h m with
   |some r=>some r
   |none=>match pJ C.P H t v l h m with
    |some (r,ks)=>some (r,cW H ks)
    |none=>none
  |_,_,_,_=>none
 | .fieldAddr s x i=>match ρ x,aW C.P s with
  | some a,some ti=>match ti.desc with
   | .struct fs=>match fs[i]? with
    |some fd=>match aW C.P fd.type with
     |some tf=>if tf.size=0 then none else yD (pH H a fd.offset)
     |none=>none
    |none=>none
   |_=>none
  |_,_=>none
 | .field t x i=>match ρ x,aW C.P t with
  | some v,some ti=>match ti.desc with
   | .struct fs=>match fs[i]? with
    |some fd=>match aW C.P fd.type with
     |some tf=>if Ak v=true then yD (partT tf.agg tf.size v.cells fd.offset) else none
     |none=>none
    |none=>none
   |_=>none
  |_,_=>none
 |.indexAddr t x i=>match ρ x,ρ i with
  |some v,some j=>yD (dG C.P H t v j)
  |_,_=>none
 |.index t x i=>match ρ x,ρ i with
  |some v,some j=>yD (pI C.P t v j)
  |_,_=>none
 |.lookup t x k ok=>match ρ x,ρ k with
  |some v,some j=>yD (sK C.P H t v j ok)
  |_,_=>none
 |.mapUpdate t m k x=>match ρ m,ρ k,ρ x with
  |some m,some k,some x=>w9 (iR C.P H t m k x)
  |_,_,_=>none
 |.insert t m k x=>match ρ m,ρ k,ρ x with
  |some m,some k,some x=>w9 (iR C.P H t m k x)
  |_,_,_=>none
 |.mapEntry t m k=>match ρ m,ρ k with
  |some m,some k=>kX C.P H t m k
  |_,_=>none
 |.entryStore _ m s x=>match ρ m,ρ s,ρ x with
  |some m,some s,some x=>w9 (iM H m s x)
  |_,_,_=>none
 |.typeAssert x _ asserted ok=>match ρ x with
  |some v=>yD (G7 C.P v asserted ok)
  |none=>none
 |.extract t i=>match ρ t with
  |some v=>yD (CF v i)
  |none=>none
 |.call {callee:=.builtin b,args,argTypes}=>match iF C slots args.toList with
  |some vs=>kj C nm H b argTypes.toList vs
  |none=>none
 |_=>none
end Go.Abs
end
noncomputable section
namespace Go.Abs
open Go
mutual
def TV.names:TV->List Nm
 |.t _=>[]
 |.any=>[]
 |.bX=>[]
 |.mB _=>[]
 |.jf _ _=>[]
 |.ref k _ _=>[k]
 |.ptr k _=>[k]
 |.je k _ _=>[k]
 |.map k=>[k]
 |.agg cs=>TV.iG cs
 |.cT cs=>TV.iG cs
 |.fn _ fs cs=>TV.iG fs++TV.iG cs
 |.iface _ v=>v.names
def TV.iG:List TV->List Nm
 | []=>[]
 |v::r=>v.names++TV.iG r
end
def G9:List (TV×TV×Nat)->List Nm
 | []=>[]
 |(k,v,_)::r=>k.names++v.names++G9 r
def aK.names:aK->List Nm
 |.cells _ cs=>TV.iG cs
 |.arr _ _ _ cs=>TV.iG cs
 |.map es _=>G9 es
 |.dead=>[]
def reach (H:Heap):Nat->List Nm->List Nm->Option (List Nm)
 |_,done,[]=>some done
 |0,_,_=>none
 | n+1,done,k::todo=>
  if k∈done then reach H n done todo
  else match H.get k with
   |some o=>reach H n (done++[k]) (todo++o.names)
   |none=>none
def eN:Nat:=4000
def idxOf (k:Nm):List Nm->Nat->Option Nat
 | [],_=>none
 |k'::r,i=>if k'=k then some i else idxOf k r (i+1)
mutual
def TV.rn (σ:Nm->Option Nm):TV->Option TV
 |.t x=>some (.t x)
 |.any=>some .any
 |.bX=>some .bX
 |.mB es=>some (.mB es)
 |.jf cs o=>some (.jf cs o)
 |.ref k o l=>(σ k).map λk=>.ref k o l
 |.ptr k o=>(σ k).map λk=>.ptr k o
 |.je k n o=>(σ k).map λk=>.je k n o
 |.map k=>(σ k).map .map
 |.agg cs=>(TV.Aj σ cs).map .agg
 |.cT cs=>(TV.Aj σ cs).map .cT
 |.fn f fs cs=>match TV.Aj σ fs,TV.Aj σ cs with
  |some fs,some cs=>some (.fn f fs cs)
  |_,_=>none
 |.iface ty v=>(v.rn σ).map (.iface ty)
def TV.Aj (σ:Nm->Option Nm):List TV->Option (List TV)
 | []=>some []
 |v::r=>match v.rn σ,TV.Aj σ r with
  |some v,some r=>some (v::r)
  |_,_=>none
end
def Sc (σ:Nm->Option Nm):List (TV×TV×Nat)->Option (List (TV×TV×Nat))
 | []=>some []
 |(k,v,b)::r=>match k.rn σ,v.rn σ,Sc σ r with
  |some k,some v,some r=>some ((k,v,b)::r)
  |_,_,_=>none
def aK.rn (σ:Nm->Option Nm):aK->Option aK
 |.cells ty cs=>(TV.Aj σ cs).map (.cells ty)
 |.arr g e fz cs=>(TV.Aj σ cs).map (.arr g e fz)
 |.map es c=>(Sc σ es).map (.map · c)
 |.dead=>some .dead
def Nm.eY:Nm->Bool
 |.loc _=>true
 |.arg _=>false
inductive bB where
 |ret (v:TV) (aQ:List aK) (news:Heap)
 |panic (v:TV) (aQ:List (Option aK))
 deriving Inhabited
abbrev aT:=FuncId->List TV->List aK->Option bB
structure St where
 slots:List TV
 H:Heap
 tick:Nat
 deriving Inhabited
inductive aI where
 |normal
 |exit (id:Nat)
 |ret
 |panic (v:TV)
 deriving Inhabited
def Xi (v:TV)(l:List TV):Nat->List TV:=
 List.rec (motive:=λ_=>Nat->List TV) (λ_=>[]) (λx xs ih n=>Nat.rec (motive:=λ_=>List TV) (v::xs) (λm _=>x::ih m) n) l
theorem mZ (v:TV):∀(l:List TV) (t:Nat),Xi v l t=l.set t v:=by
 intro l;induction l with
 |nil=>intro t;rfl
 |cons x r ih=>
  intro t
  cases t with
  |zero=>rfl
  |succ t=>exact congrArg (x:: ·) (ih t)
def cZ (slots:List TV)(dst:Option Tmp)(v:TV):List TV:=
 match dst with
 |some d=>Xi v slots d
 |none=>slots
def lg (H:Heap):List TV->List TV×List Nm
 | []=>([],[])
 |v::r=>
  let(vs,ks):=lg H r
  match oe H fT v with
  |some (x,k)=>(TV.t x::vs,k++ks)
  |none=>(v::vs,ks)
def W4 (S:List Nm)(k:Nm):Option Nm:=(idxOf k S 0).map .arg
def nu (S:List Nm)(t:Nat):Nm->Option Nm
 |.arg i=>S[i]?
 |.loc p=>some (.loc (t::p))
def mH (H:Heap)(S:List Nm):List Nm->Option (List aK)
 | []=>some []
 |k::r=>match H.get k,mH H S r with
  |some o,some os=>(o.rn (W4 S)).map (· ::os)
  |_,_=>none
def nc (S:List Nm)(t:Nat):List Nm->List aK->Option Heap
 | [],[]=>some []
 |k::r,o::os=>match o.rn (nu S t),nc S t r os with
  |some o,some h=>some ((k,o)::h)
  |_,_=>none
 |_,_=>none
def kJ (S:List Nm)(t:Nat):Heap->Option Heap
 | []=>some []
 |(k,o)::r=>match nu S t k,o.rn (nu S t),kJ S t r with
  |some k,some o,some h=>some ((k,o)::h)
  |_,_,_=>none
def lp (S:List Nm)(t:Nat):List Nm->List (Option aK)->Option (Heap×List Nm)
 | [],[]=>some ([],[])
 |k::r,some o::os=>match o.rn (nu S t),lp S t r os with
  |some o,some (h,ks)=>some ((k,o)::h,ks)
  |_,_=>none
 |k::r,none::os=>match lp S t r os with
  |some (h,ks)=>some (h,k::ks)
  |none=>none
 |_,_=>none
def Heap.sL (H:Heap)(ks:List Nm):Heap:=H.filter λp=> !(ks.contains p.1)
inductive pL where
 |val (v:TV) (u:Heap)
 |panic (v:TV) (u:Heap) (lost:List Nm)
def Jt (H:Heap)(keep:Bool)(args:List TV):List TV×List Nm:=match keep with
 |true=>(args,[])
 |false=>lg H args
def Ju (C:cE)(f:FuncId)(o:Oper):Bool:=C.jy f (o.dst.getD 255)
def qv (ev:aT)(H:Heap)(g:FuncId)(args:List TV)(t:Nat)(keep:Bool:=false):Option pL:=
 let(args,ks):=Jt H keep args
 let H1:=H.dR (cW H ks)
 match reach H1 eN [] (TV.iG args) with
 |none=>none
 | some S=>
  if S.Nodup then
   match TV.Aj (W4 S) args,mH H1 S S with
   | some akR,some os=>
    match ev g akR os with
    |some (.ret v os' news)=>match v.rn (nu S t),nc S t S os',kJ S t news with
     |some v,some h,some h'=>some (.val v ((cW H ks).filter (λp=> !(S.contains p.1))++h++h'))
     |_,_,_=>none
    |some (.panic v os')=>match v.rn (nu S t),lp S t S os' with
     |some v,some (h,lost)=>some (.panic v ((cW H ks).filter (λp=> !(S.contains p.1))++h) lost)
     |_,_=>none
    |none=>none
   |_,_=>none
  else none
def lq (C:cE)(slots:List TV)(c:Call):Option (FuncId×List TV):=
 match c.callee with
 |.value fo=>match bU C slots fo,iF C slots c.args.toList with
  |some (.t (.fn (.func g))),some akR=>some (g,akR)
  |some (.fn (.func g) fs cs),some akR=>some (g,fs++akR++cs)
  |_,_=>none
 |_=>none
def He (P:ij)(H:Heap)(t:TypeId)(v:TV)(name:String):Option (FuncId×TV):=
 match(P.prog.info? t).bind (λi=>i.methods.find? (·.name==name)) with
 | some m=>match m.path.isEmpty,m.func,P.prog.underlying t with
  |true,some (f,true),some (.pointer _)=>some (f,v)
  |true,some (f,false),some (.pointer e)=>(match v with
   |.ptr k o=>(match loadT P H e (.ptr k o) with|some x=>some (f,x)|none=>none)
   |_=>none)
  |_,_,_=>none
 |none=>none
def Cc (C:cE)(H:Heap)(slots:List TV)(recv:Operand)(name:String)(args:Array Operand):Option (FuncId×List TV):=
 match bU C slots recv,iF C slots args.toList with
 |some (.iface t v),some akR=>(match He C.P H t v name with|some (f,x)=>some (f,x::akR)|none=>none)
 |_,_=>none
def dF (ops:Array Oper)(slots:List TV)(o:Oper):Option Bool:=
 match o.guard with
 |none=>some true
 | some (j,want)=>match(ops[j]?).bind (·.dst) with
  |none=>some false
  |some d=>match slots[d]? with
   |some (.t (.bool b))=>some (b==want)
   |some (.t (.cT []))=>some false
   |none=>some false
   |_=>none
def Hf:TV->Option TV
 |.iface t v=>some (.iface t v)
 |.t (.iface t v)=>some (.t (.iface t v))
 |_=>none
def aP (C:cE)(ev:aT)(f:FuncId)(H:Heap)(slots:List TV)(t:Nat)(o:Oper):Option pL:=
 match o.op with
 |.panic x=>match(bU C slots x).bind Hf with
  |some v=>some (.panic v [] [])
  |none=>none
 |.call {callee:=.value fo,args,argTypes}=>match lq C slots {callee:=.value fo,args,argTypes} with
  |some (g,akR)=>qv ev H g akR t (Ju C f o)
  |none=>none
 |.call {callee:=.invoke recv name,args,argTypes}=>match Cc C H slots recv name args with
  |some (g,akR)=>qv ev H g akR t (Ju C f o)
  |none=>none
 |_=>match evalOp C f (.loc [t]) H slots o with
  |some (v,u)=>some (.val v u)
  |none=>none
def BT (C:cE)(ev:aT)(f:FuncId)(ops:Array Oper):List Oper->St->Option (aI×St)
 | [],st=>some (.normal,st)
 | o::r,st=>
  match dF ops st.slots o with
  |none=>none
  |some false=>BT C ev f ops r {st with slots:=cZ st.slots o.dst bN,tick:=st.tick+1}
  |some true=>match aP C ev f st.H st.slots st.tick o with
   |none=>none
   |some (.val v u)=>BT C ev f ops r {slots:=cZ st.slots o.dst v,H:=st.H.dR u,tick:=st.tick+1}
   |some (.panic v u l)=>some (.panic v,{st with H:=(st.H.sL l).dR u,tick:=st.tick+1})
def L6 (C:cE)(H:Heap)(slots:List TV)(o:Oper):Option (List Nm):=
 match o.op with
 |.move _|.assign _|.pick .. |.alloc _|.box .. |.build .. |.buildSlice .. |.nilCheck _|.makeInterface .. |.makeFunc .. |.makeMap .. |.makeSlice .. |.field .. |.extract .. |.typeAssert .. |.panic _|.unOp .. |.binOp .. |.index ..=>some []
 |.fieldAddr _ x _=>match bU C slots x with
  |some (.je k _ _)=>some [k]
  |_=>some []
 |.store _ p _=>match bU C slots p with
  |some v=>some v.names
  |none=>none
 |.call {callee:=.value fo,args,argTypes}=>match lq C slots {callee:=.value fo,args,argTypes} with
  |some (_,akR)=>reach H eN [] (TV.iG akR)
  |none=>none
 |.call {callee:=.invoke recv name,args,argTypes}=>match bU C slots recv,iF C slots args.toList with
  |some v,some akR=>reach H eN [] (v.names++TV.iG akR)
  |_,_=>none
 |.call {callee:=.builtin .len,args,argTypes}=>match iF C slots args.toList with
  |some [.ref _ _ _]=>some []
  |some vs=>some (TV.iG vs)
  |none=>none
 |op=>match iF C slots op.operands.toList with
  |some vs=>some (TV.iG vs)
  |none=>none
inductive BU where
 |wg
 |unwanted
 |val (v:TV) (u:Heap)
 |panic (v:TV) (u:Heap) (lost:List Nm)
structure Rec where
 fp:List Nm
 res:BU
def BU.keys:BU->List Nm
 |.val _ u=>u.map (·.1)
 |.panic _ u l=>u.map (·.1)++l
 |_=>[]
structure sG where
 slots:List TV
 H:Heap
def sG.after (s:sG)(o:Oper):BU->sG
 |.wg=>s
 |.unwanted=>{s with slots:=cZ s.slots o.dst bN}
 |.val v u=>{slots:=cZ s.slots o.dst v,H:=s.H.dR u}
 |.panic ..=>s
def jG (i:Nat)(sH:Option Nat):BU->Option Nat
 |.panic ..=>some i
 |_=>sH
def jt (ops:List Oper)(acc:List Nat):List Nat:=
 match ops with
 | []=>acc
 |o::r=>jt r (acc++[o.after.toList.foldl (λs e=>if Region.binds .any e then s|||2 ^ e.on|||acc.getD e.on 0 else s) 0])
def pM:Nat->List Oper->Bool
 |_,[]=>true
 |i,o::r=>o.after.toList.all (λe=> !Region.binds .any e||decide (e.on<i))&&pM (i+1) r
def eU (bs:List Nat)(i j:Nat):Bool:=(bs.getD j 0).testBit i
def iN (L:List Nat):Nat->List TV->List TV
 |_,[]=>[]
 |i,v::r=>(if L.contains i then v else bN)::iN L (i+1) r
def lu (H:Heap)(fp:List Nm):Heap:=fp.filterMap λk=>(H.get k).map (k, ·)
def Sd (C:cE)(ev:aT)(f:FuncId)(ops:Array Oper)(bs:List Nat)(t0 i:Nat)(o:Oper)(s:sG)(sH:Option Nat):Option Rec:=
 match(match sH with|some j=>eU bs j i|none=>false) with
 |true=>some ⟨[],.wg⟩
 | false=>
  match dF ops (iN (o.looksAt ops) 0 s.slots) o with
  |none=>none
  |some false=>some ⟨[],.unwanted⟩
  | some true=>
   match L6 C s.H s.slots o with
   |none=>none
   | some fp=>
    match aP C ev f (lu s.H fp) (iN (o.looksAt ops) 0 s.slots) (t0+i) o with
    |none=>none
    |some (.val v u)=>some ⟨fp,.val v u⟩
    |some (.panic v u l)=>match sH with
     |some _=>none
     |none=>some ⟨fp,.panic v u l⟩
def xQ (C:cE)(ev:aT)(f:FuncId)(ops:Array Oper)(bs:List Nat)(t0:Nat):Nat->List Oper->sG->Option Nat->Option (List Rec)
 |_,[],_,_=>some []
 | i,o::r,s,sH=>match Sd C ev f ops bs t0 i o s sH with
  |none=>none
  |some rec=>match xQ C ev f ops bs t0 (i+1) r (s.after o rec.res) (jG i sH rec.res) with
   |some rs=>some (rec::rs)
   |none=>none
def Hg (a b:List Nm):Bool:=a.all λk=> !(b.contains k)
def jH (ops:Array Oper)(x y:Oper):Bool:=
 (match x.dst with
  |some d=> !((y.looksAt ops).contains d)&&y.dst != some d
  |none=>true)&&
 (match y.dst with
  |some d=> !((x.looksAt ops).contains d)
  |none=>true)
def qQ (ops:Array Oper)(x y:Oper)(rx ry:Rec):Bool:=
 jH ops x y&&Hg rx.res.keys ry.fp&&Hg rx.res.keys ry.res.keys&&Hg ry.res.keys rx.fp
def yG (ops:Array Oper)(b:Nat)(j:Oper)(rj:Rec):Nat->List Oper->List Rec->Bool
 |i,x::xs,r::rs=>(b.testBit i||qQ ops x j r rj)&&yG ops b j rj (i+1) xs rs
 |_,_,_=>true
def jk (ops:Array Oper)(l:List Oper)(recs:List Rec):List Nat->List Oper->List Rec->Nat->Bool
 |b::bs,o::os,r::rs,n=>yG ops b o r 0 (l.take n) (recs.take n)&&jk ops l recs bs os rs (n+1)
 |_,_,_,_=>true
def gX:Nat->List Rec->Option (Nat×TV×Heap×List Nm)
 |_,[]=>none
 |i,r::rs=>match r.res with
  |.panic v u l=>some (i,v,u,l)
  |_=>gX (i+1) rs
def xR (b:Nat):Nat->List Rec->List Nm
 |_,[]=>[]
 |i,r::rs=>(if b.testBit i then [] else r.res.keys)++xR b (i+1) rs
def uf:List Oper->List Rec->sG->sG
 |o::os,r::rs,s=>uf os rs (s.after o r.res)
 |_,_,s=>s
def Bi (ops:List Oper)(slots:List TV):List TV:=ops.foldl (λs o=>cZ s o.dst .any) slots
def wh (C:cE)(ev:aT)(f:FuncId)(ops:Array Oper)(st:St):Option (aI×St):=
 let l:=ops.toList
 let bs:=jt l []
 match xQ C ev f ops bs st.tick 0 l {slots:=st.slots,H:=st.H} none with
 |none=>none
 | some recs=>
  if jk ops l recs bs l recs 0=true/\pM 0 l=true then
   let s:=uf l recs {slots:=st.slots,H:=st.H}
   match gX 0 recs with
   |none=>some (.normal,{slots:=s.slots,H:=s.H,tick:=st.tick+ops.size})
   |some (j,v,u,lost)=>
    some (.panic v,{slots:=Bi l st.slots,H:=(s.H.sL (lost++xR (bs.getD j 0) 0 recs)).dR u,tick:=st.tick+ops.size})
  else none
def CG (body:St->Option (aI×St)):Nat->St->Option (aI×St)
 |0,_=>none
 |n+1,st=>match body st with
  |some (.normal,st')=>CG body n st'
  |r=>r
def evalCode (C:cE)(ev:aT)(f:FuncId)(fuel:Nat):Code->St->Option (aI×St)
 |.skip,st=>some (.normal,st)
 |.label _,st=>some (.normal,st)
 |.region _ ops draw,st=>if draw then wh C ev f ops st else BT C ev f ops ops.toList st
 |.seq a b,st=>match evalCode C ev f fuel a st with
  |some (.normal,st')=>evalCode C ev f fuel b st'
  |r=>r
 |.cond c a b,st=>match bU C st.slots c with
  |some (.t (.bool true))=>evalCode C ev f fuel a st
  |some (.t (.bool false))=>evalCode C ev f fuel b st
  |_=>none
 |.block id body,st=>match evalCode C ev f fuel body st with
  |some (.exit id',st')=>if id'=id then some (.normal,st') else some (.exit id',st')
  |r=>r
 |.loop body,st=>CG (evalCode C ev f fuel body) fuel st
 |.exit id,st=>some (.exit id,st)
 |.ret,st=>some (.ret,st)
 |_,_=>none
def iT (C:cE)(st:St):List ResultVar->Option (List TV)
 | []=>some []
 |.tmp t::r=>match iT C st r with
  |some vs=>some (st.slots.getD t bN::vs)
  |none=>none
 |.cell a t::r=>match loadT C.P st.H t (st.slots.getD a bN),iT C st r with
  |some v,some vs=>some (v::vs)
  |_,_=>none
def uN:List TV->TV
 | [v]=>v
 |vs=>oa vs
def cm:Nat->List aK->Heap
 |_,[]=>[]
 |i,o::r=>(.arg i,o)::cm (i+1) r
def nO (H:Heap):Nat->Nat->Option (List aK)
 |_,0=>some []
 |i,n+1=>match H.get (.arg i),nO H (i+1) n with
  |some o,some os=>some (o::os)
  |_,_=>none
def oh (H:Heap):Nat->Nat->List (Option aK)
 |_,0=>[]
 | i,n+1=>(match H.get (.arg i) with
   |some o=>if o.names.any Nm.eY then none else some o
   |none=>none)::oh H (i+1) n
def j6 (H:Heap):List Nm->Option Heap
 | []=>some []
 |k::r=>match j6 H r with
  |some h=>if k.eY then(H.get k).map λo=>(k,o)::h else some h
  |none=>none
def finish (C:cE)(fn:Func)(n:Nat)(st:St):Option bB:=
 match iT C st fn.results.toList with
 |none=>none
 | some vs=>
  let v0:=uN vs
  let(v,ks):=match oe st.H fT v0 with
   |some (x,ks)=>(TV.t x,ks)
   |none=>(v0,[])
  let H:=st.H.dR (cW st.H ks)
  match nO H 0 n with
  |none=>none
  |some os=>match reach H eN [] (v.names++os.flatMap aK.names) with
   |none=>none
   |some R=>(j6 H R).map λh=>.ret v os h
def Jv (C:cE)(ev:aT)(fuel:Nat)(f:FuncId)(args:List TV)(aQ:List aK):Option bB:=
 match C.P.fn f with
 |none=>none
 | some fn=>match fn.body with
  |none=>none
  |some body=>
   if fn.name= "runtime.NumGoroutine" then none else
   match evalCode C ev f fuel body {slots:=args++List.replicate (fn.ntmps - args.length) bN,H:=cm 0 aQ,tick:=0} with
   |some (.normal,st)=>finish C fn aQ.length st
   |some (.ret,st)=>finish C fn aQ.length st
   |some (.panic v,st)=>if v.names.any Nm.eY then none else some (.panic v (oh st.H 0 aQ.length))
   |_=>none
abbrev Ext:=FuncId->Option (aT->List TV->List aK->Option bB)
def CH (C:cE)(X:Ext):Nat->aT
 |0,_,_,_=>none
 |n+1,f,args,aQ=>match X f with
  |some s=>s (CH C X n) args aQ
  |none=>Jv C (CH C X n) n f args aQ
end Go.Abs
namespace Go.Abs
open Go
def BV (F:uK)(cs:List Tree)(vs:List Value):Prop:=vs.length=cs.length/\∀(j:Nat) c v,cs[j]?=some c->vs[j]?=some v->VT F c v
theorem BV.Jw {G:Gh}{cs:List Tree}{vs:List Value}(h:BV G.F cs vs):cv G (cs.map .t) vs:=by
 refine⟨by simp[h.1],λj c v hc hv=> ?_⟩;rw[List.getElem?_map] at hc;cases hx:cs[j]? with
 |none=>rw[hx] at hc;simp at hc
 |some x=>rw[hx] at hc;simp at hc;subst hc;exact .t x v (h.2 j x v hx hv)
theorem VR.tree {G:Gh}{x:Tree}{v:Value}(h:VR G (.t x) v):VT G.F x v:=by cases h;assumption
theorem cv.Se {G:Gh}{cs:List Tree}{vs:List Value}(h:cv G (cs.map .t) vs):BV G.F cs vs:=by
 refine⟨by have:=h.1;simpa using this,λj c v hc hv=> ?_⟩;exact(h.2 j (.t c) v (by rw[List.getElem?_map,hc];rfl) hv).tree
theorem Sf {G:Gh}{x:TV}{v:Value}(h:VR G x v):VR G (Ox x) v:=by
 cases h with
 |bX=>exact .t _ _ (.Al _ _)
 |mB es a h=>exact .t _ _ h
 |t x v h=>exact .t _ _ h
 |ref k off len n bx cap v a b c d e=>exact .ref k off len n bx cap v a b c d e
 |agg cs vs a b=>exact .agg cs vs a b
 |cT cs vs a b=>exact .cT cs vs a b
 |ptr k off a b=>exact .ptr k off a b
 |je k n off n' bx cap v a b c d e=>exact .je k n off n' bx cap v a b c d e
 |jf cs off b o vals c d=>exact .jf cs off b o vals c d
 |map k a b=>exact .map k a b
 |fn f fs cs vs ws a b c d=>exact .fn f fs cs vs ws a b c d
 |iface t x v h=>exact .iface t x v h
 |any v=>exact .any v
theorem Qd {G:Gh}{cs:List TV}{vs:List Value}(h:cv G cs vs):cv G (cs.map Ox) vs:=by
 refine⟨by rw[List.length_map];exact h.1,λj c v hc hv=> ?_⟩;rw[List.getElem?_map] at hc;cases hx:cs[j]? with
 |none=>rw[hx] at hc;cases hc
 |some x=>rw[hx] at hc;cases hc;exact Sf (h.2 j x v hx hv)
theorem Am {cs:List TV}{ts:List Tree}(h:allT cs=some ts):cs=ts.map .t:=by
 induction cs generalizing ts with
 |nil=>simp[allT] at h;subst h;rfl
 |cons c r ih=>
  cases c<;>simp only[allT] at h<;>try (simp at h;done)
  rename_i x
  cases hr:allT r with
  |none=>rw[hr] at h;simp at h
  |some xs=>rw[hr] at h;simp at h;subst h;simp[ih hr]
theorem BV.agg {F:uK}{cs:List Tree}{vs:List Value}(h:BV F cs vs):VT F (.agg cs) (.agg vs.toArray):=.agg cs vs h.1 h.2
theorem BV.cT {F:uK}{cs:List Tree}{vs:List Value}(h:BV F cs vs):VT F (.cT cs) (.tuple vs.toArray):=.cT cs vs h.1 h.2
theorem uO {G:Gh}{cs:List TV}{vs:List Value}(h:cv G cs vs):VR G (w6 cs) (.agg vs.toArray):=by
 unfold w6;cases ha:allT cs with
 |none=>exact .agg cs vs h.1 h.2
 |some ts=>have:=Am ha;subst this;exact .t _ _ h.Se.agg
theorem lz {G:Gh}{cs:List TV}{vs:List Value}(h:cv G cs vs):VR G (oa cs) (.tuple vs.toArray):=by
 unfold oa;cases ha:allT cs with
 |none=>exact .cT cs vs h.1 h.2
 |some ts=>have:=Am ha;subst this;exact .t _ _ h.Se.cT
theorem VT.leaf {F:uK}{x:Tree}{v:Value}(h:VT F x v)(hx:x.leaf=true):one v=true:=by
 cases h<;>simp_all [Tree.leaf,one]
theorem VR.leaf {G:Gh}{x:TV}{v:Value}(h:VR G x v)(hx:x.leaf=true):one v=true:=by
 cases h with
 |t x v h=>exact h.leaf hx
 |ref k off len n bx cap v hd ha hle ho hv=>obtain⟨_,_,rfl⟩:=ho;rfl
 |je k n off n' bx cap v hd ha hle ho hv=>obtain⟨_,rfl⟩:=ho;rfl
 |_=>simp_all [TV.leaf,one]
theorem FY {v:Value}(h:one v=true):v.cells= #[v]:=by cases v<;>simp_all [one,Value.cells]
theorem cv.one {G:Gh}{x:TV}{v:Value}(h:VR G x v):cv G [x] [v]:=cv.cons h (cv.nil G)
theorem VR.cells {G:Gh}{x:TV}{v:Value}(h:VR G x v)(hx:x≠ .any):cv G x.cells v.cells.toList:=by
 cases h with
 |any=>exact absurd rfl hx
 |t x v h=>
  cases h with
  |agg cs vs hl h=>exact BV.Jw ⟨hl,h⟩
  |cT cs vs hl h=>exact cv.one (.t _ _ (.cT cs vs hl h))
  |bool=>exact cv.one (.t _ _ (.bool _))
  |int=>exact cv.one (.t _ _ (.int _ _))
  |str=>exact cv.one (.t _ _ (.str _))
  |Al=>exact cv.one (.t _ _ (.Al _ _))
  |sl e es b o cap vals h1 h2 h3 h4 h5=>exact cv.one (.t _ _ (.sl e es b o cap vals h1 h2 h3 h4 h5))
  |bQ=>exact cv.one (.t _ _ .bQ)
  |iu=>exact cv.one (.t _ _ .iu)
  |qq=>exact cv.one (.t _ _ .qq)
  |fn=>exact cv.one (.t _ _ (.fn _))
  |yE=>exact cv.one (.t _ _ .yE)
  |iface t x v h=>exact cv.one (.t _ _ (.iface t x v h))
 |bX=>exact cv.one .bX
 |mB es a h=>exact cv.one (.mB es a h)
 |ref k off len n bx cap v hd ha hle ho hv=>rw[FY (by obtain⟨_,_,rfl⟩:=ho;rfl)];exact cv.one (.ref k off len n bx cap v hd ha hle ho hv)
 |agg cs vs hl h=>exact⟨hl,h⟩
 |cT cs vs hl h=>exact cv.one (.cT cs vs hl h)
 |ptr k off hd hn=>exact cv.one (.ptr k off hd hn)
 |je k n off n' bx cap v hd ha hle ho hv=>rw[FY (by obtain⟨_,rfl⟩:=ho;rfl)];exact cv.one (.je k n off n' bx cap v hd ha hle ho hv)
 |jf cs off b o vals hF hv=>exact cv.one (.jf cs off b o vals hF hv)
 |map k hd hn=>exact cv.one (.map k hd hn)
 |fn f fs cs vs ws hl h hl' h'=>exact cv.one (.fn f fs cs vs ws hl h hl' h')
 |iface t x v h=>exact cv.one (.iface t x v h)
theorem BV.nil (F:uK):BV F [] []:=⟨rfl,by simp⟩
theorem BV.cons {F:uK}{c:Tree}{v:Value}{cs:List Tree}{vs:List Value}(h:VT F c v)(hs:BV F cs vs):BV F (c::cs) (v::vs):=by
 refine⟨by simp[hs.1],λj d u hd hu=> ?_⟩;cases j with
 |zero=>simp at hd hu;subst hd;subst hu;exact h
 |succ j=>simp at hd hu;exact hs.2 j d u hd hu
theorem VT.cells {F:uK}{x:Tree}{v:Value}(h:VT F x v):BV F x.cells v.cells.toList:=by
 cases h<;>first
  |(rename_i cs vs hl h;exact⟨hl,h⟩)
  |exact BV.cons (by first|assumption|(constructor;done)|(constructor<;>assumption)) (BV.nil F)
theorem FZ {G:Gh}{v:Value}{x:TV}(h:xL v=some x):VR G x v:=by
 unfold xL at h;split at h<;>simp at h<;>(try subst h)
 ·exact .t _ _ (.bool _)
 ·exact .t _ _ (.int _ _)
 ·rename_i s;have:(Value.string s)=.string ⟨s.data.toList.toArray⟩:=by simp
  rw[this];exact .t _ _ (.str _)
 ·exact .bX
 ·exact .t _ _ .bQ
 ·exact .t _ _ .iu
 ·exact .t _ _ .qq
 ·exact .t _ _ .yE
 ·obtain⟨⟨h1,h2⟩,h3⟩:=h;subst h3;subst h1;subst h2;exact .t _ _ (.fn _)
theorem yH {G:Gh}{vs:List Value}{xs:List TV}(h:k7 vs=some xs):cv G xs vs:=by
 induction vs generalizing xs with
 |nil=>simp[k7] at h;subst h;exact cv.nil G
 |cons v r ih=>
  simp only[k7] at h
  cases h1:xL v<;>cases h2:k7 r<;>simp[h1,h2] at h
  subst h
  exact cv.cons (FZ h1) (ih h2)
theorem uP {G:Gh}{v:Value}{x:TV}(h:valOf v=some x):VR G x v:=by
 unfold valOf at h;split at h
 ·rename_i cs;cases h1:k7 cs.toList<;>simp[h1] at h;subst h;have:=uO (yH (G:=G) h1);simpa using this
 ·rename_i cs;cases h1:k7 cs.toList<;>simp[h1] at h;subst h;have:=lz (yH (G:=G) h1);simpa using this
 ·exact FZ h
theorem Jx {G:Gh}{x:TV}{u v:Value}(h:CC x=some u)(hr:VR G x v):v=u:=by
 cases hr with
 |t x v ht=>cases ht<;>simp[CC] at h<;>exact h
 |bX=>simp[CC] at h;exact h
 |_=>simp[CC] at h
theorem CI {G:Gh}{xs:List TV}{us vs:List Value}(h:oc xs=some us)(hr:cv G xs vs):vs=us:=by
 induction xs generalizing us vs with
 |nil=>simp[oc] at h;subst h;have:=hr.1;simpa using this
 |cons x r ih=>
  obtain⟨v,vs',rfl,h1,h2⟩:=hr.gq
  simp only[oc] at h
  cases h3:CC x<;>cases h4:oc r<;>simp[h3,h4] at h
  subst h
  rw[Jx h3 h1,ih h4 h2]
theorem CJ {G:Gh}{x:TV}{u v:Value}(h:CD x=some u)(hr:VR G x v):v=u:=by
 unfold CD at h;split at h
 ·rename_i cs;cases h1:oc (cs.map .t)<;>simp[h1] at h;subst h;cases hr with|t _ _ ht=>cases ht with|agg _ vs hl hh=>
   rw[CI h1 (BV.Jw (G:=G) ⟨hl,hh⟩)]
 ·rename_i cs;cases h1:oc cs<;>simp[h1] at h;subst h;cases hr with|agg _ vs hl hh=>rw[CI h1 ⟨hl,hh⟩]
 ·exact Jx h hr
theorem lB {G:Gh}{x:TV}{u v:Value}(h:jD x=some u)(hr:VR G x v):v=u:=by
 unfold jD at h;split at h
 ·rename_i t x;cases h1:CD (.t x)<;>simp[h1] at h;subst h;cases hr with|t _ _ ht=>cases ht with|iface _ _ w hw=>rw[CJ (G:=G) h1 (.t _ _ hw)]
 ·rename_i t x;cases h1:CD x<;>simp[h1] at h;subst h;cases hr with|iface _ _ w hw=>rw[CJ h1 hw]
 ·exact CJ h hr
theorem nv {α:Type}{P:Program}{s:Sem α}{a:α}(h:cR P s=some a)(w:World):s.run P w=.ok a w:=by
 induction s with
 |pure x=>simp[cR] at h;subst h;rfl
 |program k ih=>simp only[cR] at h;exact ih P h
 |_=>simp[cR] at h
def pN (vs:Array Value)(fr:Nat×Nat):Prop:=∀o,o<vs.size->¬(fr.1<=o/\o<fr.2)
def CK (bx:Nat)(fr:Nat×Nat):Prop:=bx≠1->fr=(0,0)
def MR (G:Gh):List (TV×TV×Nat)->List MapEntry->Prop
 | [],[]=>True
 |(k,v,b)::r,e::es=>VR G k e.key/\VR G v e.val/\e.born=b/\MR G r es
 |_,_=>False
def OR (G:Gh)(w:World)(k:Nm):aK->Prop
 |.cells Hh cs=>G.arr k=none/\∃vs ty fr,w.heap[G.mu k]?=some (.cells vs ty fr)/\(pN vs fr/\ty=Hh)/\cv G cs vs.toList/\∀o,G.F (G.mu k) o=none
 | .arr g bx fz cs=>0<bx/\∃cap vs ty fr,G.arr k=some (cs.length,bx,cap)/\w.heap[G.mu k]?=some (.cells vs ty fr)/\(pN vs fr/\ty=g.1/\CK bx fr)/\vs.size=cap*bx/\cs.length<=vs.size/\
   cv G cs (vs.toList.take cs.length)/\∀o,(fz=false\/cs.length<=o)->G.F (G.mu k) o=none
 |.map es c=>G.arr k=none/\∃bC,w.heap[G.mu k]?=some (.map bC c)/\MR G es bC.toList/\∀o,G.F (G.mu k) o=none
 |.dead=>True
structure WF (G:Gh)(w:World):Prop where
 F:∀b o v,G.F b o=some v->∃vs ty fr,w.heap[b]?=some (.cells vs ty fr)/\vs[o]?=some v
 inj:∀k k',G.dom k->G.dom k'->G.alive k->G.alive k'->G.mu k=G.mu k'->k=k'
 lt:∀k,G.dom k->G.mu k<w.heap.size
def HR (G:Gh)(w:World)(H:Heap):Prop:=∀k o,H.get k=some o->G.dom k/\OR G w k o
structure Step (W N:Nm->Prop)(G:Gh)(w:World)(G':Gh)(w':World):Prop where
 le:G.le G'
 wf:WF G' w'
 same:∀k,G.dom k->¬W k->G'.mu k=G.mu k/\G'.arr k=G.arr k
 blocks:∀b,b<w.heap.size->(∀k,W k->G.dom k->G.alive k->G.mu k≠b)->w'.heap[b]?=w.heap[b]? /\∀o,G'.F b o=G.F b o
 news:∀k,G'.dom k->G.dom k\/N k
 fresh:∀k,G'.dom k->(∃k0,G.dom k0/\G'.mu k=G.mu k0/\(k0=k\/(W k0/\G.alive k0)))\/w.heap.size<=G'.mu k
 size:w.heap.size<=w'.heap.size
 os:w'.os=w.os
 tape:w'.tape=w.tape
 output:w'.output=w.output
theorem Step.refl {G:Gh}{w:World}(hw:WF G w)(W N:Nm->Prop):Step W N G w G w:=
 ⟨.refl G,hw,λ_ _ _=>⟨rfl,rfl⟩,λ_ _ _=>⟨rfl,λ_=>rfl⟩,λ_ h=>.inl h,λk h=>.inl ⟨k,h,rfl,.inl rfl⟩,Nat.le_refl _,rfl,rfl,rfl⟩
theorem Step.mono {W N W' N':Nm->Prop}{G G':Gh}{w w':World}(h:Step W N G w G' w')(hW:∀k,G.dom k->W k->W' k)(hN:∀k,N k->N' k):Step W' N' G w G' w':=
 ⟨h.le,h.wf,λk d n=>h.same k d (λx=>n (hW k d x)),λb hb hn=>h.blocks b hb (λk hk d=>hn k (hW k d hk) d),λk d=>(h.news k d).imp id (hN k),λk d=>(h.fresh k d).imp (λ⟨k0,a,b,c⟩=>⟨k0,a,b,c.imp id λx=>⟨hW k0 a x.1,x.2⟩⟩) id,h.size,h.os,h.tape,h.output⟩
theorem Step.trans {W N W' N':Nm->Prop}{A B C:Gh}{u v w:World}(h:Step W N A u B v)(k:Step W' N' B v C w):
 Step (λx=>W x\/W' x) (λx=>N x\/N' x) A u C w:=by
 refine⟨h.le.trans k.le,k.wf,λx d n=> ?_,λb hb hn=> ?_,λx d=> ?_,λx d=> ?_,Nat.le_trans h.size k.size,k.os.trans h.os,k.tape.trans h.tape,k.output.trans h.output⟩
 ·obtain⟨a1,a2⟩:=h.same x d (λy=>n (.inl y));obtain⟨b1,b2⟩:=k.same x (h.le.dom _ d) (λy=>n (.inr y));exact⟨b1.trans a1,b2.trans a2⟩
 ·obtain⟨a1,a2⟩:=h.blocks b hb (λx hx d=>hn x (.inl hx) d);obtain⟨b1,b2⟩:=k.blocks b (Nat.lt_of_lt_of_le hb h.size) (λx hx d=>by
   intro al;rcases h.fresh x d with ⟨k0,d0,e,rfl|⟨hw,a0⟩⟩|e
   ·rw[e];exact hn k0 (.inr hx) d0 (h.le.alive d0 al)
   ·rw[e];exact hn k0 (.inl hw) d0 a0
   ·omega)
  exact⟨b1.trans a1,λo=>(b2 o).trans (a2 o)⟩
 ·rcases k.news x d with d|d
  ·exact(h.news x d).imp id .inl
  ·exact .inr (.inr d)
 ·rcases k.fresh x d with ⟨k1,d1,e1,o1⟩|e1
  ·rcases h.fresh k1 d1 with ⟨k0,d0,e0,o0⟩|e0
   ·refine .inl ⟨k0,d0,e1.trans e0, ?_⟩;rcases o0 with rfl|⟨w0,a0⟩
    ·rcases o1 with rfl|⟨w1,a1⟩
     ·exact .inl rfl
     ·exact .inr ⟨.inr w1,h.le.alive d0 a1⟩
    ·exact .inr ⟨.inl w0,a0⟩
   ·exact .inr (by rw[e1];exact e0)
  ·exact .inr (Nat.le_trans h.size e1)
theorem MR.mono {G G':Gh}(hG:G.le G'){es:List (TV×TV×Nat)}{bC:List MapEntry}(h:MR G es bC):MR G' es bC:=by
 induction es generalizing bC with
 |nil=>cases bC<;>simp_all [MR]
 | cons e r ih=>
  obtain⟨k,v,b⟩:=e
  cases bC with
  |nil=>simp[MR] at h
  |cons x xs=>
   simp only[MR] at h ⊢
   exact⟨h.1.mono hG,h.2.1.mono hG,h.2.2.1,ih h.2.2.2⟩
theorem OR.alive {G:Gh}{w:World}{k:Nm}{o:aK}(h:OR G w k o)(hd:o≠ .dead):G.alive k:=by
 cases o with
 |cells ty cs=>exact Gh.iQ h.1
 |arr g e fz cs=>obtain⟨he,cap,_,_,_,ha,_⟩:=h;exact Gh.iD ha he
 |map es c=>exact Gh.iQ h.1
 |dead=>exact absurd rfl hd
theorem Step.keeps {W N:Nm->Prop}{G G':Gh}{w w':World}(h:Step W N G w G' w')(hw:WF G w){k:Nm}(hk:G.dom k)(hn:¬W k){o:aK}(ho:OR G w k o):OR G' w' k o:=by
 by_cases Zs:o=.dead
 ·subst Zs;trivial
 have ak:=ho.alive Zs;obtain⟨em,ea⟩:=h.same k hk hn;obtain⟨hb,hF⟩:=h.blocks (G.mu k) (hw.lt k hk) (λx hx dx ax e=>hn (by rw[← hw.inj x k dx hk ax ak e];exact hx));cases o with
 |cells Hh cs=>
  obtain⟨ha,vs,ty,fr,hh,ht,hv,hf⟩:=ho
  exact⟨by rw[ea];exact ha,vs,ty,fr,by rw[em,hb];exact hh,ht,hv.mono h.le,λo=>by rw[em,hF];exact hf o⟩
 |arr g bx fz cs=>
  obtain⟨he,cap,vs,ty,fr,ha,hh,ht,hs,hl,hv,hf⟩:=ho
  exact⟨he,cap,vs,ty,fr,by rw[ea];exact ha,by rw[em,hb];exact hh,ht,hs,hl,hv.mono h.le,λo ho=>by rw[em,hF];exact hf o ho⟩
 |map es c=>
  obtain⟨ha,bC,hh,hv,hf⟩:=ho
  exact⟨by rw[ea];exact ha,bC,by rw[em,hb];exact hh,hv.mono h.le,λo=>by rw[em,hF];exact hf o⟩
 |dead=>trivial
theorem Heap.yI (H:Heap)(k k':Nm)(o:aK):(H.put k o).get k'=if k=k' then some o else H.get k':=by
 induction H with
 |nil=>simp only[Heap.put,Heap.get]
 | cons p r ih=>
   obtain⟨k0,o0⟩:=p
   simp only[Heap.put]
   by_cases h:k0=k
   · subst h
     simp only[if_true,Heap.get]
     split<;>rfl
   · simp only[if_neg h,Heap.get,ih]
     by_cases h2:k0=k'
     · subst h2
       rw[if_pos rfl,if_neg (λe=>h e.symm),if_pos rfl]
     · rw[if_neg h2,if_neg h2]
theorem Heap.q6 (H:Heap)(u:List (Nm×aK))(k:Nm)(o:aK)(h:(H.dR u).get k=some o):
 (k,o)∈u\/(H.get k=some o/\k∉u.map (·.1)):=by
 unfold Heap.dR at h
 induction u generalizing H with
 |nil=>exact .inr ⟨h,by simp⟩
 | cons p r ih=>
   simp only[List.foldl_cons] at h
   rcases ih (H.put p.1 p.2) h with h|⟨h,hn⟩
   · exact .inl (List.mem_cons_of_mem _ h)
   · rw[Heap.yI] at h
     split at h
     · rename_i e;simp at h;subst h;subst e;exact .inl List.mem_cons_self
     · rename_i e;exact .inr ⟨h,by simp only[List.map_cons,List.mem_cons,not_or];exact⟨λx=>e x.symm,hn⟩⟩
theorem Heap.get_filter (H:Heap)(q:Nm->Bool)(k:Nm):Heap.get (H.filter λp=>q p.1) k=if q k=true then H.get k else none:=by
 induction H with
 |nil=>simp[Heap.get]
 | cons p r ih=>
   obtain⟨k0,o0⟩:=p
   simp only[List.filter_cons]
   by_cases h:q k0=true
   · simp only[h,if_true,Heap.get,ih]
     by_cases e:k0=k
     · subst e;simp[h]
     · simp[e]
   · simp only[h,Heap.get]
     by_cases e:k0=k
     · subst e;simp[ih,h]
     · simp[e,ih]
theorem Heap.uQ (H:Heap)(ks:List Nm)(k:Nm):(H.sL ks).get k=if k∈ks then none else H.get k:=by
 unfold Heap.sL;rw[Heap.get_filter H (λk=> !(ks.contains k)) k];by_cases h:k∈ks<;>simp[h]
theorem HR.dR {W N:Nm->Prop}{G G':Gh}{w w':World}{H:Heap}{u:List (Nm×aK)}(h:Step W N G w G' w')(hw:WF G w)(hH:HR G w H)
 (hu:∀k o,(k,o)∈u->G'.dom k/\OR G' w' k o)(hW:∀k,G.dom k->W k->k∈u.map (·.1)):HR G' w' (H.dR u):=by
 intro k o hk
 rcases Heap.q6 H u k o hk with h1|⟨h1,hn⟩
 ·exact hu k o h1
 ·obtain⟨d,ho⟩:=hH k o h1;exact⟨h.le.dom _ d,h.keeps hw d (λx=>hn (hW k d x)) ho⟩
theorem uR {α β:Type}{P:Program}{s:Sem α}{f:α->Sem β}{w w':World}{a:α}(h:s.run P w=.ok a w'):(s.bind f).run P w=(f a).run P w':=by
 induction s generalizing w with
 |pure x=>simp[Sem.run] at h;obtain⟨rfl,rfl⟩:=h;rfl
 | load m x k ih=>
   simp only[Sem.bind,Sem.run] at h ⊢
   split at h
   · exact ih _ h
   · split at h
     · exact ih _ h
     · simp at h
 | store m x v k ih=>
   cases v<;>simp only[Sem.bind,Sem.run] at h ⊢<;>first
     |(simp at h;done)
     |( split at h
        · split at h
          · simp at h
          · rename_i hf;rw[if_neg hf];exact ih h
        · split at h
          · exact ih h
          · simp at h)
 |new o k ih=>exact ih _ h
 |shape r k ih=>exact ih _ h
 |freeze x n k ih=>exact ih h
 |frozen x k ih=>exact ih _ h
 | getObj r k ih=>
   simp only[Sem.bind,Sem.run] at h ⊢
   split at h
   · simp at h
   · exact ih _ h
   · simp at h
 | setObj r o k ih=>
   simp only[Sem.bind,Sem.run] at h ⊢
   split at h
   · simp at h
   · exact ih h
   · simp at h
 | choose q k ih=>
   simp only[Sem.bind,Sem.run] at h ⊢
   split at h
   · rename_i hf;rw[if_pos hf];exact ih _ h
   · rename_i hf;rw[if_neg hf];exact ih _ h
 |sys c k ih=>exact ih _ h
 |program k ih=>exact ih _ h
 |mark m k ih=>exact ih h
 |halt x=>simp[Sem.run] at h
theorem fk {α β:Type}{P:Program}{s:Sem α}{f:α->Sem β}{w w':World}{a:α}(h:s.run P w=.ok a w'):(s>>=f).run P w=(f a).run P w':=uR h
theorem nx (b o n:Nat):(Addr.add ⟨b,o,none⟩ n)=⟨b,o+n,none⟩:=by
 unfold Addr.add;split
 ·rename_i h;subst h;rfl
 ·rfl
theorem cell_of {w:World}{b:Nat}{vs:Array Value}{ty:TypeId}{fr:Nat×Nat}(h:w.heap[b]?=some (.cells vs ty fr))(o:Nat):w.cell? ⟨b,o,none⟩=vs[o]?:=by
 simp[World.cell?,h]
theorem F0 {w:World}{b:Nat}{vs:Array Value}{ty:TypeId}{fr:Nat×Nat}(h:w.heap[b]?=some (.cells vs ty fr))(o:Nat):w.frozen? ⟨b,o,none⟩=(decide (fr.1<=o)&&decide (o<fr.2)):=by
 simp[World.frozen?,h]
theorem Jy {P:Program}{w:World}{a:Addr}{v:Value}(h:w.cell? a=some v):(load a).run P w=.ok v w:=by
 simp[load,Sem.run,h]
theorem yJ {P:Program}{w:World}{b o:Nat}(vs:List Value):∀(i:Nat) (acc:Array Value),(∀j v,vs[j]?=some v->w.cell? ⟨b,o+i+j,none⟩=some v)->
 (loadCellsFrom ⟨b,o,none⟩ i vs.length acc).run P w=.ok (acc++vs.toArray) w:=by
 induction vs with
 |nil=>intro i acc _;simp[loadCellsFrom]
 |cons v r ih=>
  intro i acc h
  simp only[List.length_cons,loadCellsFrom,nx]
  rw[fk (Jy (by simpa using h 0 v rfl))]
  rw[ih (i+1) (acc.push v) (λj u hu=>by have:=h (j+1) u (by simpa using hu);rw[← this];congr 2;omega)]
  simp
theorem ng {P:Program}{w:World}{b o:Nat}(vs:List Value)(h:∀j v,vs[j]?=some v->w.cell? ⟨b,o+j,none⟩=some v):
 (loadCells ⟨b,o,none⟩ vs.length).run P w=.ok vs.toArray w:=by
 unfold loadCells
 have:=yJ (P:=P) vs 0 #[] (by simpa using h)
 simpa using this
def World.bl (w:World)(b:Nat)(vs:Array Value)(ty:TypeId)(fr:Nat×Nat):World:={w with heap:=w.heap.setIfInBounds b (.cells vs ty fr)}
theorem lC {w:World}{b:Nat}{vs:Array Value}{ty:TypeId}{fr:Nat×Nat}(h:w.heap[b]?=some (.cells vs ty fr))(o:Nat)(v:Value):
 w.setCell ⟨b,o,none⟩ v=World.bl w b (vs.setIfInBounds o v) ty fr:=by
 unfold World.setCell World.bl
 congr 1
 apply Array.ext_getElem?
 intro i
 rw[Array.getElem?_modify,Array.getElem?_setIfInBounds]
 by_cases e:b=i
 ·subst e;have hb:b<w.heap.size:=(Array.getElem?_eq_some_iff.1 h).1;rw[h];simp[hb]
 ·simp[e]
theorem cM {w:World}{b:Nat}(hb:b<w.heap.size)(vs:Array Value)(ty:TypeId)(fr:Nat×Nat):(World.bl w b vs ty fr).heap[b]?=some (.cells vs ty fr):=by
 simp[World.bl,hb]
theorem gO {w:World}{b c:Nat}(h:b≠c)(vs:Array Value)(ty:TypeId)(fr:Nat×Nat):(World.bl w b vs ty fr).heap[c]?=w.heap[c]?:=by
 simp[World.bl,Array.getElem?_setIfInBounds,h]
theorem nP (w:World)(b:Nat)(vs us:Array Value)(ty ty':TypeId)(fr fr':Nat×Nat):World.bl (World.bl w b vs ty fr) b us ty' fr'=World.bl w b us ty' fr':=by
 simp[World.bl]
theorem lD {w:World}{b:Nat}{vs:Array Value}{ty:TypeId}{fr:Nat×Nat}(h:w.heap[b]?=some (.cells vs ty fr)):World.bl w b vs ty fr=w:=by
 unfold World.bl;have:w.heap.setIfInBounds b (.cells vs ty fr)=w.heap:=by
  apply Array.ext_getElem?;intro i;rw[Array.getElem?_setIfInBounds];by_cases e:b=i
  ·subst e;obtain⟨hb,he⟩:=Array.getElem?_eq_some_iff.1 h;simp[hb,he]
  ·simp[e]
 rw[this]
theorem lF (w:World)(b:Nat)(vs:Array Value)(ty:TypeId)(fr:Nat×Nat):(World.bl w b vs ty fr).heap.size=w.heap.size:=by
 simp[World.bl]
def over (vs:List Value)(o:Nat)(xs:List Value):List Value:=vs.take o++xs++vs.drop (o+xs.length)
theorem uS (vs:List Value)(o:Nat):over vs o []=vs:=by simp[over]
theorem F1 {vs:List Value}{o:Nat}{x:Value}{xs:List Value}(h:o+(x::xs).length<=vs.length):over (vs.set o x) (o+1) xs=over vs o (x::xs):=by
 unfold over;simp only[List.length_cons] at h;apply List.ext_getElem?;intro i;simp only[List.getElem?_append,List.length_append,List.length_take,List.length_set,List.getElem?_take,List.getElem?_drop,List.getElem?_set,List.length_cons];have e1:min (o+1) vs.length=o+1:=by omega
 have e2:min o vs.length=o:=by omega
 rw[e1,e2];by_cases c1:i<o
 ·simp[show i<o+1+xs.length by omega,show i<o+1 by omega,show i<o+(xs.length+1) by omega,c1,show ¬o=i by omega]
 ·by_cases c2:i=o
  ·subst c2;simp[show i<i+1+xs.length by omega,show i<vs.length by omega]
  ·by_cases c3:i<o+1+xs.length
   ·simp[c3,show ¬i<o+1 by omega,show i<o+(xs.length+1) by omega,c1];rw[show i - o=(i - (o+1))+1 by omega];simp
   ·simp[c3,show ¬i<o+(xs.length+1) by omega];rw[if_neg (by omega)];congr 1;omega
theorem Qe {P:Program}{w:World}{a:Addr}{u v:Value}(ho:one v=true)(h:w.cell? a=some u)(hf:w.frozen? a=false):(store a v).run P w=.ok () (w.setCell a v):=by
 cases v<;>simp_all [store,Sem.run,one]
theorem jI {P:Program}{b o:Nat}{ty:TypeId}{fr:Nat×Nat}(xs:List Value):∀(w:World) (i:Nat) (vs:List Value),(∀x∈xs,one x=true)->w.heap[b]?=some (.cells vs.toArray ty fr)->pN vs.toArray fr->
 o+i+xs.length<=vs.length->(storeCells ⟨b,o,none⟩ xs i).run P w=.ok () (World.bl w b (over vs (o+i) xs).toArray ty fr):=by
 induction xs with
 |nil=>
  intro w i vs _ h _ _
  simp only[storeCells,uS]
  rw[lD h];rfl
 | cons x r ih=>
  intro w i vs ho h ht hl
  have hl':o+i<vs.length:=by simp at hl;omega
  simp only[storeCells,nx]
  have hc:w.cell? ⟨b,o+i,none⟩=some vs[o+i]:=by rw[cell_of h];simp[hl']
  have hf:w.frozen? ⟨b,o+i,none⟩=false:=by
   rw[F0 h]
   have:=ht (o+i) (by simpa using hl')
   simp only[Bool.and_eq_false_iff,decide_eq_false_iff_not]
   by_cases h1:fr.1<=o+i
   · right;exactλh2=>this ⟨h1,h2⟩
   · left;exact h1
  rw[fk (Qe (ho x List.mem_cons_self) hc hf),lC h]
  have hb:b<w.heap.size:=(Array.getElem?_eq_some_iff.1 h).1
  have ahC:vs.toArray.setIfInBounds (o+i) x=(vs.set (o+i) x).toArray:=by simp
  rw[ahC,ih _ (i+1) (vs.set (o+i) x) (λy hy=>ho y (List.mem_cons_of_mem _ hy)) (cM hb _ _ _) (by simpa [pN] using ht) (by simp at hl ⊢;omega)]
  rw[nP,← Nat.add_assoc,F1 (by simpa [Nat.add_assoc] using hl)]
theorem iU {P:Program}{w:World}(elem:TypeId)(cells:Array Value):(newRow elem cells).run P w=.ok ⟨w.heap.size,0,none⟩ {w with heap:=w.heap.push (.cells cells elem)}:=by
 rfl
theorem bt {P:ij}{t:TypeId}{ti:TI}(h:aW P t=some ti):
 ∃i,P.prog.info? t=some i/\P.prog.underlying t=some ti.desc/\i.size=ti.size/\i.bytes=ti.bytes/\i.zero.bind valOf=ti.zero/\ti.agg=(match ti.desc with|.struct _|.array _ _=>true|_=>false):=by
 have h:=P.acV _ _ h
 unfold R8 at h
 cases h1:P.prog.info? t<;>cases h2:P.prog.underlying t<;>simp[h1,h2] at h
 subst h
 exact⟨_,rfl,rfl,rfl,rfl,rfl,rfl⟩
theorem aH {P:Program}{t:TypeId}{d:TypeDesc}(h:P.underlying t=some d)(w:World):(underlying t).run P w=.ok d w:=by
 unfold underlying program;simp only[bind,Sem.bind,Sem.run,h];rfl
theorem om {P:Program}{t:TypeId}{i:TypeInfo}(h:P.info? t=some i)(w:World):(typeInfo t).run P w=.ok i w:=by
 unfold typeInfo program;simp only[bind,Sem.bind,Sem.run,h];rfl
theorem dO {P:ij}{t:TypeId}{ti:TI}(h:aW P t=some ti)(w:World):(sizeOf t).run P w=.ok ti.size w:=by
 obtain⟨i,hi,_,hs,_⟩:=bt h;unfold sizeOf;rw[fk (om hi w),hs];rfl
theorem F2 {P:ij}{t:TypeId}{ti:TI}(h:aW P t=some ti)(w:World):(isAgg t).run P w=.ok ti.agg w:=by
 obtain⟨i,hi,hu,_,_,_,ha⟩:=bt h;unfold isAgg;rw[fk (aH hu w),ha];cases ti.desc<;>rfl
theorem ez {P:ij}{t:TypeId}{ti:TI}{z:TV}(h:aW P t=some ti)(hz:ti.zero=some z)(w:World)(G:Gh):∃v,(zeroValue t).run P w=.ok v w/\VR G z v:=by
 obtain⟨i,hi,_,_,_,h0,_⟩:=bt h;rw[hz] at h0;cases hv:i.zero with
 |none=>rw[hv] at h0;simp at h0
 |some v=>
  rw[hv] at h0
  simp only[Option.bind_some] at h0
  refine⟨v, ?_,uP h0⟩
  unfold zeroValue
  rw[fk (om hi w),hv];rfl
theorem Qf {v:Value}{x:TV}(h:xL v=some x):x≠ .any:=by
 rintro rfl;unfold xL at h;split at h<;>simp at h
theorem Sg (l:List TV):w6 l≠ .any:=by
 unfold w6;split<;>simp
theorem Sh (l:List TV):oa l≠ .any:=by
 unfold oa;split<;>simp
theorem Si {v:Value}{x:TV}(h:valOf v=some x):x≠ .any:=by
 unfold valOf at h;split at h
 ·split at h<;>simp at h;subst h;exact Sg _
 ·split at h<;>simp at h;subst h;exact Sh _
 ·exact Qf h
theorem oq {P:ij}{t:TypeId}{ti:TI}{z:TV}(h:aW P t=some ti)(hz:ti.zero=some z):z≠ .any:=by
 obtain⟨i,hi,_,_,_,h0,_⟩:=bt h;rw[hz] at h0;cases hv:i.zero with
 |none=>rw[hv] at h0;simp at h0
 |some v=>
  rw[hv] at h0
  simp only[Option.bind_some] at h0
  exact Si h0
theorem Cd {x:TV}(h:x.cells.all TV.leaf=true):x≠ .any:=by
 rintro rfl;simp[TV.cells,TV.leaf] at h
end Go.Abs
namespace Go.Abs
open Go
def jJ (C:cE)(G:Gh):Prop:=∀g cs,C.iL g=some cs->∃vals:Nat->Value,(∀(j:Nat) c,cs[j]?=some c->G.F g (0+j)=some (vals j))/\∀(j:Nat) c,cs[j]?=some c->VT G.F c (vals j)
theorem jJ.mono {C:cE}{G G':Gh}(h:jJ C G)(hG:G.le G'):jJ C G':=λg cs hg=>
 let⟨vals,h1,h2⟩:=h g cs hg
 ⟨vals,λj c hc=>hG.F _ _ _ (h1 j c hc),λj c hc=>(h2 j c hc).mono hG.F⟩
def SR (G:Gh)(slots:List TV)(a:Act):Prop:=cv G slots a.tmps.toList
theorem lG (G:Gh):VR G bN undef:=.t _ _ (.cT [] [] rfl (by simp))
theorem SR.getD {G:Gh}{slots:List TV}{a:Act}(h:SR G slots a)(t:Nat):VR G (slots.getD t bN) (a.tmps.getD t undef):=by
 by_cases ht:t<slots.length
 ·have ht':t<a.tmps.size:=by have:=h.1;simp at this;omega
  have e1:slots[t]?=some slots[t]:=List.getElem?_eq_getElem ht;have e2:a.tmps.toList[t]?=some a.tmps[t]:=by simp[ht']
  have:=h.2 t _ _ e1 e2;simpa [List.getD,e1,ht'] using this
 ·have ht':¬t<a.tmps.size:=by have:=h.1;simp at this;omega
  have e1:slots[t]?=none:=List.getElem?_eq_none (by omega);simpa [List.getD,e1,ht'] using lG G
theorem bL {C:cE}{G:Gh}{slots:List TV}{a:Act}(hs:SR G slots a)(hg:jJ C G){x:Operand}{v:TV}(h:bU C slots x=some v):VR G v (a.eval x):=by
 cases x with
 |tmp t=>simp[bU,G8] at h;subst h;exact hs.getD t
 |const c=>exact uP h
 |global g=>
  simp only[bU] at h
  cases hc:C.iL g<;>simp[hc] at h
  subst h
  obtain⟨vals,h1,h2⟩:=hg g _ hc
  exact .jf _ 0 g 0 vals h1 h2
 |func f=>simp[bU] at h;subst h;exact .t _ _ (.fn _)
theorem wj {C:cE}{G:Gh}{slots:List TV}{a:Act}(hs:SR G slots a)(hg:jJ C G){xs:List Operand}{vs:List TV}(h:iF C slots xs=some vs):cv G vs (xs.map a.eval):=by
 induction xs generalizing vs with
 |nil=>simp[iF] at h;subst h;exact cv.nil G
 |cons x r ih=>
  simp only[iF] at h
  cases h1:bU C slots x<;>cases h2:iF C slots r<;>simp[h1,h2] at h
  subst h
  exact cv.cons (bL hs hg h1) (ih h2)
def cB (P:Program)(nm:Nm)(o:Oper)(a:Act)(w:World)(G:Gh)(v:TV)(u:List (Nm×aK)):Prop:=
 ∃x w' G',((execOp a.eval o).run P w=.ok (.value x) w'\/((execOp a.eval o).run P w=.ok .skip w'/\x=undef))/\Step (λk=>k∈u.map (·.1)) (λk=>k=nm) G w G' w'/\
  (∀k ob,(k,ob)∈u->G'.dom k/\OR G' w' k ob)/\VR G' v x
theorem cB.eD {P:Program}{nm:Nm}{o:Oper}{a:Act}{w w':World}{G G':Gh}{v:TV}{u:List (Nm×aK)}{x:Value}
 (hr:(execOp a.eval o).run P w=.ok (.value x) w')(hs:Step (λk=>k∈u.map (·.1)) (λk=>k=nm) G w G' w')
 (hu:∀k ob,(k,ob)∈u->G'.dom k/\OR G' w' k ob)(hv:VR G' v x):cB P nm o a w G v u:=
 ⟨x,w',G',.inl hr,hs,hu,hv⟩
theorem cB.Ce {P:Program}{nm:Nm}{o:Oper}{a:Act}{w w':World}{G G':Gh}{u:List (Nm×aK)}
 (hr:(execOp a.eval o).run P w=.ok .skip w')(hs:Step (λk=>k∈u.map (·.1)) (λk=>k=nm) G w G' w')
 (hu:∀k ob,(k,ob)∈u->G'.dom k/\OR G' w' k ob):cB P nm o a w G bN u:=
 ⟨undef,w',G',.inr ⟨hr,rfl⟩,hs,hu,lG G'⟩
theorem cB.quiet {P:Program}{nm:Nm}{o:Oper}{a:Act}{w:World}{G:Gh}{v:TV}{x:Value}(hw:WF G w)
 (hr:(execOp a.eval o).run P w=.ok (.value x) w)(hv:VR G v x):cB P nm o a w G v []:=
 cB.eD hr (Step.refl hw _ _) (λ_ _ h=>by simp at h) hv
theorem VR.bool {G:Gh}{b:Bool}{v:Value}(h:VR G (.t (.bool b)) v):v=.bool b:=by cases h with|t _ _ h=>cases h;rfl
theorem VR.int {G:Gh}{k:IntKind}{n:Int}{v:Value}(h:VR G (.t (.int k n)) v):v=.int k n:=by cases h with|t _ _ h=>cases h;rfl
theorem VR.str {G:Gh}{s:List UInt8}{v:Value}(h:VR G (.t (.str s)) v):v=.string ⟨s.toArray⟩:=by cases h with|t _ _ h=>cases h;rfl
theorem bytesLess_eq:∀(a b:List UInt8),Op.bytesLess a b=bK a b
 |_,[]=>by cases ‹List UInt8›<;>rfl
 | [],_::_=>rfl
 |a::x,b::y=>by simp only[Op.bytesLess,bK,bytesLess_eq x y]
theorem toList_mk (s:List UInt8):(ByteArray.mk s.toArray).toList=s:=by
 rw[Go.ByteArray.toList_eq]
theorem Sj {P:Program}{G:Gh}{op:BinOp}{s u:List UInt8}{v:TV}(h:Xg op s u=some v)(w:World):
 ∃x,(Op.stringOp op ⟨s.toArray⟩ ⟨u.toArray⟩).run P w=.ok x w/\VR G v x:=by
 cases op<;>simp only[Xg] at h<;>(try (simp at h;done))<;>
  simp only[Op.stringOp,toList_mk,bytesLess_eq]
 case add=>
  split at h
  ·rename_i hle;simp at h;subst h;rw[if_neg]
   ·refine⟨_,rfl, ?_⟩;have e:(ByteArray.mk s.toArray++ByteArray.mk u.toArray)=⟨(s++u).toArray⟩:=by
     apply Go.WideShapes.bytes_inj;simp
    rw[e];exact .t _ _ (.str _)
   ·have e:IntKind.i64.max=9223372036854775807:=by decide
    rw[e];simp only[ByteArray.size,R9,List.size_toArray] at hle ⊢;omega
  ·simp at h
 all_goals
  simp only[Option.some.injEq] at h;subst h
  exact⟨_,rfl,.t _ _ (.bool _)⟩
section quiet
variable {C:cE}{f:FuncId}{nm:Nm}{H:Heap}{slots:List TV}{o:Oper}{a:Act}{w:World}{G:Gh}{v:TV}{u:List (Nm×aK)}
theorem gu {x:Option TV}(h:yD x=some (v,u)):x=some v/\u=[]:=by
 cases x<;>simp[yD] at h;exact⟨by rw[h.1],h.2⟩
theorem uT {op:BinOp}{t:TypeId}{x y:Operand}{b c:TV}{p q:Value}(hb:VR G b p)(hc:VR G c q)(h:sJ C.P op t x y b c=some v):
 ∃r,(do eqGuard op t x y p q;binOp op t p q:Sem Value).run C.P w=.ok r w/\VR G v r:=by
 unfold sJ at h
 cases h1:jD b<;>cases h2:jD c<;>simp[h1,h2] at h
 rename_i p' q'
 have e1:=lB h1 hb
 have e2:=lB h2 hc
 subst e1;subst e2
 cases h3:cR C.P (do eqGuard op t x y p q;binOp op t p q)<;>simp[h3] at h
 exact⟨_,nv h3 w,uP h⟩
theorem qw {op:BinOp}{t:TypeId}{x y:Operand}{p q:Value}(h:∀z,q≠ .agg z)(h':q≠ .nilIface):eqGuard op t x y p q=pure ():=by
 unfold eqGuard;cases q<;>first
  |(exact absurd rfl (h _))
  |(exact absurd rfl h')
  |(cases op<;>cases p<;>rfl)
theorem eO {t:TypeId}{x y:Operand}{p q:Value}{r:Bool}(hq:∀z,q≠ .agg z)(hq':q≠ .nilIface)(hp1:binOp .eql t p q=do pure (.bool (← Op.equal t p q)))(hp2:binOp .neq t p q=do pure (.bool (!(← Op.equal t p q))))
 (he:(Op.equalIn (9999+1) t p q).run C.P w=.ok r w):
 (do eqGuard .eql t x y p q;binOp .eql t p q:Sem Value).run C.P w=.ok (.bool r) w/\(do eqGuard .neq t x y p q;binOp .neq t p q:Sem Value).run C.P w=.ok (.bool (!r)) w:=by
 have he:(Op.equal t p q).run C.P w=.ok r w:=he
 rw[qw hq hq',qw hq hq',hp1,hp2]
 constructor
 ·show(Sem.bind (Op.equal t p q) _).run C.P w=_;rw[uR he];rfl
 ·show(Sem.bind (Op.equal t p q) _).run C.P w=_;rw[uR he];rfl
section eqs
variable {t e k:TypeId}{ps rs:Array TypeId}{va:Bool}{d:Nat}
theorem yK (hu:C.P.prog.underlying t=some (.slice e))(b:Option Addr)(n m l c:Nat):(Op.equalIn (d+1) t (.slice b n m) (.slice none l c)).run C.P w=.ok b.isNone w:=by
 simp only[Op.equalIn];rw[fk (aH hu w)];cases b<;>rfl
theorem F3 (hu:C.P.prog.underlying t=some (.map k e))(b:Option Nat):(Op.equalIn (d+1) t (.map b) (.map none)).run C.P w=.ok b.isNone w:=by
 simp only[Op.equalIn];rw[fk (aH hu w)];cases b<;>rfl
theorem Sk (hu:C.P.prog.underlying t=some (.func ps rs va)):(Op.equalIn (d+1) t .nilFunc .nilFunc).run C.P w=.ok true w:=by
 simp only[Op.equalIn];rw[fk (aH hu w)];rfl
theorem Jz (hu:C.P.prog.underlying t=some (.func ps rs va))(f:Fn)(a b:Array Value):(Op.equalIn (d+1) t (.func f a b) .nilFunc).run C.P w=.ok false w:=by
 simp only[Op.equalIn];rw[fk (aH hu w)];rfl
theorem An (hu:C.P.prog.underlying t=some (.pointer e))(b:Option Addr):(Op.equalIn (d+1) t (.pointer b) (.pointer none)).run C.P w=.ok b.isNone w:=by
 simp only[Op.equalIn];rw[fk (aH hu w)];cases b<;>rfl
end eqs
theorem F4 {t:TypeId}{x y:Operand}{b c:TV}{p q:Value}{ti:TI}{r:Bool}(ht:aW C.P t=some ti)(hb:VR G b p)(hc:VR G c q)(h:FX ti.desc b c=some r)(w:World):
 (do eqGuard .eql t x y p q;binOp .eql t p q:Sem Value).run C.P w=.ok (.bool r) w/\(do eqGuard .neq t x y p q;binOp .neq t p q:Sem Value).run C.P w=.ok (.bool (!r)) w:=by
 obtain⟨i,hi,hu,_⟩:=bt ht
 unfold FX at h
 split at h<;>simp only[Option.some.injEq,reduceCtorEq] at h<;>subst h<;>rename_i hd<;>rw[hd] at hu
 ·cases hb;cases hc;exact eO (by intro z;simp) (by simp) rfl rfl (yK hu none 0 0 0 0)
 ·cases hb with|t _ _ hb=>cases hb with|sl=>cases hc;exact eO (by intro z;simp) (by simp) rfl rfl (yK hu (some _) _ _ 0 0)
 ·cases hb with|mB _ _ hb=>cases hb with|sl=>cases hc;exact eO (by intro z;simp) (by simp) rfl rfl (yK hu (some _) _ _ 0 0)
 ·cases hb with|t _ _ hb=>cases hb;cases hc with|t _ _ hc=>cases hc;exact eO (by intro z;simp) (by simp) rfl rfl (F3 hu none)
 ·cases hb;cases hc with|t _ _ hc=>cases hc;exact eO (by intro z;simp) (by simp) rfl rfl (F3 hu (some _))
 ·cases hb with|t _ _ hb=>cases hb;cases hc with|t _ _ hc=>cases hc;exact eO (by intro z;simp) (by simp) rfl rfl (Sk hu)
 ·cases hb;cases hc with|t _ _ hc=>cases hc;exact eO (by intro z;simp) (by simp) rfl rfl (Jz hu _ _ _)
 ·cases hb with|t _ _ hb=>cases hb;cases hc with|t _ _ hc=>cases hc;exact eO (by intro z;simp) (by simp) rfl rfl (Jz hu _ _ _)
 ·cases hb with|t _ _ hb=>cases hb;cases hc with|t _ _ hc=>cases hc;exact eO (by intro z;simp) (by simp) rfl rfl (An hu none)
 ·cases hb;cases hc with|t _ _ hc=>cases hc;exact eO (by intro z;simp) (by simp) rfl rfl (An hu (some _))
 ·cases hb;cases hc with|t _ _ hc=>cases hc;exact eO (by intro z;simp) (by simp) rfl rfl (An hu (some _))
end quiet
end Go.Abs
namespace Go.Abs
open Go
section
variable {C:cE}{f:FuncId}{nm:Nm}{H:Heap}{slots:List TV}{a:Act}{w:World}{G:Gh}{v:TV}
theorem Sl {P:Program}{op:BinOp}{k:IntKind}{n m:Int}(h:Qb op k n m=some v)(t:TypeId)(w:World):
 ∃r,(binOp op t (.int k n) (.int k m)).run P w=.ok r w/\VR G v r:=by
 cases op<;>simp only[Qb] at h<;>first
  |(simp at h;done)
  |(simp only[Option.some.injEq] at h;subst h;exact⟨_,by simp[binOp,Op.intArith,Op.intCmp]<;>rfl,.t _ _ (by first|exact .int _ _|exact .bool _)⟩)
  |( split at h
     · simp at h
     · rename_i h0
       simp only[Option.some.injEq] at h;subst h;exact⟨_,by simp[binOp,Op.intDiv,h0]<;>rfl,.t _ _ (.int _ _)⟩)
theorem Sm {op:BinOp}{t:TypeId}{x y:Operand}{b c:TV}{p q:Value}(hb:VR G b p)(hc:VR G c q)(h:qP C.P op t x y b c=some v)(w:World):
 ∃r,(do eqGuard op t x y p q;binOp op t p q:Sem Value).run C.P w=.ok r w/\VR G v r:=by
 unfold qP at h
 split at h
 ·rename_i s u;have e1:=hb.str;have e2:=hc.str;subst e1;subst e2;obtain⟨r,h1,h2⟩:=Sj h w (P:=C.P) (G:=G);refine⟨r, ?_,h2⟩;rw[qw (by intro z;simp) (by simp)];cases op<;>first|exact h1|(simp[Xg] at h)
 ·rename_i k n k' m;split at h;case isFalse=>exact uT hb hc h
  rename_i hk;subst hk;split at h
  ·rename_i v' hv;simp only[Option.some.injEq] at h;subst h;have e1:=hb.int;have e2:=hc.int;subst e1;subst e2;obtain⟨r,h1,h2⟩:=Sl (P:=C.P) (G:=G) hv t w;refine⟨r, ?_,h2⟩;rw[qw (by intro z;simp) (by simp)];exact h1
  ·exact uT hb hc h
 ·split at h
  ·split at h
   ·rename_i ti ht;cases hn:FX ti.desc b c<;>simp[hn] at h;subst h;exact⟨_,(F4 ht hb hc hn w).1,.t _ _ (.bool _)⟩
   ·rename_i ti ht;cases hn:FX ti.desc b c<;>simp[hn] at h;subst h;exact⟨_,(F4 ht hb hc hn w).2,.t _ _ (.bool _)⟩
   ·simp at h
  ·exact uT hb hc h
theorem Xj {op:UnOp}{b:TV}{p:Value}(hb:VR G b p)(h:unT C.P op b=some v)(w:World):∃r,(Op.unary op p).run C.P w=.ok r w/\VR G v r:=by
 unfold unT at h;cases h1:jD b<;>simp[h1] at h;have e:=lB h1 hb;subst e;cases h2:cR C.P (Op.unary op p)<;>simp[h2] at h;exact⟨_,nv h2 w,uP h⟩
theorem Bj {p:TV}{x:Value}{cs:List TV}{off:Nat}(hH:HR G w H)(hw:WF G w)(hp:VR G p x)(h:sI H p=some (cs,off)):
 ∃b o vs,x=.pointer (some ⟨b,o+off,none⟩)/\cv G cs vs/\∀(j:Nat) u,vs[j]?=some u->w.cell? ⟨b,o+j,none⟩=some u:=by
 unfold sI at h
 split at h
 ·rename_i k o;split at h<;>simp at h;rename_i cs' hk;obtain⟨rfl,rfl⟩:=h;obtain⟨hd,ha,vs,ty,fr,hh,ht,hv,hf⟩:=hH k _ hk;cases hp with|ptr _ _ _ _=>
   refine⟨G.mu k,0,vs.toList,by simp,hv,λj u hu=> ?_⟩
   rw[cell_of hh];simpa using hu
 ·rename_i k n o;split at h
  ·rename_i g bx fz cs' hk;split at h<;>simp at h;rename_i hn;obtain⟨rfl,rfl⟩:=h;obtain⟨hd,he,cap,vs,ty,fr,ha,hh,ht,hs,hl,hv,hf⟩:=hH k _ hk;cases hp with|je _ _ _ n' Sn cap' _ hd' uU hle ho xS=>
    rw[ha] at uU
    simp at uU
    obtain⟨e1,e2,e3⟩:=uU
    have hx:=xS (by omega)
    refine⟨G.mu k,0,vs.toList.take cs'.length,by simpa using hx,hv,λj u hu=> ?_⟩
    rw[cell_of hh]
    rw[List.getElem?_take] at hu
    split at hu
    ·simpa using hu
    ·simp at hu
  ·simp at h
 ·rename_i cs' o;simp at h;obtain⟨rfl,rfl⟩:=h;cases hp with|jf _ _ b o' vals hF hv=>
   refine⟨b,o',(List.range cs'.length).map vals,rfl,⟨by simp,λj c u hc hu=> ?_⟩,λj u hu=> ?_⟩
   ·rw[List.getElem?_map] at hc hu;cases hj:cs'[j]? with
    |none=>rw[hj] at hc;simp at hc
    | some t=>
      rw[hj] at hc;simp at hc;subst hc
      have hlt:j<cs'.length:=(List.getElem?_eq_some_iff.1 hj).1
      simp[hlt] at hu
      subst hu
      exact .t _ _ (hv j t hj)
   ·rw[List.getElem?_map] at hu;by_cases hlt:j<cs'.length
    ·simp[hlt] at hu;subst hu;obtain⟨vs,ty,fr,h1,h2⟩:=hw.F _ _ _ (hF j cs'[j] (List.getElem?_eq_getElem hlt));rw[cell_of h1];exact h2
    ·rw[List.getElem?_eq_none (by simpa using hlt)] at hu;simp at hu
 ·simp at h
theorem CL {t:TypeId}{ti:TI}{cs:List TV}{vs:List Value}{b o off:Nat}(ht:aW C.P t=some ti)(hv:cv G cs vs)(hc:∀(j:Nat) u,vs[j]?=some u->w.cell? ⟨b,o+j,none⟩=some u)
 (h:partT ti.agg ti.size cs off=some v):∃r,(loadVar t ⟨b,o+off,none⟩).run C.P w=.ok r w/\VR G v r:=by
 unfold partT at h
 unfold loadVar
 rw[fk (F2 ht w)]
 cases hag:ti.agg<;>rw[hag] at h<;>simp only[Bool.false_eq_true,if_true,if_false] at h ⊢
 ·obtain⟨u,hu,Zt⟩:=hv.at h;refine⟨u, ?_,Zt⟩;exact Jy (hc off u hu)
 ·split at h<;>simp at h;rename_i hle;subst h;have hlen:((vs.drop off).take ti.size).length=ti.size:=by have:=hv.1;simp;omega
  refine⟨.agg ((vs.drop off).take ti.size).toArray, ?_,uO ((hv.drop off).take ti.size)⟩;rw[fk (dO ht w)];have hl:=ng (P:=C.P) (w:=w) (b:=b) (o:=o+off) ((vs.drop off).take ti.size) (λj u hu=>by
   rw[List.getElem?_take] at hu;split at hu
   ·rw[List.getElem?_drop] at hu;rw[Nat.add_assoc];exact hc _ u hu
   ·simp at hu)
  rw[hlen] at hl;rw[fk hl];rfl
theorem Qg {t:TypeId}{p:TV}{x:Value}(hH:HR G w H)(hw:WF G w)(hp:VR G p x)(h:loadT C.P H t p=some v):∃r,(Instr.loadAt t x).run C.P w=.ok r w/\VR G v r:=by
 unfold loadT at h;cases ht:aW C.P t<;>cases hc:sI H p<;>simp[ht,hc] at h;rename_i ti co;obtain⟨cs,off⟩:=co;obtain⟨b,o,vs,rfl,hv,hcell⟩:=Bj hH hw hp hc;exact CL ht hv hcell h
theorem CM {t:TypeId}{ti:TI}{cs:List TV}{vs:List Value}{off:Nat}(ht:aW C.P t=some ti)(hv:cv G cs vs)
 (h:partT ti.agg ti.size cs off=some v)(w:World):∃r,(part t vs.toArray off).run C.P w=.ok r w/\VR G v r:=by
 unfold partT at h
 unfold part
 rw[fk (F2 ht w)]
 cases hag:ti.agg<;>rw[hag] at h<;>simp only[Bool.false_eq_true,if_true,if_false] at h ⊢
 ·obtain⟨u,hu,Zt⟩:=hv.at h;refine⟨u, ?_,Zt⟩;have:vs.toArray[off]?=some u:=by simpa using hu
  rw[this];rfl
 ·split at h<;>simp at h;rename_i hle;subst h;refine⟨.agg ((vs.drop off).take ti.size).toArray, ?_,uO ((hv.drop off).take ti.size)⟩;rw[fk (dO ht w)];have:vs.toArray.extract off (off+ti.size)=((vs.drop off).take ti.size).toArray:=by
   simp[List.extract_eq_take_drop]
  rw[this];rfl
theorem VR.Sq {p:TV}{x:Value}(hp:VR G p x)(hx:Ak p=true):∃vs:List Value,x=.agg vs.toArray/\cv G p.cells vs:=by
 cases hp with
 |t y v h=>
  cases h with
  |agg cs vs hl h=>exact⟨vs,rfl,BV.Jw ⟨hl,h⟩⟩
  |_=>simp[Ak] at hx
 |agg cs vs hl h=>exact⟨vs,rfl,hl,h⟩
 |_=>simp[Ak] at hx
theorem F5 {p:TV}{x:Value}{n:Nat}(hH:HR G w H)(hp:VR G p x)(h:pH H p n=some v):
 ∃b o,x=.pointer (some ⟨b,o,none⟩)/\VR G v (.pointer (some ⟨b,o+n,none⟩)):=by
 unfold pH at h
 split at h
 ·simp at h;subst h;cases hp with|ptr k o hd hn=>exact⟨_,_,rfl,.ptr _ _ hd hn⟩
 ·rename_i k m o;split at h
  ·rename_i g bx fz cs hk;split at h<;>simp at h;rename_i hm;subst h;obtain⟨hd,he,cap,vs,ty,fr,ha,hh,ht,hs,hl,hv,hf⟩:=hH k _ hk;cases hp with|je _ _ _ n' Sn cap' _ hd' uU hle ho xS=>
    rw[ha] at uU
    simp at uU
    obtain⟨e1,e2,e3⟩:=uU
    have hx:=xS (by omega)
    exact⟨_,_,hx,.je k m _ cs.length bx cap _ hd ha (by omega) ⟨_,rfl⟩ (λ_=>rfl)⟩
  ·simp at h
 ·simp at h;subst h;cases hp with|jf cs o b o' vals hF hv=>exact⟨b,_,rfl,by rw[Nat.add_assoc];exact .jf _ _ b o' vals hF hv⟩
 ·simp at h
theorem CN {fd:Field}{ti:TI}{b o:Nat}(ht:aW C.P fd.type=some ti)(hs:ti.size≠0)(w:World):(fieldPlace ⟨b,o,none⟩ fd).run C.P w=.ok ⟨b,o+fd.offset,none⟩ w:=by
 unfold fieldPlace;rw[fk (dO ht w),if_neg hs,nx];rfl
theorem Fh {s:TypeId}{x:Value}{p:TV}{i:Nat}{ti tf:TI}{fs:Array Field}{fd:Field}(hH:HR G w H)(hp:VR G p x)(ht:aW C.P s=some ti)(hd:ti.desc=.struct fs)(hi:fs[i]?=some fd)
 (Sr:aW C.P fd.type=some tf)(hs:tf.size≠0)(h:pH H p fd.offset=some v):∃r,(Instr.fieldAt s x i).run C.P w=.ok r w/\VR G v r:=by
 obtain⟨b,o,rfl,hv⟩:=F5 hH hp h
 refine⟨_, ?_,hv⟩
 obtain⟨_,_,hu,_⟩:=bt ht
 rw[hd] at hu
 simp[Instr.fieldAt,aH hu w,hi,Instr.sureAddr,CN Sr hs w]
theorem Qh {t:TypeId}{x:Value}{p:TV}{i:Nat}{ti tf:TI}{fs:Array Field}{fd:Field}(hp:VR G p x)(ht:aW C.P t=some ti)(hd:ti.desc=.struct fs)(hi:fs[i]?=some fd)
 (Sr:aW C.P fd.type=some tf)(hagg:Ak p=true)(h:partT tf.agg tf.size p.cells fd.offset=some v)(w:World):∃r,(Instr.field t x i).run C.P w=.ok r w/\VR G v r:=by
 obtain⟨vs,rfl,hv⟩:=hp.Sq hagg
 obtain⟨r,h1,h2⟩:=CM Sr hv h w
 refine⟨r, ?_,h2⟩
 obtain⟨_,_,hu,_⟩:=bt ht
 rw[hd] at hu
 simp[Instr.field,aH hu w,hi,asAgg,h1]
theorem pO {p:TV}{x:Value}{n:Nat}(hp:VR G p x)(h:eT p=some n):∃k,x=.int k (n:Int):=by
 unfold eT at h;split at h
 ·rename_i k m;split at h<;>simp at h;subst h;have:=hp.int;subst this;exact⟨k,by rw[Int.toNat_of_nonneg (by assumption)]⟩
 ·simp at h
theorem Qi {t:TypeId}{x y:Value}{p q:TV}(hp:VR G p x)(hq:VR G q y)(h:pI C.P t p q=some v)(w:World):∃r,(Instr.index t x y).run C.P w=.ok r w/\VR G v r:=by
 unfold pI at h;cases ht:aW C.P t<;>cases hi:eT q<;>simp only[ht,hi,reduceCtorEq] at h;rename_i ti i;obtain⟨k,rfl⟩:=pO hq hi;obtain⟨_,_,hu,_⟩:=bt ht;split at h
 ·rename_i s hd;have:=hp.str;subst this;rw[hd] at hu;cases hb:s[i]? <;>simp[hb] at h;subst h;refine⟨_, ?_,.t _ _ (.int _ _)⟩;have hs:(ByteArray.mk s.toArray)[i]?=some ‹UInt8›:=by
   obtain⟨h1,h2⟩:=List.getElem?_eq_some_iff.1 hb;rw[getElem?_pos _ _ (by simpa [ByteArray.size] using h1)];have e:(ByteArray.mk s.toArray)[i]'(by simpa [ByteArray.size] using h1)=s[i]:=rfl;rw[e,h2]
  simp[Instr.index,asIntOf,aH hu w,hs]
 ·rename_i len elem hd;cases hte:aW C.P elem<;>simp only[hte,reduceCtorEq] at h;rename_i te;split at h
  ·rename_i hc;obtain⟨h1,h2,h3⟩:=hc;obtain⟨vs,rfl,hv⟩:=hp.Sq h3;obtain⟨r,h4,h5⟩:=CM hte hv h w;refine⟨r, ?_,h5⟩;rw[hd] at hu;simp[Instr.index,asIntOf,aH hu w,h1,dO hte w,h4]
  ·simp at h
 ·simp at h
theorem JA {x:Value}{p:TV}{i:Nat}(hp:VR G p x)(h:CF p i=some v)(w:World):∃r,(Instr.extract x i).run C.P w=.ok r w/\VR G v r:=by
 unfold CF at h;split at h
 ·cases hp with|cT _ vs hl hh=>
   obtain⟨u,h1,h2⟩:=cv.at ⟨hl,hh⟩ h
   refine⟨u, ?_,h2⟩
   have:vs.toArray[i]?=some u:=by simpa using h1
   simp[Instr.extract,this]
 ·rename_i cs;cases hp with|t _ _ ht=>cases ht with|cT _ vs hl hh=>
   obtain⟨u,h1,h2⟩:=cv.at (BV.Jw (G:=G) ⟨hl,hh⟩) (by simpa using h)
   refine⟨u, ?_,h2⟩
   have:vs.toArray[i]?=some u:=by simpa using h1
   simp[Instr.extract,this]
 ·simp at h
theorem L7 {x:Value}{p:TV}{xt t:TypeId}{ok:Bool}(hp:VR G p x)(h:G7 C.P p t ok=some v)(w:World):∃r,(Instr.typeAssert x xt t ok).run C.P w=.ok r w/\VR G v r:=by
 unfold G7 at h;cases ht:aW C.P t<;>simp only[ht,reduceCtorEq] at h;rename_i ta;obtain⟨_,_,hu,_⟩:=bt ht;have hx:∀t' v',(match p with|.iface t v=>some (t,v)|.t (.iface t v)=>some (t,.t v)|_=>none)=some (t',v')->∃y,x=.iface t' y/\VR G v' y:=by
  intro t' v' he;split at he<;>simp at he
  ·obtain⟨rfl,rfl⟩:=he;cases hp with|iface _ _ y hy=>exact⟨y,rfl,hy⟩
  ·obtain⟨rfl,rfl⟩:=he;cases hp with|t _ _ hy=>cases hy with|iface _ _ y hy=>exact⟨y,rfl,.t _ _ hy⟩
 split at h
 ·simp at h
 ·rename_i t' v' he hni;obtain⟨y,rfl,hy⟩:=hx t' v' he;split at h
  ·rename_i Ss;subst Ss;simp at h;subst h;refine⟨if ok then .tuple #[y,.bool true] else y, ?_, ?_⟩
   ·unfold Instr.typeAssert;rw[fk (aH hu w)];cases hdd:ta.desc<;>first
     |(exact absurd hdd (hni _))
     |(cases ok<;>simp)
   ·cases ok
    ·exact hy
    ·exact lz (cv.cons hy (cv.one (.t _ _ (.bool true))))
  ·rename_i Ss;split at h
   ·rename_i hok;subst hok;cases hz:ta.zero<;>simp[hz] at h;subst h;obtain⟨z,hz1,Fi⟩:=ez ht hz w G;refine⟨.tuple #[z,.bool false], ?_,lz (cv.cons Fi (cv.one (.t _ _ (.bool false))))⟩;unfold Instr.typeAssert;rw[fk (aH hu w)];cases hdd:ta.desc<;>first
     |(exact absurd hdd (hni _))
     |simp[Ss,hz1]
   ·simp at h
 ·simp at h
def sure:Value->Prop
 |.pointer (some _)=>True
 |.func (.func _) _ _=>True
 |_=>False
theorem JB {x:Value}{p:TV}(hp:VR G p x)(h:Js p=true):sure x:=by
 unfold Js at h;split at h<;>simp at h
 ·cases hp;trivial
 ·cases hp with|je _ _ _ _ _ _ _ _ _ _ ho _=>obtain⟨_,rfl⟩:=ho;trivial
 ·cases hp;trivial
 ·cases hp with|t _ _ hp=>cases hp;trivial
 ·cases hp;trivial
end
end Go.Abs
namespace Go.Abs
open Go
theorem Tree.CO {x:Tree}(h:x.leaf=true):x.cells=[x]:=by cases x<;>simp_all [Tree.leaf,Tree.cells]
theorem sM {g:Bool}{size:Nat}:∀{n:Nat} {cs es:List Tree},chunk g size n cs=some es->es.length=n/\flat es=cs/\∀e∈es,e.cells.length=size:=by
 intro n;induction n with
 | zero=>
   intro cs es h
   simp only[chunk] at h
   split at h<;>simp at h
   rename_i hc
   subst h
   simp at hc
   subst hc
   simp[flat]
 | succ n ih =>
   intro cs es h
   simp only[chunk] at h
   split at h
   · rename_i hle
     cases hr:chunk g size n (cs.drop size) with
     |none=>rw[hr] at h;simp at h
     | some r=>
       rw[hr] at h
       simp only at h
       obtain⟨h1,h2,h3⟩:=ih hr
       split at h
       · simp at h;subst h
         refine⟨by simp[h1], ?_,λe he=> ?_⟩
         · simp only[flat,List.flatMap_cons,Tree.cells] at h2 ⊢
           rw[h2,List.take_append_drop]
         · rcases List.mem_cons.1 he with rfl|he
           · simp[Tree.cells,hle]
           · exact h3 e he
       · split at h
         · rename_i c rest
           split at h<;>simp at h
           rename_i hc
           obtain⟨rfl,hl⟩:=hc
           subst h
           refine⟨by simp[h1], ?_,λe he=> ?_⟩
           · simp only[flat,List.flatMap_cons,Tree.CO hl] at h2 ⊢
             rw[h2];simp
           · rcases List.mem_cons.1 he with rfl|he
             · simp[Tree.CO hl]
             · exact h3 e he
         · simp at h
   · simp at h
section
variable {G:Gh}{w:World}{H:Heap}
open Classical in
noncomputable def Hj (G:Gh)(w:World)(H:Heap)(ks:List Nm):uK:=λb o=>
 if ∃k,k∈ks/\G.dom k/\∃g e fz cs,H.get k=some (.arr g e fz cs)/\G.mu k=b/\o<cs.length then w.cell? ⟨b,o,none⟩ else G.F b o
noncomputable def Gh.frozen (G:Gh)(w:World)(H:Heap)(ks:List Nm):Gh:={G with F:=Hj G w H ks}
theorem uV (hw:WF G w)(ks:List Nm):∀b o v,G.F b o=some v->Hj G w H ks b o=some v:=by
 intro b o v h;unfold Hj;split
 ·obtain⟨vs,ty,fr,h1,h2⟩:=hw.F b o v h;rw[cell_of h1];exact h2
 ·exact h
theorem CP (    hw:WF G w)(hH:HR G w H)(ks:List Nm):∀(n:Nat) (v:TV) (x:Tree) (k0:List Nm) (val:Value),oe H n v=some (x,k0)->(∀k∈k0,k∈ks)->VR G v val->VT (Hj G w H ks) x val:=by
 intro n;induction n with
 | zero=>
   intro v x k0 val h hk hv
   cases v<;>simp only[oe] at h<;>try (simp at h;done)
   · simp at h;obtain⟨rfl,rfl⟩:=h;exact hv.tree.mono (uV hw ks)
   · simp at h;obtain⟨rfl,rfl⟩:=h;cases hv;exact .Al _ _
   · simp at h;obtain⟨rfl,rfl⟩:=h;cases hv with|mB _ _ hv=>exact hv.mono (uV hw ks)
 | succ n ih =>
   have ihs:∀(vs:List TV) (xs:List Tree) (k0:List Nm) (vals:List Value),yF (oe H n) vs=some (xs,k0)->(∀k∈k0,k∈ks)->cv G vs vals->BV (Hj G w H ks) xs vals:=by
     intro vs
     induction vs with
     |nil=>intro xs k0 vals h _ hv;simp[yF] at h;obtain⟨rfl,rfl⟩:=h;have:=hv.1;simp at this;subst this;exact BV.nil _
     | cons v r ihr=>
       intro xs k0 vals h hk hv
       obtain⟨u,us,rfl,h1,h2⟩:=hv.gq
       simp only[yF] at h
       cases h3:oe H n v<;>cases h4:yF (oe H n) r<;>simp[h3,h4] at h
       rename_i p q
       obtain⟨rfl,rfl⟩:=h
       exact BV.cons (ih v p.1 p.2 u (by rw[h3]) (λk hk'=>hk k (List.mem_append.2 (.inl hk'))) h1)
         (ihr q.1 q.2 us (by rw[h4]) (λk hk'=>hk k (List.mem_append.2 (.inr hk'))) h2)
   intro v x k0 val h hk hv
   cases v with
   |any=>simp[oe] at h
   |t y=>simp only[oe] at h;simp at h;obtain⟨rfl,rfl⟩:=h;exact hv.tree.mono (uV hw ks)
   |bX=>simp only[oe] at h;simp at h;obtain⟨rfl,rfl⟩:=h;cases hv;exact .Al _ _
   |mB es=>simp only[oe] at h;simp at h;obtain⟨rfl,rfl⟩:=h;cases hv with|mB _ _ hv=>exact hv.mono (uV hw ks)
   | ref k off len =>
     simp only[oe] at h
     split at h
     · rename_i g bx fz cs hk'
       split at h
       · rename_i hc
         obtain⟨hpos,hlen⟩:=hc
         split at h
         · rename_i ts ks' hts
           split at h
           · rename_i es xb
             simp at h
             obtain⟨rfl,rfl⟩:=h
             obtain⟨hd,he,cap,vs,ty,fr,ha,hh,ht,hs,hl,hvs,hf⟩:=hH k _ hk'
             cases hv with|ref _ _ _ n' Sn cap' _ hd' uU hle ho xS=>
               rw[ha] at uU
               simp at uU
               obtain⟨e1,e2,e3⟩:=uU
               subst e2;subst e3
               obtain⟨a,rfl,acW⟩:=xS (by rw[hlen];exact e1)
               obtain⟨c1,c2,c3⟩:=sM xb
               by_cases hne:es=[]
               · subst hne
                 simp at c1
                 subst c1
                 exact .Al _ _
               · have Oy:len≠0:=by intro e;subst e;exact hne (List.length_eq_zero_iff.1 c1)
                 have hcap:off+len<=cap:=by
                   have:(off+len) *bx<=cap*bx:=by rw[hlen,← hs];exact hl
                   exact Nat.le_of_mul_le_mul_right this hpos
                 rw[acW (by omega),← c1]
                 have hsub:=(hvs.drop (off*bx)).take (len*bx)
                 have hVT:=ihs _ ts ks' _ hts (λk hk2=>hk k (List.mem_cons_of_mem _ hk2)) hsub
                 have htl:ts.length=len*bx:=by
                   have:=hVT.1
                   have h2:=hsub.1
                   simp at h2 this
                   rw[← this,h2]
                   have:(off+len) *bx=off*bx+len*bx:=Nat.add_mul _ _ _
                   omega
                 have hmul:(off+len) *bx=off*bx+len*bx:=Nat.add_mul _ _ _
                 refine .sl bx es (G.mu k) (off*bx) (cap - off) (λj=>vs.toList.getD (off*bx+j) undef) hne (by omega) c3 ?_ ?_
                 · intro j c hj
                   rw[c2] at hj
                   have hjl:j<ts.length:=(List.getElem?_eq_some_iff.1 hj).1
                   have hbound:off*bx+j<cs.length:=by omega
                   unfold Hj
                   rw[if_pos ⟨k,hk k List.mem_cons_self,hd,g,bx,fz,cs,hk',rfl,hbound⟩,cell_of hh]
                   have:off*bx+j<vs.size:=by omega
                   simp[List.getD,this]
                 · intro j c hj
                   rw[c2] at hj
                   have hjl:j<ts.length:=(List.getElem?_eq_some_iff.1 hj).1
                   have hbound:off*bx+j<cs.length:=by omega
                   have hvl:off*bx+j<vs.size:=by omega
                   refine hVT.2 j c _ hj ?_
                   rw[List.getElem?_take,if_pos (by omega),List.getElem?_drop,List.getElem?_take,if_pos hbound]
                   simp[List.getD,hvl]
           · simp at h
         · simp at h
       · simp at h
     · simp at h
   | agg cs=>
     simp only[oe] at h
     cases h1:yF (oe H n) cs<;>simp[h1] at h
     obtain⟨rfl,rfl⟩:=h
     cases hv with|agg _ vs hl hh=>exact(ihs cs _ _ vs (by rw[h1]) hk ⟨hl,hh⟩).agg
   | cT cs=>
     simp only[oe] at h
     cases h1:yF (oe H n) cs<;>simp[h1] at h
     obtain⟨rfl,rfl⟩:=h
     cases hv with|cT _ vs hl hh=>exact(ihs cs _ _ vs (by rw[h1]) hk ⟨hl,hh⟩).cT
   | iface ty y=>
     simp only[oe] at h
     cases h1:oe H n y<;>simp[h1] at h
     obtain⟨rfl,rfl⟩:=h
     cases hv with|iface _ _ u hu=>exact .iface _ _ _ (ih y _ _ u (by rw[h1]) hk hu)
   | fn f fs cs=>
     cases fs<;>cases cs<;>simp only[oe] at h<;>simp at h
     obtain⟨rfl,rfl⟩:=h
     cases hv with|fn _ _ _ vs ws hl _ hl' _=>simp at hl hl';subst hl;subst hl';exact .fn f
   |ptr=>simp[oe] at h
   |je=>simp[oe] at h
   |jf=>simp[oe] at h
   |map=>simp[oe] at h
theorem iO (hw:WF G w)(hH:HR G w H)(ks:List Nm):Step (λk=>k∈ks/\∃g e fz cs,H.get k=some (.arr g e fz cs)) (λ_=>False) G w (G.frozen w H ks) w:=by
 refine⟨⟨uV hw ks,λ_ d=>d,λ_ _ a=>⟨a,rfl⟩,λ_ n e c _ a=>⟨n,e,c,a,Nat.le_refl _,λ_=>⟨rfl,rfl,rfl⟩,.inl rfl⟩⟩,⟨λb o v h=> ?_,hw.inj,hw.lt⟩,λ_ _ _=>⟨rfl,rfl⟩,λb hb hn=>⟨rfl,λo=> ?_⟩,λ_ d=>.inl d,λk d=>.inl ⟨k,d,rfl,.inl rfl⟩,Nat.le_refl _,rfl,rfl,rfl⟩
 ·simp only[Gh.frozen,Hj] at h;split at h
  ·unfold World.cell? at h;split at h
   ·rename_i c ty fr hb;simp at h;exact⟨c,ty,fr,hb,h⟩
   ·simp at h
  ·exact hw.F b o v h
 ·simp only[Gh.frozen,Hj];rw[if_neg];rintro ⟨k,hk,hd,g,e,fz,cs,h1,h2,h3⟩;exact hn k ⟨hk,g,e,fz,cs,h1⟩ hd ((hH k _ h1).2.alive (by simp)) h2
theorem JC {H:Heap}{ks:List Nm}{k:Nm}{ob:aK}(h:(k,ob)∈cW H ks):k∈ks/\∃g e fz cs,H.get k=some (.arr g e fz cs)/\ob=.arr g e true cs:=by
 unfold cW at h;rw[List.mem_filterMap] at h;obtain⟨k',hk',h⟩:=h;split at h
 ·rename_i g e fz cs hg;simp at h;obtain⟨rfl,rfl⟩:=h;exact⟨hk',g,e,fz,cs,hg,rfl⟩
 ·simp at h
theorem lH {H:Heap}{ks:List Nm}{k:Nm}(hk:k∈ks)(h:∃g e fz cs,H.get k=some (.arr g e fz cs)):k∈(cW H ks).map (·.1):=by
 obtain⟨g,e,fz,cs,hg⟩:=h;rw[List.mem_map];refine⟨(k,.arr g e true cs), ?_,rfl⟩;unfold cW;rw[List.mem_filterMap];exact⟨k,hk,by rw[hg]⟩
theorem q8 (hw:WF G w)(hH:HR G w H){ks:List Nm}{k:Nm}{ob:aK}(h:(k,ob)∈cW H ks):(G.frozen w H ks).dom k/\OR (G.frozen w H ks) w k ob:=by
 obtain⟨hk,g,e,fz,cs,hg,rfl⟩:=JC h;obtain⟨hd,he,cap,vs,ty,fr,ha,hh,ht,hs,hl,hv,hf⟩:=hH k _ hg;refine⟨hd,he,cap,vs,ty,fr,ha,hh,ht,hs,hl,hv.mono (iO hw hH ks).le,λo ho=> ?_⟩;rcases ho with ho|ho
 ·simp at ho
 ·simp only[Gh.frozen,Hj];rw[if_neg]
  ·exact hf o (.inr ho)
  ·rintro ⟨k',hk',hd',g',e',fz',cs',h1,h2,h3⟩;have:=hw.inj k' k hd' hd ((hH k' _ h1).2.alive (by simp)) (Gh.iD ha he) h2;subst this;rw[hg] at h1;simp at h1;obtain⟨_,_,_,rfl⟩:=h1;omega
end
end Go.Abs
