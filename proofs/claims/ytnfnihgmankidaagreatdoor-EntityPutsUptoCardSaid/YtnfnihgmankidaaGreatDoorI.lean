/- Sparse states: the slots of which something is known; one operation at a time. -/
import Derived.Test.YtnfnihgmankidaaGreatDoorF
set_option linter.unusedVariables false
set_option linter.unusedSimpArgs false
noncomputable section
namespace Go.Abs
open Go
def look:List (Nat×TV)->Nat->TV
 | [],_=>.any
 |(j,v)::r,i=>bif Nat.beq i j then v else look r i
def ei (n:Nat)(sp:List (Nat×TV)):List TV:=(List.range n).map (look sp)
theorem eS (n:Nat)(sp:List (Nat×TV)):(ei n sp).length=n:=by simp[ei]
theorem mB {n:Nat}{sp:List (Nat×TV)}{i:Nat}(h:i<n):(ei n sp)[i]?=some (look sp i):=by
 simp[ei,h]
theorem Tc {n:Nat}{sp:List (Nat×TV)}{i:Nat}(h:i<n):Xx (ei n sp) i=look sp i:=by
 rw[Hs,List.getD_eq_getElem?_getD,mB h];rfl
theorem nu (i j:Nat)(v:TV)(sp:List (Nat×TV)):look ((j,v)::sp) i=if i=j then v else look sp i:=by
 show(bif Nat.beq i j then v else look sp i)=_;cases hb:Nat.beq i j with
 |true=>rw[if_pos (Nat.eq_of_beq_eq_true hb)];rfl
 |false=>rw[if_neg (Nat.ne_of_beq_eq_false hb)];rfl
theorem Td (n:Nat)(sp:List (Nat×TV))(d:Nat)(v:TV):Xy v (ei n sp) d=ei n ((d,v)::sp):=by
 rw[nT];refine List.ext_getElem? λi=> ?_
 rw[List.getElem?_set,eS];by_cases hi:i<n
 ·have h1:(ei n ((d,v)::sp))[i]?=some (look ((d,v)::sp) i):=mB hi;rw[h1,nu];by_cases e:d=i
  ·subst e;simp[hi]
  ·rw[if_neg e,if_neg (λh=>e h.symm),mB hi]
 ·have h1:(ei n ((d,v)::sp))[i]?=none:=by rw[List.getElem?_eq_none_iff,eS];omega
  rw[h1];by_cases e:d=i
  ·subst e;simp[hi]
  ·rw[if_neg e,List.getElem?_eq_none_iff,eS];omega
section
variable {C:cE}
def aa8 (sp:List (Nat×TV))(d:Option Tmp)(v:TV):List (Nat×TV):=match d with
 |some d=>(d,v)::sp
 |none=>sp
theorem fh (n:Nat)(sp:List (Nat×TV))(d:Option Tmp)(v:TV):cU (ei n sp) d v=ei n (aa8 sp d v):=by
 cases d with
 |none=>rfl
 |some d=>exact Td n sp d v
def dn (C:cE)(n:Nat)(sp:List (Nat×TV)):Operand->Option TV
 |.tmp t=>bif Nat.blt t n then some (look sp t) else none
 |.const v=>valOf v
 |.global g=>match C.iT g with
  |some cs=>some (.jt cs 0)
  |none=>none
 |.func f=>some (.t (.fn (.func f)))
theorem dO {n:Nat}{sp:List (Nat×TV)}{x:Operand}{v:TV}(h:dn C n sp x=some v):cg C (ei n sp) x=some v:=by
 cases x with
 | tmp t=>
  simp only[dn] at h
  cases hb:Nat.blt t n with
  |false=>rw[hb] at h;simp at h
  |true=>
   rw[hb] at h
   simp only[cond_true,Option.some.injEq] at h
   have:t<n:=by simpa [Nat.blt,Nat.succ_le_iff] using hb
   simp only[cg,Tc this,h]
 |const v=>exact h
 |global g=>exact h
 |func f=>exact h
def qB (C:cE)(n:Nat)(sp:List (Nat×TV)):List Operand->Option (List TV)
 | []=>some []
 |x::r=>match dn C n sp x,qB C n sp r with
  |some v,some vs=>some (v::vs)
  |_,_=>none
theorem DF {n:Nat}{sp:List (Nat×TV)}:∀{xs:List Operand} {vs:List TV},qB C n sp xs=some vs->iU C (ei n sp) xs=some vs:=by
 intro xs;induction xs with
 |nil=>intro vs h;exact h
 |cons x r ih=>
  intro vs h
  simp only[qB] at h
  cases h1:dn C n sp x<;>cases h2:qB C n sp r<;>simp only[h1,h2,reduceCtorEq] at h
  simp only[iU,dO h1,ih h2]
  exact h
theorem Gv (S:List Nm)(sp sp':List (Nat×TV))(h:∀i,look sp' i=.any\/(look sp i).rn (Kj S)=some (look sp' i)):∀(l:List Nat),q8 (Kj S) (l.map (look sp)) (l.map (look sp'))
 | []=>trivial
 |i::l=>⟨h i,Gv S sp sp' h l⟩
def fits (S:List Nm)(sp:List (Nat×TV)):List (Nat×TV)->Prop
 | []=>True
 |(i,v)::r=>(look sp i).rn (Kj S)=some v/\fits S sp r
theorem Gw {S:List Nm}{sp:List (Nat×TV)}:∀{sp':List (Nat×TV)},fits S sp sp'->∀i,look sp' i=.any\/(look sp i).rn (Kj S)=some (look sp' i)
 | [],_,i=>.inl rfl
 |(j,v)::r,h,i=>by
  rw[nu]
  by_cases e:i=j
  · subst e;rw[if_pos rfl];exact .inr h.1
  · rw[if_neg e];exact Gw h.2 i
theorem Re.sp (S:List Nm){n:Nat}{sp sp':List (Nat×TV)}{H H':Heap}{t t':Nat}(h1:fits S sp sp')(h2:DA (Kj S) H H')(hn:S.Nodup)(hl:S.all Nm.dS=true)(hS:∀k∈S,(H.get k).isSome=true)(ht:S.length<=t'):
 Re C ⟨ei n sp,H,t⟩ ⟨ei n sp',H',t'⟩:=
 Re.mk S (Gv S sp sp' (Gw h1) _) h2 hn hl hS ht
theorem Re.sq (S:List Nm){n:Nat}{sp sp':List (Nat×TV)}{H H':Heap}{t t':Nat}(h1:fits S sp sp')(h2:DA (Kj S) H H')(hn:S.Nodup)(hl:S.all Nm.dS=true)(hS:S.all (λk=>(H.get k).isSome)=true)(ht:S.length<=t'):
 Re C ⟨ei n sp,H,t⟩ ⟨ei n sp',H',t'⟩:=Re.sp S h1 h2 hn hl (λk hk=>List.all_eq_true.1 hS k hk) ht
def same (sp:List (Nat×TV)):List (Nat×TV)->Prop
 | []=>True
 |(i,v)::r=>look sp i=v/\same sp r
theorem Gx {sp:List (Nat×TV)}:∀{sp':List (Nat×TV)},same sp sp'->∀i,look sp' i=.any\/look sp i=look sp' i
 | [],_,i=>.inl rfl
 |(j,v)::r,h,i=>by
  rw[nu]
  by_cases e:i=j
  · subst e;rw[if_pos rfl];exact .inr h.1
  · rw[if_neg e];exact Gx h.2 i
theorem cB.less {G:Gh}{xs ys:List TV}{vs:List Value}(h:cB G xs vs)(hl:ys.length=xs.length)(hh:∀(i:Nat) (x y:TV),xs[i]?=some x->ys[i]?=some y->y=.any\/x=y):cB G ys vs:=by
 refine⟨by rw[hl];exact h.1,λj c v hc hv=> ?_⟩;have hj:j<xs.length:=by rw[← hl];exact(List.getElem?_eq_some_iff.1 hc).1
 rcases hh j xs[j] c (List.getElem?_eq_getElem hj) hc with rfl|e
 ·exact .any _
 ·rw[← e];exact h.2 j _ v (List.getElem?_eq_getElem hj) hv
theorem Re.slots {n:Nat}{sp sp':List (Nat×TV)}{H:Heap}{t:Nat}(h:same sp sp'):Re C ⟨ei n sp,H,t⟩ ⟨ei n sp',H,t⟩:=by
 intro G0 w0 G w a h0 hs hst;refine⟨G,hs,hst.wf,hst.iT,cB.less hst.slots (by simp[eS]) λi x y hx hy=> ?_,hst.heap,hst.fresh⟩;have hi:i<n:=by have:=(List.getElem?_eq_some_iff.1 hx).1;simpa [eS] using this
 simp only[mB hi,Option.some.injEq] at hx hy;subst hx;subst hy;exact Gx h i
theorem Re.heap {sl:List TV}{H H':Heap}{t:Nat}(h:∀k o,H'.get k=some o->H.get k=some o):Re C ⟨sl,H,t⟩ ⟨sl,H',t⟩:=
 λG0 w0 G w a h0 hs hst=>⟨G,hs,hst.wf,hst.iT,hst.slots,λk o hk=>hst.heap k o (h k o hk),hst.fresh⟩
def yK:Nat->List TV->List (Nat×TV)
 |_,[]=>[]
 |i,v::r=>(i,v)::yK (i+1) r
theorem DG:∀(l:List TV) (i j:Nat),i<=j->look (yK i l) j=.any\/l[j - i]?=some (look (yK i l) j)
 | [],_,_,_=>.inl rfl
 | v ::r,i,j,h=>by
   simp only[yK]
   rw[nu]
   by_cases e:j=i
   · subst e;simp
   · rw[if_neg e]
     have:=DG r (i+1) j (by omega)
     have e2:j - i=(j - (i+1))+1:=by omega
     rw[e2,List.getElem?_cons_succ]
     exact this
theorem Re.start (args:List TV)(k:Nat)(H:Heap)(t:Nat):Re C ⟨args++List.replicate k bS,H,t⟩ ⟨ei (args.length+k) (yK 0 args),H,t⟩:=by
 intro G0 w0 G w a h0 hs hst;refine⟨G,hs,hst.wf,hst.iT,cB.less hst.slots (by simp[eS]) λi x y hx hy=> ?_,hst.heap,hst.fresh⟩;have hi:i<args.length+k:=by have:=(List.getElem?_eq_some_iff.1 hx).1;simpa using this
 rw[mB hi,Option.some.injEq] at hy;subst hy;rcases DG args 0 i (Nat.zero_le _) with h|h
 ·exact .inl h
 ·right;rw[Nat.sub_zero] at h;have hl:=(List.getElem?_eq_some_iff.1 h).1;rw[List.getElem?_append_left hl,h] at hx;exact(Option.some.inj hx).symm
end
end Go.Abs
end
noncomputable section
namespace Go.Abs
open Go
section
variable {C:cE}{ev:aW}{f:FuncId}{ops:Array Oper}{Q:aK->St->Prop}{n:Nat}{sp:List (Nat×TV)}{H:Heap}{t:Nat}{r:List Oper}
def dJ (C:cE)(ev:aW)(f:FuncId)(H:Heap)(n:Nat)(sp:List (Nat×TV))(t:Nat)(d:Option Tmp)(op:Op)(v:TV)(u:Heap):Prop:=
 ∀ty pos af g,aT C ev f H (ei n sp) t ⟨d,op,ty,pos,af,g⟩=some (.val v u)
theorem dP.go {d:Tmp}{op:Op}{ty pos af}{v:TV}{u:Heap}(aC:aI C ev)(h:dJ C ev f H n sp t (some d) op v u)(k:dP C ops r ⟨ei n ((d,v)::sp),H.dX u,t+1⟩ Q):
 dP C ops (⟨some d,op,ty,pos,af,none⟩::r) ⟨ei n sp,H,t⟩ Q:=by
 refine dP.step aC rfl (h _ _ _ _) ?_
 rw[fh]
 exact k
theorem dP.Ml {op:Op}{ty pos af}{v:TV}{u:Heap}(aC:aI C ev)(h:dJ C ev f H n sp t none op v u)(k:dP C ops r ⟨ei n sp,H.dX u,t+1⟩ Q):
 dP C ops (⟨none,op,ty,pos,af,none⟩::r) ⟨ei n sp,H,t⟩ Q:=by
 refine dP.step aC rfl (h _ _ _ _) ?_
 rw[fh]
 exact k
def gv (g:Bool)(v:TV):TV:=bif g then v else bS
theorem lC {j gd:Nat}{w:Bool}{o:Oper}(ho:o.guard=some (j,w))(hj:(ops[j]?).bind (·.dst)=some gd)(hn:Nat.blt gd n=true):
 dH ops (ei n sp) o=match look sp gd with|.t (.bool b)=>some (b==w)|.t (.cv [])=>some false|_=>none:=by
 have:gd<n:=by simpa [Nat.blt,Nat.succ_le_iff] using hn
 unfold dH
 simp only[ho,hj,mB this]
 generalize look sp gd=x
 cases x with
 |t y=>cases y with
  |cv vs=>cases vs<;>rfl
  |_=>rfl
 |_=>rfl
theorem dP.guarded {d:Tmp}{op:Op}{ty pos af}{j gd:Nat}{w:Bool}{b g:Bool}{v:TV}(aC:aI C ev)(hj:(ops[j]?).bind (·.dst)=some gd)(hn:Nat.blt gd n=true)
 (hl:(look sp gd=.t (.bool b)/\g=(b==w))\/∃g1,look sp gd=gv g1 (.t (.bool b))/\g=(g1&&(b==w)))
 (h:g=true->dJ C ev f H n sp t (some d) op v [])(k:dP C ops r ⟨ei n ((d,gv g v)::sp),H,t+1⟩ Q):dP C ops (⟨some d,op,ty,pos,af,some (j,w)⟩::r) ⟨ei n sp,H,t⟩ Q:=by
 have hw:dH ops (ei n sp) ⟨some d,op,ty,pos,af,some (j,w)⟩=some g:=by
  rcases hl with ⟨hl,rfl⟩|⟨g1,hl,rfl⟩
  ·rw[lC rfl hj hn,hl]
  ·rw[lC rfl hj hn,hl];cases g1<;>rfl
 cases g with
 | true=>
   refine dP.step aC hw (h rfl _ _ _ _) ?_
   rw[fh]
   exact k
 | false=>
   refine dP.unwanted hw ?_
   rw[fh]
   exact k
variable {d:Option Tmp}
theorem az {x:Operand}{v:TV}(h:dn C n sp x=some v):dJ C ev f H n sp t d (.move x) v []:=λ_ _ _ _=>by
 simp only[aT,evalOp,dO h,zi,Option.map_some]
theorem aD {x:Operand}{v:TV}(h:dn C n sp x=some v):dJ C ev f H n sp t d (.assign x) v []:=λ_ _ _ _=>by
 simp only[aT,evalOp,dO h,zi,Option.map_some]
theorem gP {x:Operand}{v:Tree}(h:dn C n sp x=some (.t v)):dJ C ev f H n sp t d (.move x) (.t v) []:=az h
theorem cN {x:Operand}{v:Tree}(h:dn C n sp x=some (.t v)):dJ C ev f H n sp t d (.assign x) (.t v) []:=aD h
theorem Te {c x y:Operand}{b:Bool}{u v:TV}(hc:dn C n sp c=some (.t (.bool b)))(hx:dn C n sp x=some u)(hy:dn C n sp y=some v):dJ C ev f H n sp t d (.pick c x y) (if b then u else v) []:=λ_ _ _ _=>by
 simp only[aT,evalOp,dO hc,dO hx,dO hy]
theorem Kn {ty:TypeId}{x:Operand}{b:Bool}(h:dn C n sp x=some (.t (.bool b))):dJ C ev f H n sp t d (.unOp .not ty x) (.t (.bool (!b))) []:=λ_ _ _ _=>by
 simp only[aT,evalOp,dO h];cases b<;>rfl
theorem zI {elem:TypeId}{ti:TI}{z:TV}(ht:C.P.ty elem=some ti)(hz:ti.zero=some z)(hl:z.cells.all TV.leaf=true):dJ C ev f H n sp t d (.alloc elem) (.ptr (.loc [t]) 0) [(.loc [t],.cells elem z.cells)]:=λ_ _ _ _=>by
 simp only[aT,evalOp,bf,ht,hz,hl,if_true]
theorem iW {ty:TypeId}{x:Operand}{a v:TV}(h:dn C n sp x=some a)(hl:loadT C.P H ty a=some v):dJ C ev f H n sp t d (.load ty x) v []:=λ_ _ _ _=>by
 simp only[aT,evalOp,dO h,hl,zi,Option.map_some]
theorem er {ty:TypeId}{x:Operand}{a:TV}{v:Tree}(h:dn C n sp x=some a)(hl:loadT C.P H ty a=some (.t v)):dJ C ev f H n sp t d (.load ty x) (.t v) []:=iW h hl
theorem ld {P:iE}{ty:TypeId}{ti:TI}{a v:TV}{cs:List TV}{off:Nat}(ht:P.ty ty=some ti)(hc:tP H a=some (cs,off))(hp:partT ti.agg ti.size cs off=some v):loadT P H ty a=some v:=by
 simp only[loadT,bf,ht,hc,hp]
theorem Tf {P:iE}{ty:TypeId}{ti:TI}{x:TV}{k:Nm}{off:Nat}{g:TypeId}{cs:List TV}(ht:P.ty ty=some ti)(hc:H.get k=some (.cells g cs))(hl:(decide (x.cells.length=ti.size)&&x.cells.all TV.leaf&&decide (off+ti.size<=cs.length))=true):
 storeT P H ty (.ptr k off) x=some [(k,.cells g (cD cs off x.cells))]:=by
 simp only[Bool.and_eq_true,decide_eq_true_eq] at hl
 obtain⟨⟨h1,h2⟩,h3⟩:=hl
 simp only[storeT,bf,ht,h1,h2,hc,h3,and_self,if_true]
theorem mC {ty:TypeId}{x y:Operand}{a v:TV}{u:Heap}(h:dn C n sp x=some a)(h2:dn C n sp y=some v)(hl:storeT C.P H ty a v=some u):dJ C ev f H n sp t d (.store ty x y) bS u:=λ_ _ _ _=>by
 simp only[aT,evalOp,dO h,dO h2,hl,x4,Option.map_some]
def iw (P:iE)(s i:Nat):Option Nat:=match bf P s with
 | some ti=>match ti.desc with
  | .struct fs=>match fs[i]? with
   |some fd=>match bf P fd.type with
    |some tf=>if tf.size=0 then none else some fd.offset
    |none=>none
   |none=>none
  |_=>none
 |none=>none
theorem bp {s i off:Nat}{x:Operand}{a v:TV}(h:dn C n sp x=some a)(ho:iw C.P s i=some off)(hp:qo H a off=some v):dJ C ev f H n sp t d (.fieldAddr s x i) v []:=λ_ _ _ _=>by
 unfold iw at ho;split at ho<;>try (simp at ho;done)
 rename_i ti BL;split at ho<;>try (simp at ho;done)
 rename_i fs hfs;split at ho<;>try (simp at ho;done)
 rename_i fd hfd;split at ho<;>try (simp at ho;done)
 rename_i tf SB;split at ho<;>try (simp at ho;done)
 rename_i hz;simp at ho;subst ho;simp only[aT,evalOp,dO h,BL,hfs,hfd,SB,if_neg hz,hp,zi,Option.map_some]
theorem BS {ty:TypeId}{x i:Operand}{a j v:TV}(h:dn C n sp x=some a)(hi:dn C n sp i=some j)(hv:dI C.P H ty a j=some v):dJ C ev f H n sp t d (.indexAddr ty x i) v []:=λ_ _ _ _=>by
 simp only[aT,evalOp,dO h,dO hi,hv,zi,Option.map_some]
theorem XR {ty:TypeId}{x i:Operand}{a j v:TV}(h:dn C n sp x=some a)(hi:dn C n sp i=some j)(hv:qp C.P ty a j=some v):dJ C ev f H n sp t d (.index ty x i) v []:=λ_ _ _ _=>by
 simp only[aT,evalOp,dO h,dO hi,hv,zi,Option.map_some]
theorem fD {op:BinOp}{ty r2:TypeId}{x y:Operand}{a b v:TV}(h:dn C n sp x=some a)(h2:dn C n sp y=some b)(hv:r8 C.P op ty x y a b=some v):dJ C ev f H n sp t d (.binOp op ty x y r2) v []:=λ_ _ _ _=>by
 simp only[aT,evalOp,dO h,dO h2,hv,zi,Option.map_some]
theorem wrap64 {x:Int}(h1:-9223372036854775808<=x)(h2:x<=9223372036854775807):IntKind.i64.wrap x=x:=by
 simp only[IntKind.wrap,IntKind.bits,IntKind.signed];first|omega|(simp;omega)
theorem DH {op:BinOp}{ty r2:TypeId}{x y:Operand}{k:IntKind}{a b:Int}{v:TV}(h:dn C n sp x=some (.t (.int k a)))(h2:dn C n sp y=some (.t (.int k b)))(hv:Qa op k a b=some v):dJ C ev f H n sp t d (.binOp op ty x y r2) v []:=
 fD h h2 (by simp only[r8,if_true,hv])
theorem oq {ty r2:TypeId}{x y:Operand}{k:IntKind}{a b:Int}(h:dn C n sp x=some (.t (.int k a)))(h2:dn C n sp y=some (.t (.int k b))):dJ C ev f H n sp t d (.binOp .eql ty x y r2) (.t (.bool (a==b))) []:=DH h h2 rfl
theorem mD {ty r2:TypeId}{x y:Operand}{k:IntKind}{a b:Int}(h:dn C n sp x=some (.t (.int k a)))(h2:dn C n sp y=some (.t (.int k b))):dJ C ev f H n sp t d (.binOp .lss ty x y r2) (.t (.bool (decide (a<b)))) []:=DH h h2 rfl
theorem Tg {ty r2:TypeId}{x y:Operand}{k:IntKind}{a b:Int}(h:dn C n sp x=some (.t (.int k a)))(h2:dn C n sp y=some (.t (.int k b))):dJ C ev f H n sp t d (.binOp .leq ty x y r2) (.t (.bool (decide (a<=b)))) []:=DH h h2 rfl
theorem Ko {ty r2:TypeId}{x y:Operand}{k:IntKind}{a b:Int}(h:dn C n sp x=some (.t (.int k a)))(h2:dn C n sp y=some (.t (.int k b))):dJ C ev f H n sp t d (.binOp .gtr ty x y r2) (.t (.bool (decide (a>b)))) []:=DH h h2 rfl
theorem Kq {ty r2:TypeId}{x y:Operand}{k:IntKind}{a b:Int}(h:dn C n sp x=some (.t (.int k a)))(h2:dn C n sp y=some (.t (.int k b))):dJ C ev f H n sp t d (.binOp .geq ty x y r2) (.t (.bool (decide (a>=b)))) []:=DH h h2 rfl
theorem Ig {ty r2:TypeId}{x y:Operand}{a b:Int}(h:dn C n sp x=some (.t (.int .i64 a)))(h2:dn C n sp y=some (.t (.int .i64 b)))(h3:-9223372036854775808<=a+b)(h4:a+b<=9223372036854775807):dJ C ev f H n sp t d (.binOp .add ty x y r2) (.t (.int .i64 (a+b))) []:=
 DH h h2 (by simp only[Qa,wrap64 h3 h4])
theorem Z1 {ty r2:TypeId}{x y:Operand}{a b:List UInt8}(h:dn C n sp x=some (.t (.str a)))(h2:dn C n sp y=some (.t (.str b))):dJ C ev f H n sp t d (.binOp .eql ty x y r2) (.t (.bool (a==b))) []:=fD h h2 rfl
theorem Z2 {ty r2:TypeId}{x y:Operand}{a b:List UInt8}(h:dn C n sp x=some (.t (.str a)))(h2:dn C n sp y=some (.t (.str b))):dJ C ev f H n sp t d (.binOp .neq ty x y r2) (.t (.bool (!(a==b)))) []:=fD h h2 rfl
theorem uk {ty:TypeId}{x:Operand}{s:List UInt8}{ti:TI}(h:dn C n sp x=some (.t (.str s)))(ht:C.P.ty ty=some ti)(hd:ti.desc=.string):dJ C ev f H n sp t d (.call ⟨.builtin .len, #[x], #[ty]⟩) (.t (.int .i64 s.length)) []:=λ_ _ _ _=>by
 have h1:iU C (ei n sp) (#[x].toList)=some [.t (.str s)]:=by simp only[iU,dO h]
 simp only[aT,evalOp,h1];delta kR;simp only[bf,ht,hd]
theorem Ih {ty e:TypeId}{x:Operand}{v:TV}{m:Nat}{ti:TI}(h:dn C n sp x=some v)(ht:C.P.ty ty=some ti)(hd:ti.desc=.slice e)(hl:yo H v=some m)(h1:∀s,v≠ .t (.str s))(h2:v≠ .t .iI)(h3:∀k,v≠ .map k):
 dJ C ev f H n sp t d (.call ⟨.builtin .len, #[x], #[ty]⟩) (.t (.int .i64 m)) []:=λ_ _ _ _=>by
 have h4:iU C (ei n sp) (#[x].toList)=some [v]:=by simp only[iU,dO h]
 simp only[aT,evalOp,h4]
 delta kR
 simp only[bf,ht,hd]
 cases v with
 |t x=>cases x with
  |str s=>exact absurd rfl (h1 s)
  |iI=>exact absurd rfl h2
  |_=>simp only[hl];rfl
 |map k=>exact absurd rfl (h3 k)
 |_=>simp only[hl];rfl
theorem um {ty e:TypeId}{x:Operand}{es:List Tree}{ti:TI}(h:dn C n sp x=some (.t (.sl es)))(ht:C.P.ty ty=some ti)(hd:ti.desc=.slice e):dJ C ev f H n sp t d (.call ⟨.builtin .len, #[x], #[ty]⟩) (.t (.int .i64 es.length)) []:=
 Ih h ht hd rfl (λ_=>by simp) (by simp) (λ_=>by simp)
theorem MN {ty e:TypeId}{x:Operand}{k:Nm}{o l:Nat}{ti:TI}(h:dn C n sp x=some (.ref k o l))(ht:C.P.ty ty=some ti)(hd:ti.desc=.slice e):dJ C ev f H n sp t d (.call ⟨.builtin .len, #[x], #[ty]⟩) (.t (.int .i64 l)) []:=
 Ih h ht hd rfl (λ_=>by simp) (by simp) (λ_=>by simp)
theorem MO {ty e:TypeId}{x:Operand}{ti:TI}(h:dn C n sp x=some .cc)(ht:C.P.ty ty=some ti)(hd:ti.desc=.slice e):dJ C ev f H n sp t d (.call ⟨.builtin .len, #[x], #[ty]⟩) (.t (.int .i64 (0:Nat))) []:=
 Ih h ht hd rfl (λ_=>by simp) (by simp) (λ_=>by simp)
theorem MQ {ty e:TypeId}{x:Operand}{es:List Tree}{ti:TI}(h:dn C n sp x=some (.jS es))(ht:C.P.ty ty=some ti)(hd:ti.desc=.slice e):dJ C ev f H n sp t d (.call ⟨.builtin .len, #[x], #[ty]⟩) (.t (.int .i64 es.length)) []:=
 Ih h ht hd rfl (λ_=>by simp) (by simp) (λ_=>by simp)
theorem Gy {b:Builtin}{args:Array Operand}{ats:Array TypeId}{vs:List TV}{v:TV}{u:Heap}(h:qB C n sp args.toList=some vs)(hv:kR C (.loc [t]) H b ats.toList vs=some (v,u)):dJ C ev f H n sp t d (.call ⟨.builtin b,args,ats⟩) v u:=λ_ _ _ _=>by
 simp only[aT,evalOp,DF h,hv]
theorem DI {ty elem:TypeId}{ti te:TI}{x i:Operand}{es:List Tree}{k:IntKind}{m:Nat}{e:Tree}(h:dn C n sp x=some (.t (.sl es)))(hi:dn C n sp i=some (.t (.int k (m:Int))))(ht:C.P.ty ty=some ti)(hd:ti.desc=.slice elem)
 (hte:C.P.ty elem=some te)(he:es[m]?=some e)(hc:e.cells.length=te.size):dJ C ev f H n sp t d (.indexAddr ty x i) (.jt e.cells 0) []:=
 BS h hi (by
  have h1:fA (.t (.int k (m:Int)))=some m:=by simp[fA]
  simp only[dI,bf,ht,h1,hd,hte,he,hc,if_true])
theorem gU {ty:TypeId}{ti:TI}{x i:Operand}{s:List UInt8}{k:IntKind}{m:Nat}{b:UInt8}(h:dn C n sp x=some (.t (.str s)))(hi:dn C n sp i=some (.t (.int k (m:Int))))(ht:C.P.ty ty=some ti)(hd:ti.desc=.string)
 (he:s[m]?=some b):dJ C ev f H n sp t d (.index ty x i) (.t (.int .u8 b.toNat)) []:=
 XR h hi (by
  have h1:fA (.t (.int k (m:Int)))=some m:=by simp[fA]
  simp only[qp,bf,ht,h1,hd,he])
theorem MS {fo:Operand}{args:Array Operand}{ats:Array TypeId}{g:FuncId}{akb:List TV}{v:TV}{u:Heap}(hc:lV C (ei n sp) ⟨.value fo,args,ats⟩=some (g,akb))(he:rG ev H g akb t=some (.val v u))(hk:C.jN f (d.getD 255)=false:=by rfl):dJ C ev f H n sp t d (.call ⟨.value fo,args,ats⟩) v u:=λ_ _ _ _=>by
 simp only[aT,hc,JO,hk,he]
theorem BT {g:FuncId}{args:Array Operand}{ats:Array TypeId}{akb:List TV}(h:qB C n sp args.toList=some akb):lV C (ei n sp) ⟨.value (.func g),args,ats⟩=some (g,akb):=by
 simp only[lV,cg,DF h]
theorem sj (H:Heap):∀(ts:List Tree),lT H (ts.map .t)=(ts.map .t,[])
 | []=>rfl
 |x::r=>by
  simp only[List.map_cons,lT,sj H r]
  rfl
theorem ot:∀(ts:List Tree),TV.iV (ts.map .t)=[]
 | []=>rfl
 |x::r=>by simp only[List.map_cons,TV.iV,TV.names,ot r,List.append_nil]
theorem sQ (σ:Nm->Option Nm):∀(ts:List Tree),TV.AP σ (ts.map .t)=some (ts.map .t)
 | []=>rfl
 |x::r=>by simp only[List.map_cons,TV.AP,TV.rn,sQ σ r]
theorem BU {g:FuncId}{ts:List Tree}{x:Tree}(he:ev g (ts.map .t) []=some (.ret (.t x) [] [])):rG ev H g (ts.map .t) t=some (.val (.t x) []):=by
 unfold rG;simp only[JN,sj,ot];have h1:reach (H.dX (cT H [])) eB [] []=some []:=rfl;rw[h1];simp only[List.nodup_nil,if_true,sQ,ni,he];rfl
theorem fN {g:FuncId}{args:Array Operand}{ats:Array TypeId}{ts:List Tree}{x:Tree}(h:qB C n sp args.toList=some (ts.map .t))(he:ev g (ts.map .t) []=some (.ret (.t x) [] []))(hk:C.jN f (d.getD 255)=false:=by rfl):dJ C ev f H n sp t d (.call ⟨.value (.func g),args,ats⟩) (.t x) []:=
 MS (BT h) (BU he) hk
end
end Go.Abs
end
noncomputable section
namespace Go.Abs
open Go
section
variable {C:cE}{ev:aW}{f:FuncId}
theorem lD {s s':List TV}:∀{l:List Operand},(∀x∈l,cg C s' x=cg C s x)->iU C s' l=iU C s l
 | [],_=>rfl
 |x::r,h=>by
  simp only[iU,h x List.mem_cons_self,lD (l:=r) λy hy=>h y (List.mem_cons_of_mem _ hy)]
theorem uo {s s':List TV}:∀{l:List (Nat×Operand)},(∀x∈l.map (·.2),cg C s' x=cg C s x)->qt C s' l=qt C s l
 | [],_=>rfl
 |(i,x)::r,h=>by
  simp only[qt,h x (by simp),uo (l:=r) λy hy=>h y (by simp only[List.map_cons,List.mem_cons];exact .inr hy)]
theorem uq {s s':List TV}{o:Option Operand}(h:∀x∈o.toArray.toList,cg C s' x=cg C s x):vK C s' o=vK C s o:=by
 cases o with
 |none=>rfl
 |some x=>simp only[vK,h x (by simp)]
set_option maxHeartbeats 1000000 in
theorem Ii {nm:Nm}{H:Heap}{s s':List TV}{o:Oper}(h:∀x∈o.op.operands.toList,cg C s' x=cg C s x):evalOp C f nm H s' o=evalOp C f nm H s o:=by
 obtain⟨d,op,ty,pos,af,g⟩:=o;cases op with
 |move x=>simp only[evalOp,h x (by simp[Op.operands])]
 |assign x=>simp only[evalOp,h x (by simp[Op.operands])]
 |pick c a b=>simp only[evalOp,h c (by simp[Op.operands]),h a (by simp[Op.operands]),h b (by simp[Op.operands])]
 |alloc t=>rfl
 |box t x=>simp only[evalOp,h x (by simp[Op.operands])]
 |build t ps=>
  have:=uo (C:=C) (s:=s) (s':=s') (l:=ps.toList) (λx hx=>h x (by simpa [Op.operands] using hx))
  simp only[evalOp,this]
 |buildSlice t n ps=>
  have:=uo (C:=C) (s:=s) (s':=s') (l:=ps.toList) (λx hx=>h x (by simpa [Op.operands] using hx))
  simp only[evalOp,this]
 |insert t m k v=>simp only[evalOp,h m (by simp[Op.operands]),h k (by simp[Op.operands]),h v (by simp[Op.operands])]
 |load t x=>simp only[evalOp,h x (by simp[Op.operands])]
 |store t a v=>simp only[evalOp,h a (by simp[Op.operands]),h v (by simp[Op.operands])]
 |nilCheck x=>simp only[evalOp,h x (by simp[Op.operands])]
 |binOp o t a v r=>simp only[evalOp,h a (by simp[Op.operands]),h v (by simp[Op.operands])]
 |unOp o t x=>simp only[evalOp,h x (by simp[Op.operands])]
 |convert a b x=>simp only[evalOp,h x (by simp[Op.operands])]
 |makeInterface t x=>simp only[evalOp,h x (by simp[Op.operands])]
 |makeFunc fn a b=>
  have h1:=lD (C:=C) (s:=s) (s':=s') (l:=a.toList) (λx hx=>h x (by simp only[Op.operands,Array.toList_append,List.mem_append];exact .inl hx))
  have h2:=lD (C:=C) (s:=s) (s':=s') (l:=b.toList) (λx hx=>h x (by simp only[Op.operands,Array.toList_append,List.mem_append];exact .inr hx))
  simp only[evalOp,h1,h2]
 |makeMap t r=>
  have:=uq (C:=C) (s:=s) (s':=s') (o:=r) (λx hx=>h x (by simpa [Op.operands] using hx))
  simp only[evalOp,this]
 |makeSlice t a v=>simp only[evalOp,h a (by simp[Op.operands]),h v (by simp[Op.operands])]
 |slice t x l m k=>
  have h1:=uq (C:=C) (s:=s) (s':=s') (o:=l) (λy hy=>h y (by simp only[Op.operands,Array.toList_append,List.mem_append];exact .inl (.inl (.inr hy))))
  have h2:=uq (C:=C) (s:=s) (s':=s') (o:=m) (λy hy=>h y (by simp only[Op.operands,Array.toList_append,List.mem_append];exact .inl (.inr hy)))
  have h3:=uq (C:=C) (s:=s) (s':=s') (o:=k) (λy hy=>h y (by simp only[Op.operands,Array.toList_append,List.mem_append];exact .inr hy))
  simp only[evalOp,h x (by simp[Op.operands]),h1,h2,h3]
 |fieldAddr t x i=>simp only[evalOp,h x (by simp[Op.operands])]
 |field t x i=>simp only[evalOp,h x (by simp[Op.operands])]
 |indexAddr t a v=>simp only[evalOp,h a (by simp[Op.operands]),h v (by simp[Op.operands])]
 |index t a v=>simp only[evalOp,h a (by simp[Op.operands]),h v (by simp[Op.operands])]
 |lookup t a v ok=>simp only[evalOp,h a (by simp[Op.operands]),h v (by simp[Op.operands])]
 |mapUpdate t m k v=>simp only[evalOp,h m (by simp[Op.operands]),h k (by simp[Op.operands]),h v (by simp[Op.operands])]
 |mapEntry t m k=>simp only[evalOp,h m (by simp[Op.operands]),h k (by simp[Op.operands])]
 |entryStore t m k v=>simp only[evalOp,h m (by simp[Op.operands]),h k (by simp[Op.operands]),h v (by simp[Op.operands])]
 |typeAssert x a b ok=>simp only[evalOp,h x (by simp[Op.operands])]
 |extract x i=>simp only[evalOp,h x (by simp[Op.operands])]
 | call c=>
  obtain⟨ce,args,ats⟩:=c
  cases ce with
  |builtin b=>
   have h1:=lD (C:=C) (s:=s) (s':=s') (l:=args.toList) (λx hx=>h x (by simp only[Op.operands,Call.operands,Array.toList_append,List.mem_append];exact .inr hx))
   simp only[evalOp,h1]
  |value fo=>rfl
  |invoke r m=>rfl
 |_=>rfl
theorem Kr {H:Heap}{s s':List TV}{t:Nat}{o:Oper}(h:∀x∈o.op.operands.toList,cg C s' x=cg C s x):aT C ev f H s' t o=aT C ev f H s t o:=by
 have he:=Ii (C:=C) (f:=f) (nm:=.loc [t]) (H:=H) h;obtain⟨d,op,ty,pos,af,g⟩:=o;cases op with
 |panic x=>simp only[aT,h x (by simp[Op.operands])]
 | call c=>
  obtain⟨ce,args,ats⟩:=c
  cases ce with
  |value fo=>
   have h1:=lD (C:=C) (s:=s) (s':=s') (l:=args.toList) (λx hx=>h x (by simp only[Op.operands,Call.operands,Array.toList_append,List.mem_append];exact .inr hx))
   have h2:cg C s' fo=cg C s fo:=h fo (by simp[Op.operands,Call.operands])
   simp only[aT,lV,h1,h2]
  |invoke r nm=>
   have h1:=lD (C:=C) (s:=s) (s':=s') (l:=args.toList) (λx hx=>h x (by simp only[Op.operands,Call.operands,Array.toList_append,List.mem_append];exact .inr hx))
   have h2:cg C s' r=cg C s r:=h r (by simp[Op.operands,Call.operands])
   simp only[aT,CA,h1,h2]
  |_=>simp only[aT,he]
 |_=>simp only[aT,he]
theorem Ti {L:List Nat}{s:List TV}{x:Operand}(h:∀t,x=.tmp t->t∈L):cg C (jd L 0 s) x=cg C s x:=by
 cases x with
 |tmp t=>
  have ht:=h t rfl
  simp only[cg,Hs,List.getD_eq_getElem?_getD,sN,Nat.zero_add,if_pos ht]
 |_=>rfl
theorem DJ {ops:Array Oper}{H:Heap}{s:List TV}{t:Nat}{o:Oper}:aT C ev f H (jd (o.looksAt ops) 0 s) t o=aT C ev f H s t o:=
 Kr λx hx=>Ti λt e=>by
  subst e;unfold Oper.looksAt;refine List.mem_append_left _ (List.mem_filterMap.2 ⟨_,hx,rfl⟩)
theorem ur {ops:Array Oper}{s:List TV}{o:Oper}:dH ops (jd (o.looksAt ops) 0 s) o=dH ops s o:=by
 unfold dH;cases hg:o.guard with
 |none=>rfl
 | some g=>
  obtain⟨j,want⟩:=g
  simp only[]
  cases hd:(ops[j]?).bind (·.dst) with
  |none=>rfl
  | some d=>
   have hm:d∈o.looksAt ops:=by
    unfold Oper.looksAt
    refine List.mem_append_right _ ?_
    rw[hg]
    simp[hd]
   simp only[sN,Nat.zero_add,if_pos hm]
def vH (C:cE)(ev:aW)(f:FuncId)(ops:Array Oper)(bs:List Nat)(t0 i:Nat)(l:List Oper)(n:Nat)(sp:List (Nat×TV))(H:Heap)(K:List Rec->List (Nat×TV)->Heap->Prop):Prop:=
 ∃recs sp' H',yw C ev f ops bs t0 i l ⟨ei n sp,H⟩ none=some recs/\u6 l recs ⟨ei n sp,H⟩=⟨ei n sp',H'⟩/\(∀j,iq j recs=none)/\K recs sp' H'
section
variable {ops:Array Oper}{bs:List Nat}{t0 i n:Nat}{r:List Oper}{sp:List (Nat×TV)}{H:Heap}{K:List Rec->List (Nat×TV)->Heap->Prop}
theorem vH.nil (h:K [] sp H):vH C ev f ops bs t0 i [] n sp H K:=⟨[],sp,H,rfl,rfl,λ_=>rfl,h⟩
theorem vH.step {o:Oper}{fp:List Nm}{v:TV}{u:Heap}(hw:dH ops (ei n sp) o=some true)(ON:Mr C H (ei n sp) o=some fp)(hx:aT C ev f (lW H fp) (ei n sp) (t0+i) o=some (.val v u))
 (k:vH C ev f ops bs t0 (i+1) r n (aa8 sp o.dst v) (H.dX u) λrs sp' H'=>K (⟨fp,.val v u⟩::rs) sp' H'):vH C ev f ops bs t0 i (o::r) n sp H K:=by
 obtain⟨rs,sp',H',h1,h2,h3,h4⟩:=k
 refine⟨⟨fp,.val v u⟩::rs,sp',H', ?_, ?_,λj=> ?_,h4⟩
 ·simp only[yw,Sk,ur,hw,ON,DJ,hx,Option.isSome_none,Bool.false_eq_true,decide_false,Bool.false_and,if_false,tN.after,fh,jW,h1]
 ·simp only[u6,tN.after,fh,h2]
 ·exact h3 (j+1)
theorem vH.skip {o:Oper}(hw:dH ops (ei n sp) o=some false)(k:vH C ev f ops bs t0 (i+1) r n (aa8 sp o.dst bS) H λrs sp' H'=>K (⟨[],.unwanted⟩::rs) sp' H'):vH C ev f ops bs t0 i (o::r) n sp H K:=by
 obtain⟨rs,sp',H',h1,h2,h3,h4⟩:=k;refine⟨⟨[],.unwanted⟩::rs,sp',H', ?_, ?_,λj=> ?_,h4⟩
 ·simp only[yw,Sk,ur,hw,tN.after,fh,jW,h1]
 ·simp only[u6,tN.after,fh,h2]
 ·exact h3 (j+1)
theorem vH.go {d:Tmp}{op:Op}{ty pos af}{fp:List Nm}{v:TV}{u:Heap}(ON:Mr C H (ei n sp) ⟨some d,op,ty,pos,af,none⟩=some fp)(h:dJ C ev f (lW H fp) n sp (t0+i) (some d) op v u)
 (k:vH C ev f ops bs t0 (i+1) r n ((d,v)::sp) (H.dX u) λrs sp' H'=>K (⟨fp,.val v u⟩::rs) sp' H'):vH C ev f ops bs t0 i (⟨some d,op,ty,pos,af,none⟩::r) n sp H K:=
 vH.step rfl ON (h _ _ _ _) k
theorem vH.Ml {op:Op}{ty pos af}{fp:List Nm}{v:TV}{u:Heap}(ON:Mr C H (ei n sp) ⟨none,op,ty,pos,af,none⟩=some fp)(h:dJ C ev f (lW H fp) n sp (t0+i) none op v u)
 (k:vH C ev f ops bs t0 (i+1) r n sp (H.dX u) λrs sp' H'=>K (⟨fp,.val v u⟩::rs) sp' H'):vH C ev f ops bs t0 i (⟨none,op,ty,pos,af,none⟩::r) n sp H K:=
 vH.step rfl ON (h _ _ _ _) k
theorem vH.yes {d:Tmp}{op:Op}{ty pos af}{j gd:Nat}{w b:Bool}{fp:List Nm}{v:TV}{u:Heap}(hj:(ops[j]?).bind (·.dst)=some gd)(hn:Nat.blt gd n=true)(hl:look sp gd=.t (.bool b))(hb:(b==w)=true)
 (ON:Mr C H (ei n sp) ⟨some d,op,ty,pos,af,some (j,w)⟩=some fp)(h:dJ C ev f (lW H fp) n sp (t0+i) (some d) op v u)
 (k:vH C ev f ops bs t0 (i+1) r n ((d,v)::sp) (H.dX u) λrs sp' H'=>K (⟨fp,.val v u⟩::rs) sp' H'):vH C ev f ops bs t0 i (⟨some d,op,ty,pos,af,some (j,w)⟩::r) n sp H K:=
 vH.step (by rw[lC rfl hj hn,hl];simp only[hb]) ON (h _ _ _ _) k
theorem vH.no {d:Tmp}{op:Op}{ty pos af}{j gd:Nat}{w b:Bool}(hj:(ops[j]?).bind (·.dst)=some gd)(hn:Nat.blt gd n=true)(hl:look sp gd=.t (.bool b))(hb:(b==w)=false)
 (k:vH C ev f ops bs t0 (i+1) r n ((d,bS)::sp) H λrs sp' H'=>K (⟨[],.unwanted⟩::rs) sp' H'):vH C ev f ops bs t0 i (⟨some d,op,ty,pos,af,some (j,w)⟩::r) n sp H K:=
 vH.skip (by rw[lC rfl hj hn,hl];simp only[hb]) k
theorem vH.none {d:Tmp}{op:Op}{ty pos af}{j gd:Nat}{w:Bool}(hj:(ops[j]?).bind (·.dst)=some gd)(hn:Nat.blt gd n=true)(hl:look sp gd=bS)
 (k:vH C ev f ops bs t0 (i+1) r n ((d,bS)::sp) H λrs sp' H'=>K (⟨[],.unwanted⟩::rs) sp' H'):vH C ev f ops bs t0 i (⟨some d,op,ty,pos,af,some (j,w)⟩::r) n sp H K:=
 vH.skip (by rw[lC rfl hj hn,hl];rfl) k
end
theorem AW.draw {id:Nat}{ops:Array Oper}{n t:Nat}{sp:List (Nat×TV)}{H:Heap}{Q:aK->St->Prop}(hm:C.P.prog.follows .mixedOrders=true)(aC:aI C ev)
 (h:vH C ev f ops (jH ops.toList []) t 0 ops.toList n sp H λrecs sp' H'=>jx ops ops.toList recs (jH ops.toList []) ops.toList recs 0=true/\qv 0 ops.toList=true/\Q .normal ⟨ei n sp',H',t+ops.size⟩):
 AW C (.region id ops true) ⟨ei n sp,H,t⟩ Q:=by
 obtain⟨recs,sp',H',h1,h2,h3,h4,h5,h6⟩:=h
 refine AW.drawn (ev:=ev) (f:=f) hm aC (e:=.normal) (st':=⟨ei n sp',H',t+ops.size⟩) ?_ h6
 unfold w6
 simp only[h1,h4,h5,and_self,if_true,h3,h2]
theorem dP.Ij {ops:Array Oper}{Q:aK->St->Prop}{n t:Nat}{sp:List (Nat×TV)}{H:Heap}{r:List Oper}{d:Tmp}{ty r2:TypeId}{x y:Operand}{tt pos af}{es:List Tree}{ti:TI}{e:TypeId}
 (hx:dn C n sp x=some (.t (.sl es)))(hy:dn C n sp y=some .cc)(ht:C.P.ty ty=some ti)(hd:ti.desc=.slice e)
 (k:∀b:Bool,(es≠ []->b=false)->dP C ops r ⟨ei n ((d,.t (.bool b))::sp),H,t+1⟩ Q):dP C ops (⟨some d,.binOp .eql ty x y r2,tt,pos,af,none⟩::r) ⟨ei n sp,H,t⟩ Q:=by
 intro G0 w0 G w a h0 hs hst R hR
 have h1:=bP hst.slots hst.iT (dO hx)
 have h2:=bP hst.slots hst.iT (dO hy)
 obtain⟨_,_,hu,_⟩:=bC (show bf C.P ty=some ti from ht)
 rw[hd] at hu
 obtain⟨ad,len,cap,ep,hne⟩:∃ad len cap,a.eval x=.slice ad len cap/\(es≠ []->ad.isNone=false):=by
  generalize a.eval x=p at h1;cases h1 with|t _ _ h1=>cases h1 with
   |AO ad cap=>exact⟨_,_,_,rfl,λh=>absurd rfl h⟩
   |sl=>exact⟨_,_,_,rfl,λ_=>rfl⟩
 have eq:a.eval y=.slice none 0 0:=by
  generalize a.eval y=q at h2;cases h2;rfl
 have hrun:=(fe (x:=x) (y:=y) (p:=.slice ad len cap) (q:=.slice none 0 0) (C:=C) (w:=w) (t:=ty) (by intro z;simp) (by simp) rfl rfl (zq hu ad len cap 0 0)).1
 have hop:cG C.P (.loc [t]) ⟨some d,.binOp .eql ty x y r2,tt,pos,af,none⟩ a w G (.t (.bool ad.isNone)) []:=
  cG.quiet hst.wf (by simp only[execOp];rw[ep,eq];simp only[Sem.run_bind] at hrun ⊢;rw[hrun];rfl) (.t _ _ (.bool _))
 have kk:=k ad.isNone hne
 refine wpList_step λK hK=> ?_
 rw[ji (G:=G) (show dH ops (ei n sp) ⟨some d,.binOp .eql ty x y r2,tt,pos,af,none⟩=some true from rfl) hst.slots]
 simp only[if_true]
 refine hop.exec.wp oh.no (λz w' hr=> ?_) (λch w' hr=> ?_)
 ·obtain⟨x',G',e1,hs',kj,hv⟩:=hr;simp at e1;subst e1;have:=hst.op (some d) hs' kj hv;rw[fh] at this;exact hK _ _ (kk G0 w0 G' w' _ h0 (dz.comp hs hs'.any) this R λe st' _ _ _ h1 h2=>hR _ _ _ _ _ h1 (Good.FD (put_defers _ _ _) h2))
 ·obtain⟨x',G',e1,_⟩:=hr;simp at e1
def pZ (C:cE)(fn:Func)(n:Nat)(st:St):Option bk:=
 match iP C st fn.results.toList with
 |none=>none
 | some vs=>match nj st.H 0 n with
  |none=>none
  |some os=>match reach st.H eB [] ((u7 vs).names++os.flatMap aO.names) with
   |none=>none
   |some R=>(jY st.H R).map λh=>.ret (u7 vs) os h
theorem MT {fn:Func}{n:Nat}{st:St}{a:Act}{r:bk}{G G0:Gh}{w w0:World}(h:pZ C fn n st=some r)(hs:dz G0 w0 G w)(hst:vG C G w st a):
 ∃v,(results fn a.tmps).run C.P w=.ok v w/\sL G0 w0 n r (.returned v) w:=by
 unfold pZ at h
 split at h
 ·simp at h
 rename_i vs hvs
 obtain⟨v,hv,hr⟩:=yH hst hvs
 refine⟨v,hv, ?_⟩
 split at h
 ·simp at h
 rename_i os hos
 split at h
 ·simp at h
 rename_i R hR
 cases Qx:jY st.H R with
 |none=>rw[Qx] at h;simp at h
 | some nw=>
   rw[Qx] at h
   simp only[Option.map_some,Option.some.injEq] at h
   subst h
   obtain⟨e1,e2⟩:=vY hos
   refine⟨v,G,rfl,hs,e1,λi o ho=> ?_,λk o hm=> ?_,hr⟩
   · have:=e2 i o ho
     rw[Nat.zero_add] at this
     exact hst.heap _ _ this
   · obtain⟨e3,e4⟩:=rI Qx k o hm
     exact⟨e3,hst.heap _ _ e4⟩
def Ks (C:cE)(fn:Func)(n:Nat)(r:bk):aK->St->Prop
 |.normal,st=>finish C fn n st=some r\/pZ C fn n st=some r
 |.ret,st=>finish C fn n st=some r\/pZ C fn n st=some r
 |.panic v,st=>v.names.any Nm.dS=false/\r=.panic v (pV st.H 0 n)
 |_,_=>False
theorem aa9 {f:FuncId}{fn:Func}{body:Code}{args:List TV}{aU:List aO}{r:bk}(A8:C.P.fn f=some fn)(hbody:fn.body=some body)(hname:fn.name≠ "runtime.NumGoroutine")
 (h:AW C body ⟨args++List.replicate (fn.ntmps - args.length) bS,bX 0 aU,0⟩ (Ks C fn aU.length r)):aq C f args aU r:=by
 intro G w vs hw hg had hH hv
 have hfn:=C.P.P9 _ _ A8
 have hst:vG C G w ⟨args++List.replicate (fn.ntmps - args.length) bS,bX 0 aU,0⟩ {tmps:=vs.toArray++Array.replicate (fn.ntmps - vs.toArray.size) undef,defers:=[]}:=by
  refine⟨hw,hg, ?_,hH,λp hp=>absurd hp (had.2 p)⟩;have e:(vs.toArray++Array.replicate (fn.ntmps - vs.toArray.size) undef).toList=vs++List.replicate (fn.ntmps - args.length) undef:=by simp[hv.1]
  unfold SR;rw[e];refine cB.append hv ⟨by simp,λj c u hc hu=> ?_⟩;rw[List.getElem?_replicate] at hc hu;by_cases hl:j<fn.ntmps - args.length
  ·rw[if_pos hl] at hc hu;simp at hc hu;subst hc;subst hu;exact l9 G
  ·rw[if_neg hl] at hc;simp at hc
 have fin:∀{G':Gh} {w':World} {st:St} {a':Act},(finish C fn aU.length st=some r\/pZ C fn aU.length st=some r)->dz G w G' w'->vG C G' w' st a'->∃v,(results fn a'.tmps).run C.P w'=.ok v w'/\sL G w aU.length r (.returned v) w':=
  λh hs hst=>h.elim (λh=>sP h hs hst) (λh=>MT h hs hst)
 refine .inl ⟨?_,calls_of_wp hfn hbody ?_⟩
 ·simp[callFunc,hfn,hname,hbody]
 ·refine wp_mono (h G w G w _ had.2 (Step.refl hw _ _) hst) λex a' w' ⟨e,st,hq,hgd⟩=> ?_
  cases e with
  | normal=>
    obtain⟨G',hs,hd,rfl,jk⟩:=hgd
    exact⟨hd,fin hq hs jk⟩
  | ret=>
    obtain⟨G',hs,hd,rfl,jk⟩:=hgd
    exact⟨hd,fin hq hs jk⟩
  |exit id=>exact hq.elim
  | panic v=>
    obtain⟨_,rfl⟩:=hq
    obtain⟨G',hs,hd,x,rfl,hx,hH',_⟩:=hgd
    refine⟨hd,x,G',rfl,hs,λi o ho=> ?_,hx⟩
    have:=uf ho
    rw[Nat.zero_add] at this
    exact hH' _ _ this
theorem jy {f:FuncId}{fn:Func}{body:Code}{args:List TV}{aU:List aO}{r:bk}(n k:Nat)(A8:C.P.fn f=some fn)(hbody:fn.body=some body)(hname:fn.name≠ "runtime.NumGoroutine")
 (hn:fn.ntmps=n)(ha:args.length=k)(hk:k<=n)(h:AW C body ⟨ei n (yK 0 args),bX 0 aU,0⟩ (Ks C fn aU.length r)):aq C f args aU r:=by
 refine aa9 A8 hbody hname (AW.re (Re.start args (fn.ntmps - args.length) _ _) ?_)
 rw[show args.length+(fn.ntmps - args.length)=n by omega]
 exact h
end
end Go.Abs
end
noncomputable section
namespace Go.Abs
open Go
def wg:Tree->Bool
 |.agg _=>true
 |_=>false
def EOk (ag:Bool)(sz:Nat)(e:Tree):Prop:=e.cells.length=sz/\e.cells.all Tree.leaf=true/\wg e=ag
def dU (ag:Bool)(sz:Nat)(es:List Tree):Prop:=∀e∈es,EOk ag sz e
theorem dU.nil {ag:Bool}{sz:Nat}:dU ag sz []:=λ_ h=>by simp at h
theorem dU.cons {ag:Bool}{sz:Nat}{e:Tree}{es:List Tree}(h:EOk ag sz e)(hs:dU ag sz es):dU ag sz (e::es):=λx hx=>by
 rcases List.mem_cons.1 hx with rfl|hx
 ·exact h
 ·exact hs x hx
theorem dU.append {ag:Bool}{sz:Nat}{a b:List Tree}(h:dU ag sz a)(k:dU ag sz b):dU ag sz (a++b):=λx hx=>(List.mem_append.1 hx).elim (h x) (k x)
theorem dU.take {ag:Bool}{sz:Nat}{a:List Tree}(h:dU ag sz a)(n:Nat):dU ag sz (a.take n):=λx hx=>h x (List.mem_of_mem_take hx)
theorem dU.lens {ag:Bool}{sz:Nat}{es:List Tree}(h:dU ag sz es):∀e∈es,e.cells.length=sz:=λe he=>(h e he).1
theorem dU.ku {ag:Bool}{sz:Nat}{es:List Tree}(h:dU ag sz es):((flat es).map TV.t).all TV.leaf=true:=by
 rw[List.all_eq_true];intro v hv;obtain⟨x,hx,rfl⟩:=List.mem_map.1 hv;obtain⟨e,he,hxe⟩:=List.mem_flatMap.1 hx;exact List.all_eq_true.1 (h e he).2.1 x hxe
theorem dU.length {ag:Bool}{sz:Nat}{es:List Tree}(h:dU ag sz es):((flat es).map TV.t).length=es.length*sz:=by
 rw[List.length_map,ff h.lens]
theorem QK {e:Tree}(h:wg e=true):e=.agg e.cells:=by
 cases e<;>simp_all [wg,Tree.cells]
theorem one_cell {e:Tree}(h:wg e=false):e.cells=[e]:=by
 cases e<;>simp_all [wg,Tree.cells]
theorem DK {ag:Bool}{sz:Nat}(hz:0<sz):∀{es:List Tree},dU ag sz es->chunk ag sz es.length (flat es)=some es
 | [],_=>rfl
 | e::r,h=>by
  obtain⟨h1,h2,h3⟩:=h e List.mem_cons_self
  have ih:=DK hz (es:=r) λx hx=>h x (List.mem_cons_of_mem _ hx)
  have hd:(flat (e::r)).drop sz=flat r:=by
   simp only[flat,List.flatMap_cons]
   rw[← h1,List.drop_left]
  have ht:(flat (e::r)).take sz=e.cells:=by
   simp only[flat,List.flatMap_cons]
   rw[← h1,List.take_left]
  have hl:sz<=(flat (e::r)).length:=by
   simp only[flat,List.flatMap_cons,List.length_append]
   omega
  simp only[List.length_cons,chunk,if_pos hl,hd,ih,ht]
  cases ag with
  |true=>simp only[if_true];rw[← QK h3]
  |false=>
   have hc:=one_cell h3
   have e1:sz=1:=by rw[← h1,hc];rfl
   have hlf:e.leaf=true:=by rw[hc] at h2;simpa using h2
   have ef:flat (e::r)=e::flat r:=by simp only[flat,List.flatMap_cons,hc,List.singleton_append]
   simp only[Bool.false_eq_true,if_false,ef,e1,hlf,and_self,if_true]
theorem DL (g:TV->Option (Tree×List Nm))(hg:∀x,g (.t x)=some (x,[])):∀(ts:List Tree),zk g (ts.map .t)=some (ts,[])
 | []=>rfl
 |x::r=>by simp only[List.map_cons,zk,hg,DL g hg r,List.nil_append]
theorem Tj (H:Heap)(n:Nat)(x:Tree):pQ H n (.t x)=some (x,[]):=by cases n<;>rfl
theorem OS {H:Heap}{n:Nat}{k:Nm}{g:TypeId}{ag fz:Bool}{sz len:Nat}{es:List Tree}(hk:H.get k=some (.arr (g,ag) sz fz ((flat es).map .t)))(hu:dU ag sz es)(hz:0<sz)(hl:len=es.length):
 pQ H (n+1) (.ref k 0 len)=some (.sl es,[k]):=by
 subst hl
 have hc:0<sz/\(0+es.length) *sz=((flat es).map TV.t).length:=⟨hz,by rw[hu.length,Nat.zero_add]⟩
 have e1:(((flat es).map TV.t).drop (0*sz)).take (es.length*sz)=(flat es).map .t:=by
  rw[Nat.zero_mul,List.drop_zero,List.take_of_length_le (by rw[hu.length];exact Nat.le_refl _)]
 simp only[pQ,hk,if_pos hc,e1,DL _ (Tj H n),DK hz hu]
section
variable {C:cE}{ev:aW}{f:FuncId}{n:Nat}{sp:List (Nat×TV)}{H:Heap}{t:Nat}{d:Option Tmp}
theorem sta {P:iE}{ty:TypeId}{ti:TI}{x:TV}{k:Nm}{off:Nat}{g:TypeId×Bool}{bD:Nat}{cs:List TV}(ht:P.ty ty=some ti)(hk:H.get k=some (.arr g bD false cs))(hl:(decide (x.cells.length=ti.size)&&x.cells.all TV.leaf)=true)(ho:off+ti.size<=cs.length):
 storeT P H ty (.js k cs.length off) x=some [(k,.arr g bD false (cD cs off x.cells))]:=by
 simp only[Bool.and_eq_true,decide_eq_true_eq] at hl
 simp only[storeT,bf,ht,hl.1,hl.2,hk,ho,and_self,if_true]
theorem Gz {sz:Nat}{es:List Tree}{i j m:Nat}{e:Tree}(hu:∀e∈es,e.cells.length=sz)(he:es[i]?=some e)(hj:j+m<=sz):((flat es).drop (i*sz+j)).take m=(e.cells.drop j).take m:=by
 refine List.ext_getElem? λq=> ?_
 by_cases hq:q<m
 ·rw[List.getElem?_take_of_lt hq,List.getElem?_take_of_lt hq,List.getElem?_drop,List.getElem?_drop,Nat.add_assoc,vS hu he (by omega)]
 ·rw[List.getElem?_eq_none (by rw[List.length_take];omega),List.getElem?_eq_none (by rw[List.length_take];omega)]
theorem Kt:∀(ts:List Tree),allT (ts.map .t)=some ts
 | []=>rfl
 |x::r=>by simp only[List.map_cons,allT,Kt r]
theorem QL (ts:List Tree):xY (ts.map .t)=.t (.agg ts):=by simp only[xY,Kt]
theorem mE {sz:Nat}{es:List Tree}{i j m:Nat}{e:Tree}(hu:∀e∈es,e.cells.length=sz)(he:es[i]?=some e)(hj:j+m<=sz):partT true m ((flat es).map .t) (i*sz+j)=some (.t (.agg ((e.cells.drop j).take m))):=by
 have hi:i<es.length:=(List.getElem?_eq_some_iff.1 he).1;have hle:i*sz+j+m<=((flat es).map TV.t).length:=by
  rw[List.length_map,ff hu];have:(i+1) *sz<=es.length*sz:=Nat.mul_le_mul_right _ hi;rw[Nat.succ_mul] at this;omega
 simp only[partT,if_true,if_pos hle];rw[← List.map_drop,← List.map_take,Gz hu he hj,QL]
theorem GA {sz:Nat}{es:List Tree}{i j:Nat}{e c:Tree}(hu:∀e∈es,e.cells.length=sz)(he:es[i]?=some e)(hc:e.cells[j]?=some c):partT false 1 ((flat es).map .t) (i*sz+j)=some (.t c):=by
 have hj:j<sz:=by rw[← hu e (List.mem_of_getElem? he)];exact(List.getElem?_eq_some_iff.1 hc).1
 simp only[partT,Bool.false_eq_true,if_false,List.getElem?_map,vS hu he hj,hc,Option.map_some]
theorem Tk {cs:List TV}{off:Nat}{vs:List TV}(h:(cs.drop off).take vs.length=vs):cD cs off vs=cs:=by
 unfold cD;conv=>rhs;rw[← List.take_append_drop off cs,← List.take_append_drop vs.length (cs.drop off),h,List.drop_drop]
 rw[List.append_assoc]
theorem xo {sz:Nat}{es:List Tree}{i j m:Nat}{e:Tree}(hu:∀e∈es,e.cells.length=sz)(he:es[i]?=some e)(hj:j+m<=sz):cD ((flat es).map .t) (i*sz+j) (((e.cells.drop j).take m).map .t)=(flat es).map .t:=by
 refine Tk ?_;have hl:e.cells.length=sz:=hu e (List.mem_of_getElem? he);rw[List.length_map,List.length_take,List.length_drop,hl,Nat.min_eq_left (by omega),← List.map_drop,← List.map_take,Gz hu he hj]
theorem abb {ag:Bool}{sz:Nat}{es:List Tree}(hu:dU ag sz es):eO H ag sz (.t (.sl es))=some (es.length,(flat es).map .t):=by
 have:jV sz es=true:=by
  cases es with
  |nil=>rfl
  |cons e r=>simp only[jV,(hu e List.mem_cons_self).1,BEq.rfl]
 simp only[eO,this,if_true]
theorem XS {ag:Bool}{sz:Nat}{es:List Tree}(hu:dU ag sz es):eO H ag sz (.jS es)=some (es.length,(flat es).map .t):=by
 have:jV sz es=true:=by
  cases es with
  |nil=>rfl
  |cons e r=>simp only[jV,(hu e List.mem_cons_self).1,BEq.rfl]
 simp only[eO,this,if_true]
def OT (y:TV)(es:List Tree):Prop:=y=.t (.sl es)\/y=.jS es
theorem Ik {ag:Bool}{sz:Nat}{y:TV}{es:List Tree}(h:OT y es)(hu:dU ag sz es):eO H ag sz y=some (es.length,(flat es).map .t):=by
 rcases h with rfl|rfl
 ·exact abb hu
 ·exact XS hu
structure BV (P:iE)(st elem:TypeId)(te:TI):Prop where
 sl:∃ti,P.ty st=some ti/\ti.desc=.slice elem
 el:P.ty elem=some te
 ze:∃z,te.zero=some z/\te.size≠0/\z.cells.length=te.size/\te.bytes≠0
theorem rJ {nm:Nm}{s x:TV}{st elem:TypeId}{te:TI}(h:BV C.P st elem te){m:Nat}{cs:List TV}(hs:eO H te.agg te.size x=some (m,cs))(hm:m≠0)(hl:cs.all TV.leaf=true){r:Option (TV×Heap)}
 (hr:  (match s with
  |.cc=>if m*te.bytes<=eP then some (.ref nm 0 m,[(nm,.arr (elem,te.agg) te.size false cs)]) else none
  |.jS es=>match eO H te.agg te.size (.jS es) with
   |some (n,old)=>if(n+m) *te.bytes<=eP then some (.ref nm 0 (n+m),[(nm,.arr (elem,te.agg) te.size false (old++cs))]) else none
   |none=>none
  |.ref k 0 len=>match iR H k 0 len with
   |some (g,e,fz,old)=>if e=te.size/\g.1=elem/\(len+m) *te.bytes<=eP then some (.ref k 0 (len+m),[(k,.arr g e fz (old++cs))]) else none
   |none=>none
  |_=>none:Option (TV×Heap))=r):jM C.P nm H st st s x=r:=by
 obtain⟨⟨ti,h1,h2⟩,h3,z,h4,h5,h6,h7⟩:=h
 have hc:¬(te.size=0\/z.cells.length≠te.size\/te.bytes=0):=by
  rintro (h|h|h)
  ·exact h5 h
  ·exact h h6
  ·exact h7 h
 unfold jM
 simp only[bf,h1,h2,h3,h4,if_neg hc,hs,if_neg hm,hl,if_true]
 exact hr
theorem Il {x y:Operand}{st elem:TypeId}{te:TI}{v:TV}{es:List Tree}(h:BV C.P st elem te)(hx:dn C n sp x=some (.jS []))(hy:dn C n sp y=some v)(hv:OT v es)(hu:dU te.agg te.size es)(hne:es≠ [])(hb:es.length*te.bytes<=eP):
 dJ C ev f H n sp t d (.call ⟨.builtin .append, #[x,y], #[st,st]⟩) (.ref (.loc [t]) 0 es.length) [(.loc [t],.arr (elem,te.agg) te.size false ((flat es).map .t))]:=by
 refine Gy (vs:=[.jS [],v]) (by simp only[qB,hx,hy]) ?_
 show jM C.P (.loc [t]) H st st (.jS []) v=_
 refine rJ h (Ik hv hu) (by simpa using hne) hu.ku ?_
 have e:eO H te.agg te.size (.jS [])=some (0,[]):=rfl
 simp only[e,Nat.zero_add,if_pos hb,List.nil_append]
theorem DM {x y:Operand}{st elem:TypeId}{te:TI}{s v:TV}(h:BV C.P st elem te)(hx:dn C n sp x=some s)(hy:dn C n sp y=some v)(hv:OT v []\/v=.cc)(hs:s=.cc\/(∃es,s=.t (.sl es))\/∃es,s=.jS es):
 dJ C ev f H n sp t d (.call ⟨.builtin .append, #[x,y], #[st,st]⟩) s []:=by
 refine Gy (vs:=[s,v]) (by simp only[qB,hx,hy]) ?_
 obtain⟨⟨ti,h1,h2⟩,h3,z,h4,h5,h6,h7⟩:=h
 have hc:¬(te.size=0\/z.cells.length≠te.size\/te.bytes=0):=by
  rintro (h|h|h)
  ·exact h5 h
  ·exact h h6
  ·exact h7 h
 have hsrc:eO H te.agg te.size v=some (0,[]):=by
  rcases hv with (rfl|rfl)|rfl<;>rfl
 show jM C.P (.loc [t]) H st st s v=some (s,[])
 unfold jM
 simp only[bf,h1,h2,h3,h4,if_neg hc,hsrc,if_true]
 rcases hs with rfl|⟨es,rfl⟩|⟨es,rfl⟩<;>rfl
theorem uv {ty elem:TypeId}{ti te:TI}{z:TV}(ha:d.any (C.jN f)=false)(ht:C.P.ty ty=some ti)(hd:ti.desc=.slice elem)(hte:C.P.ty elem=some te)(hz:te.zero=some z)(hc:(decide (0<te.size)&&decide (z.cells.length=te.size)&&z.cells.all TV.leaf)=true):
 dJ C ev f H n sp t d (.buildSlice ty 0 #[]) (.jS []) []:=λ_ _ _ _=>by
 simp only[Bool.and_eq_true,decide_eq_true_eq] at hc
 obtain⟨⟨h1,h2⟩,h3⟩:=hc
 have Tl:0<te.size/\0*te.size<=16777216/\z.cells.length=te.size/\z.cells.all TV.leaf=true:=⟨h1,by omega,h2,h3⟩
 simp only[aT,evalOp,qt,rF,bf,ht,hd,hte,hz,if_pos Tl,r7,rE,ha,List.map_nil,allT,Option.bind_some,chunk,List.isEmpty_nil,if_true]
theorem wh {ty r2:TypeId}{x y:Operand}{k:IntKind}{a:Int}(h:dn C n sp x=some (.t (.int k a)))(h2:dn C n sp y=some (.t (.int k a))):dJ C ev f H n sp t d (.binOp .neq ty x y r2) (.t (.bool false)) []:=DH h h2 (by simp[Qa])
theorem nv {l:List Tree}{i:Nat}{e:Tree}(h:l[i]?=some e):l.take (i+1)=l.take i++[e]:=by
 obtain⟨h1,rfl⟩:=List.getElem?_eq_some_iff.1 h;exact(List.take_append_getElem h1).symm
theorem Tm {fn:Func}{st:St}{vs:List TV}{x:Tree}{ks:List Nm}(hr:iP C st fn.results.toList=some vs)(hf:pQ st.H fL (u7 vs)=some (x,ks)):finish C fn 0 st=some (.ret (.t x) [] []):=by
 unfold finish;simp only[hr,hf,nj,TV.names,List.flatMap_nil,List.append_nil];rfl
theorem GB {H:Heap}{m:Nat}{k:Nm}{g:TypeId×Bool}{bD:Nat}{fz:Bool}{ts:List Tree}(hk:H.get k=some (.arr g bD fz (ts.map .t))):reach H (m+2) [] [k]=some [k]:=by
 have h1:¬k∈([]:List Nm):=by simp
 simp only[reach,if_neg h1,hk,aO.names,ot,List.append_nil,List.nil_append]
theorem zJ {fn:Func}{st:St}{k:Nm}{o len:Nat}{g:TypeId×Bool}{bD:Nat}{fz:Bool}{ts:List Tree}(hr:iP C st fn.results.toList=some [.ref k o len])(hk:st.H.get k=some (.arr g bD fz (ts.map .t)))(hl:k.dS=true):
 pZ C fn 0 st=some (.ret (.ref k o len) [] [(k,.arr g bD fz (ts.map .t))]):=by
 unfold pZ
 simp only[hr,nj,u7,TV.names,List.flatMap_nil,List.append_nil]
 rw[show eB=3998+2 from rfl,GB hk]
 simp only[jY,hl,if_true,hk,Option.map_some]
theorem MU {g:FuncId}{ts:List Tree}{v v':TV}{news news':Heap}(he:ev g (ts.map .t) []=some (.ret v [] news))(hv:v.rn (oa [] t)=some v')(hn:kZ [] t news=some news'):rG ev H g (ts.map .t) t=some (.val v' news'):=by
 unfold rG;simp only[JN,sj,ot];have h1:reach (H.dX (cT H [])) eB [] []=some []:=rfl;rw[h1];simp only[List.nodup_nil,if_true,sQ,ni,he,hv,hn,nU];rfl
theorem xq {g:FuncId}{args:Array Operand}{ats:Array TypeId}{ts:List Tree}{v v':TV}{news news':Heap}(h:qB C n sp args.toList=some (ts.map .t))(he:ev g (ts.map .t) []=some (.ret v [] news))(hv:v.rn (oa [] t)=some v')(hn:kZ [] t news=some news')(hk:C.jN f (d.getD 255)=false:=by rfl):
 dJ C ev f H n sp t d (.call ⟨.value (.func g),args,ats⟩) v' news':=
 MS (BT h) (MU he hv hn) hk
theorem sS {p:List Nat}{g:TypeId×Bool}{bD:Nat}{fz:Bool}{ts:List Tree}:kZ [] t [(.loc p,.arr g bD fz (ts.map .t))]=some [(.loc (t::p),.arr g bD fz (ts.map .t))]:=by
 simp only[kZ,oa,aO.rn,sQ,Option.map_some]
theorem MV {σ:Nm->Option Nm}{g:TypeId×Bool}{bD:Nat}{fz:Bool}{ts:List Tree}:aO.rn σ (.arr g bD fz (ts.map .t))=some (.arr g bD fz (ts.map .t)):=by
 simp only[aO.rn,sQ,Option.map_some]
theorem Ku {H:Heap}{n:Nat}{k:Nm}{g:TypeId}{ag fz:Bool}{sz len:Nat}{es es':List Tree}(hk:H.get k=some (.arr (g,ag) sz fz ((flat es).map .t)))(hu:dU ag sz es)(hz:0<sz)(hl:len=es.length)(he:es=es'):
 pQ H (n+1) (.ref k 0 len)=some (.sl es',[k]):=by
 subst he
 exact OS hk hu hz hl
theorem Ft {x:Operand}{v:Tree}(h:dn C n sp x=some (.t v)):qB C n sp [x]=some ([v].map .t):=by
 simp only[qB,h];rfl
theorem rh2 {x y:Operand}{v u:Tree}(h:dn C n sp x=some (.t v))(h2:dn C n sp y=some (.t u)):qB C n sp [x,y]=some ([v,u].map .t):=by
 simp only[qB,h,h2];rfl
open Classical in
def ct1 (P:Tree->Prop)(res:Tree->bk):List TV->List aO->Option bk:=λas' os=>match as',os with
 | [.t x],[]=>if P x then some (res x) else none
 |_,_=>none
open Classical in
def ct2 (P:Tree->Tree->Prop)(res:Tree->Tree->bk):List TV->List aO->Option bk:=λas' os=>match as',os with
 | [.t x,.t y],[]=>if P x y then some (res x y) else none
 |_,_=>none
theorem abd {g:FuncId}{P:Tree->Prop}{res:Tree->bk}(h:∀x,P x->aq C g [.t x] [] (res x)):kJ C g (ct1 P res):=by
 intro args aU r hr;unfold ct1 at hr;split at hr
 ·split at hr
  ·rename_i x hp;simp at hr;subst hr;exact h x hp
  ·simp at hr
 ·simp at hr
theorem Tn {g:FuncId}{P:Tree->Tree->Prop}{res:Tree->Tree->bk}(h:∀x y,P x y->aq C g [.t x,.t y] [] (res x y)):kJ C g (ct2 P res):=by
 intro args aU r hr;unfold ct2 at hr;split at hr
 ·split at hr
  ·rename_i x y hp;simp at hr;subst hr;exact h x y hp
  ·simp at hr
 ·simp at hr
theorem abe {g:FuncId}{P:Tree->Prop}{res:Tree->bk}{ev:aW}{x:Tree}(h:P x):mZ g (ct1 P res) ev g [.t x] []=some (res x):=by
 simp only[mZ,if_true,ct1,if_pos h]
theorem Tp {g:FuncId}{P:Tree->Tree->Prop}{res:Tree->Tree->bk}{ev:aW}{x y:Tree}(h:P x y):mZ g (ct2 P res) ev g [.t x,.t y] []=some (res x y):=by
 simp only[mZ,if_true,ct2,if_pos h]
theorem ou {g k:FuncId}{s:List TV->List aO->Option bk}{ev:aW}{as':List TV}{os:List aO}{r:Option bk}(hne:(k==g)=false)(h:ev k as' os=r):mZ g s ev k as' os=r:=by
 have:¬k=g:=by simpa using hne
 simp only[mZ,if_neg this];exact h
end
end Go.Abs
end
