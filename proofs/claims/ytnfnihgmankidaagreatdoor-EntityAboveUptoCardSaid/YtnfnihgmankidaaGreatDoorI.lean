/- Sparse states: the slots of which something is known; one operation at a time. -/
import Derived.Test.YtnfnihgmankidaaGreatDoorF
set_option linter.unusedVariables false
set_option linter.unusedSimpArgs false
noncomputable section
namespace Go.Abs
open Go
def look:List (Nat×TV)->Nat->TV
 | [],_=>.any
 |(j,v)::r,i=>bif Nat.beq i j then v else look r i
def dU (n:Nat)(sp:List (Nat×TV)):List TV:=(List.range n).map (look sp)
theorem fJ (n:Nat)(sp:List (Nat×TV)):(dU n sp).length=n:=by simp[dU]
theorem nU {n:Nat}{sp:List (Nat×TV)}{i:Nat}(h:i<n):(dU n sp)[i]?=some (look sp i):=by
 simp[dU,h]
theorem S5 {n:Nat}{sp:List (Nat×TV)}{i:Nat}(h:i<n):Xh (dU n sp) i=look sp i:=by
 rw[G8,List.getD_eq_getElem?_getD,nU h];rfl
theorem mL (i j:Nat)(v:TV)(sp:List (Nat×TV)):look ((j,v)::sp) i=if i=j then v else look sp i:=by
 show(bif Nat.beq i j then v else look sp i)=_;cases hb:Nat.beq i j with
 |true=>rw[if_pos (Nat.eq_of_beq_eq_true hb)];rfl
 |false=>rw[if_neg (Nat.ne_of_beq_eq_false hb)];rfl
theorem S6 (n:Nat)(sp:List (Nat×TV))(d:Nat)(v:TV):Xi v (dU n sp) d=dU n ((d,v)::sp):=by
 rw[mZ];refine List.ext_getElem? λi=> ?_
 rw[List.getElem?_set,fJ];by_cases hi:i<n
 ·have h1:(dU n ((d,v)::sp))[i]?=some (look ((d,v)::sp) i):=nU hi;rw[h1,mL];by_cases e:d=i
  ·subst e;simp[hi]
  ·rw[if_neg e,if_neg (λh=>e h.symm),nU hi]
 ·have h1:(dU n ((d,v)::sp))[i]?=none:=by rw[List.getElem?_eq_none_iff,fJ];omega
  rw[h1];by_cases e:d=i
  ·subst e;simp[hi]
  ·rw[if_neg e,List.getElem?_eq_none_iff,fJ];omega
section
variable {C:cE}
def aaO (sp:List (Nat×TV))(d:Option Tmp)(v:TV):List (Nat×TV):=match d with
 |some d=>(d,v)::sp
 |none=>sp
theorem eP (n:Nat)(sp:List (Nat×TV))(d:Option Tmp)(v:TV):cZ (dU n sp) d v=dU n (aaO sp d v):=by
 cases d with
 |none=>rfl
 |some d=>exact S6 n sp d v
def dz (C:cE)(n:Nat)(sp:List (Nat×TV)):Operand->Option TV
 |.tmp t=>bif Nat.blt t n then some (look sp t) else none
 |.const v=>valOf v
 |.global g=>match C.iL g with
  |some cs=>some (.jf cs 0)
  |none=>none
 |.func f=>some (.t (.fn (.func f)))
theorem dK {n:Nat}{sp:List (Nat×TV)}{x:Operand}{v:TV}(h:dz C n sp x=some v):bU C (dU n sp) x=some v:=by
 cases x with
 | tmp t=>
  simp only[dz] at h
  cases hb:Nat.blt t n with
  |false=>rw[hb] at h;simp at h
  |true=>
   rw[hb] at h
   simp only[cond_true,Option.some.injEq] at h
   have:t<n:=by simpa [Nat.blt,Nat.succ_le_iff] using hb
   simp only[bU,S5 this,h]
 |const v=>exact h
 |global g=>exact h
 |func f=>exact h
def pT (C:cE)(n:Nat)(sp:List (Nat×TV)):List Operand->Option (List TV)
 | []=>some []
 |x::r=>match dz C n sp x,pT C n sp r with
  |some v,some vs=>some (v::vs)
  |_,_=>none
theorem Dq {n:Nat}{sp:List (Nat×TV)}:∀{xs:List Operand} {vs:List TV},pT C n sp xs=some vs->iF C (dU n sp) xs=some vs:=by
 intro xs;induction xs with
 |nil=>intro vs h;exact h
 |cons x r ih=>
  intro vs h
  simp only[pT] at h
  cases h1:dz C n sp x<;>cases h2:pT C n sp r<;>simp only[h1,h2,reduceCtorEq] at h
  simp only[iF,dK h1,ih h2]
  exact h
theorem Gq (S:List Nm)(sp sp':List (Nat×TV))(h:∀i,look sp' i=.any\/(look sp i).rn (JV S)=some (look sp' i)):∀(l:List Nat),qm (JV S) (l.map (look sp)) (l.map (look sp'))
 | []=>trivial
 |i::l=>⟨h i,Gq S sp sp' h l⟩
def fits (S:List Nm)(sp:List (Nat×TV)):List (Nat×TV)->Prop
 | []=>True
 |(i,v)::r=>(look sp i).rn (JV S)=some v/\fits S sp r
theorem Gr {S:List Nm}{sp:List (Nat×TV)}:∀{sp':List (Nat×TV)},fits S sp sp'->∀i,look sp' i=.any\/(look sp i).rn (JV S)=some (look sp' i)
 | [],_,i=>.inl rfl
 |(j,v)::r,h,i=>by
  rw[mL]
  by_cases e:i=j
  · subst e;rw[if_pos rfl];exact .inr h.1
  · rw[if_neg e];exact Gr h.2 i
theorem Re.sp (S:List Nm){n:Nat}{sp sp':List (Nat×TV)}{H H':Heap}{t t':Nat}(h1:fits S sp sp')(h2:Dj (JV S) H H')(hn:S.Nodup)(hl:S.all Nm.eY=true)(hS:∀k∈S,(H.get k).isSome=true)(ht:S.length<=t'):
 Re C ⟨dU n sp,H,t⟩ ⟨dU n sp',H',t'⟩:=
 Re.mk S (Gq S sp sp' (Gr h1) _) h2 hn hl hS ht
theorem Re.sq (S:List Nm){n:Nat}{sp sp':List (Nat×TV)}{H H':Heap}{t t':Nat}(h1:fits S sp sp')(h2:Dj (JV S) H H')(hn:S.Nodup)(hl:S.all Nm.eY=true)(hS:S.all (λk=>(H.get k).isSome)=true)(ht:S.length<=t'):
 Re C ⟨dU n sp,H,t⟩ ⟨dU n sp',H',t'⟩:=Re.sp S h1 h2 hn hl (λk hk=>List.all_eq_true.1 hS k hk) ht
def same (sp:List (Nat×TV)):List (Nat×TV)->Prop
 | []=>True
 |(i,v)::r=>look sp i=v/\same sp r
theorem Gs {sp:List (Nat×TV)}:∀{sp':List (Nat×TV)},same sp sp'->∀i,look sp' i=.any\/look sp i=look sp' i
 | [],_,i=>.inl rfl
 |(j,v)::r,h,i=>by
  rw[mL]
  by_cases e:i=j
  · subst e;rw[if_pos rfl];exact .inr h.1
  · rw[if_neg e];exact Gs h.2 i
theorem cv.less {G:Gh}{xs ys:List TV}{vs:List Value}(h:cv G xs vs)(hl:ys.length=xs.length)(hh:∀(i:Nat) (x y:TV),xs[i]?=some x->ys[i]?=some y->y=.any\/x=y):cv G ys vs:=by
 refine⟨by rw[hl];exact h.1,λj c v hc hv=> ?_⟩;have hj:j<xs.length:=by rw[← hl];exact(List.getElem?_eq_some_iff.1 hc).1
 rcases hh j xs[j] c (List.getElem?_eq_getElem hj) hc with rfl|e
 ·exact .any _
 ·rw[← e];exact h.2 j _ v (List.getElem?_eq_getElem hj) hv
theorem Re.slots {n:Nat}{sp sp':List (Nat×TV)}{H:Heap}{t:Nat}(h:same sp sp'):Re C ⟨dU n sp,H,t⟩ ⟨dU n sp',H,t⟩:=by
 intro G0 w0 G w a h0 hs hst;refine⟨G,hs,hst.wf,hst.iL,cv.less hst.slots (by simp[fJ]) λi x y hx hy=> ?_,hst.heap,hst.fresh⟩;have hi:i<n:=by have:=(List.getElem?_eq_some_iff.1 hx).1;simpa [fJ] using this
 simp only[nU hi,Option.some.injEq] at hx hy;subst hx;subst hy;exact Gs h i
theorem Re.heap {sl:List TV}{H H':Heap}{t:Nat}(h:∀k o,H'.get k=some o->H.get k=some o):Re C ⟨sl,H,t⟩ ⟨sl,H',t⟩:=
 λG0 w0 G w a h0 hs hst=>⟨G,hs,hst.wf,hst.iL,hst.slots,λk o hk=>hst.heap k o (h k o hk),hst.fresh⟩
def x7:Nat->List TV->List (Nat×TV)
 |_,[]=>[]
 |i,v::r=>(i,v)::x7 (i+1) r
theorem Dr:∀(l:List TV) (i j:Nat),i<=j->look (x7 i l) j=.any\/l[j - i]?=some (look (x7 i l) j)
 | [],_,_,_=>.inl rfl
 | v ::r,i,j,h=>by
   simp only[x7]
   rw[mL]
   by_cases e:j=i
   · subst e;simp
   · rw[if_neg e]
     have:=Dr r (i+1) j (by omega)
     have e2:j - i=(j - (i+1))+1:=by omega
     rw[e2,List.getElem?_cons_succ]
     exact this
theorem Re.start (args:List TV)(k:Nat)(H:Heap)(t:Nat):Re C ⟨args++List.replicate k bN,H,t⟩ ⟨dU (args.length+k) (x7 0 args),H,t⟩:=by
 intro G0 w0 G w a h0 hs hst;refine⟨G,hs,hst.wf,hst.iL,cv.less hst.slots (by simp[fJ]) λi x y hx hy=> ?_,hst.heap,hst.fresh⟩;have hi:i<args.length+k:=by have:=(List.getElem?_eq_some_iff.1 hx).1;simpa using this
 rw[nU hi,Option.some.injEq] at hy;subst hy;rcases Dr args 0 i (Nat.zero_le _) with h|h
 ·exact .inl h
 ·right;rw[Nat.sub_zero] at h;have hl:=(List.getElem?_eq_some_iff.1 h).1;rw[List.getElem?_append_left hl,h] at hx;exact(Option.some.inj hx).symm
end
end Go.Abs
end
noncomputable section
namespace Go.Abs
open Go
section
variable {C:cE}{ev:aT}{f:FuncId}{ops:Array Oper}{Q:aI->St->Prop}{n:Nat}{sp:List (Nat×TV)}{H:Heap}{t:Nat}{r:List Oper}
def dJ (C:cE)(ev:aT)(f:FuncId)(H:Heap)(n:Nat)(sp:List (Nat×TV))(t:Nat)(d:Option Tmp)(op:Op)(v:TV)(u:Heap):Prop:=
 ∀ty pos af g,aP C ev f H (dU n sp) t ⟨d,op,ty,pos,af,g⟩=some (.val v u)
theorem dY.go {d:Tmp}{op:Op}{ty pos af}{v:TV}{u:Heap}(aC:aF C ev)(h:dJ C ev f H n sp t (some d) op v u)(k:dY C ops r ⟨dU n ((d,v)::sp),H.dR u,t+1⟩ Q):
 dY C ops (⟨some d,op,ty,pos,af,none⟩::r) ⟨dU n sp,H,t⟩ Q:=by
 refine dY.step aC rfl (h _ _ _ _) ?_
 rw[eP]
 exact k
theorem dY.LY {op:Op}{ty pos af}{v:TV}{u:Heap}(aC:aF C ev)(h:dJ C ev f H n sp t none op v u)(k:dY C ops r ⟨dU n sp,H.dR u,t+1⟩ Q):
 dY C ops (⟨none,op,ty,pos,af,none⟩::r) ⟨dU n sp,H,t⟩ Q:=by
 refine dY.step aC rfl (h _ _ _ _) ?_
 rw[eP]
 exact k
def gv (g:Bool)(v:TV):TV:=bif g then v else bN
theorem kZ {j gd:Nat}{w:Bool}{o:Oper}(ho:o.guard=some (j,w))(hj:(ops[j]?).bind (·.dst)=some gd)(hn:Nat.blt gd n=true):
 dF ops (dU n sp) o=match look sp gd with|.t (.bool b)=>some (b==w)|.t (.cT [])=>some false|_=>none:=by
 have:gd<n:=by simpa [Nat.blt,Nat.succ_le_iff] using hn
 unfold dF
 simp only[ho,hj,nU this]
 generalize look sp gd=x
 cases x with
 |t y=>cases y with
  |cT vs=>cases vs<;>rfl
  |_=>rfl
 |_=>rfl
theorem dY.guarded {d:Tmp}{op:Op}{ty pos af}{j gd:Nat}{w:Bool}{b g:Bool}{v:TV}(aC:aF C ev)(hj:(ops[j]?).bind (·.dst)=some gd)(hn:Nat.blt gd n=true)
 (hl:(look sp gd=.t (.bool b)/\g=(b==w))\/∃g1,look sp gd=gv g1 (.t (.bool b))/\g=(g1&&(b==w)))
 (h:g=true->dJ C ev f H n sp t (some d) op v [])(k:dY C ops r ⟨dU n ((d,gv g v)::sp),H,t+1⟩ Q):dY C ops (⟨some d,op,ty,pos,af,some (j,w)⟩::r) ⟨dU n sp,H,t⟩ Q:=by
 have hw:dF ops (dU n sp) ⟨some d,op,ty,pos,af,some (j,w)⟩=some g:=by
  rcases hl with ⟨hl,rfl⟩|⟨g1,hl,rfl⟩
  ·rw[kZ rfl hj hn,hl]
  ·rw[kZ rfl hj hn,hl];cases g1<;>rfl
 cases g with
 | true=>
   refine dY.step aC hw (h rfl _ _ _ _) ?_
   rw[eP]
   exact k
 | false=>
   refine dY.unwanted hw ?_
   rw[eP]
   exact k
variable {d:Option Tmp}
theorem av {x:Operand}{v:TV}(h:dz C n sp x=some v):dJ C ev f H n sp t d (.move x) v []:=λ_ _ _ _=>by
 simp only[aP,evalOp,dK h,yD,Option.map_some]
theorem az {x:Operand}{v:TV}(h:dz C n sp x=some v):dJ C ev f H n sp t d (.assign x) v []:=λ_ _ _ _=>by
 simp only[aP,evalOp,dK h,yD,Option.map_some]
theorem iB {x:Operand}{v:Tree}(h:dz C n sp x=some (.t v)):dJ C ev f H n sp t d (.move x) (.t v) []:=av h
theorem dD {x:Operand}{v:Tree}(h:dz C n sp x=some (.t v)):dJ C ev f H n sp t d (.assign x) (.t v) []:=az h
theorem S7 {c x y:Operand}{b:Bool}{u v:TV}(hc:dz C n sp c=some (.t (.bool b)))(hx:dz C n sp x=some u)(hy:dz C n sp y=some v):dJ C ev f H n sp t d (.pick c x y) (if b then u else v) []:=λ_ _ _ _=>by
 simp only[aP,evalOp,dK hc,dK hx,dK hy]
theorem JZ {ty:TypeId}{x:Operand}{b:Bool}(h:dz C n sp x=some (.t (.bool b))):dJ C ev f H n sp t d (.unOp .not ty x) (.t (.bool (!b))) []:=λ_ _ _ _=>by
 simp only[aP,evalOp,dK h];cases b<;>rfl
theorem yY {elem:TypeId}{ti:TI}{z:TV}(ht:C.P.ty elem=some ti)(hz:ti.zero=some z)(hl:z.cells.all TV.leaf=true):dJ C ev f H n sp t d (.alloc elem) (.ptr (.loc [t]) 0) [(.loc [t],.cells elem z.cells)]:=λ_ _ _ _=>by
 simp only[aP,evalOp,aW,ht,hz,hl,if_true]
theorem j8 {ty:TypeId}{x:Operand}{a v:TV}(h:dz C n sp x=some a)(hl:loadT C.P H ty a=some v):dJ C ev f H n sp t d (.load ty x) v []:=λ_ _ _ _=>by
 simp only[aP,evalOp,dK h,hl,yD,Option.map_some]
theorem iY {ty:TypeId}{x:Operand}{a:TV}{v:Tree}(h:dz C n sp x=some a)(hl:loadT C.P H ty a=some (.t v)):dJ C ev f H n sp t d (.load ty x) (.t v) []:=j8 h hl
theorem ld {P:ij}{ty:TypeId}{ti:TI}{a v:TV}{cs:List TV}{off:Nat}(ht:P.ty ty=some ti)(hc:sI H a=some (cs,off))(hp:partT ti.agg ti.size cs off=some v):loadT P H ty a=some v:=by
 simp only[loadT,aW,ht,hc,hp]
theorem S8 {P:ij}{ty:TypeId}{ti:TI}{x:TV}{k:Nm}{off:Nat}{g:TypeId}{cs:List TV}(ht:P.ty ty=some ti)(hc:H.get k=some (.cells g cs))(hl:(decide (x.cells.length=ti.size)&&x.cells.all TV.leaf&&decide (off+ti.size<=cs.length))=true):
 storeT P H ty (.ptr k off) x=some [(k,.cells g (cr cs off x.cells))]:=by
 simp only[Bool.and_eq_true,decide_eq_true_eq] at hl
 obtain⟨⟨h1,h2⟩,h3⟩:=hl
 simp only[storeT,aW,ht,h1,h2,hc,h3,and_self,if_true]
theorem lM {ty:TypeId}{x y:Operand}{a v:TV}{u:Heap}(h:dz C n sp x=some a)(h2:dz C n sp y=some v)(hl:storeT C.P H ty a v=some u):dJ C ev f H n sp t d (.store ty x y) bN u:=λ_ _ _ _=>by
 simp only[aP,evalOp,dK h,dK h2,hl,w9,Option.map_some]
def lN (P:ij)(s i:Nat):Option Nat:=match aW P s with
 | some ti=>match ti.desc with
  | .struct fs=>match fs[i]? with
   |some fd=>match aW P fd.type with
    |some tf=>if tf.size=0 then none else some fd.offset
    |none=>none
   |none=>none
  |_=>none
 |none=>none
theorem cG {s i off:Nat}{x:Operand}{a v:TV}(h:dz C n sp x=some a)(ho:lN C.P s i=some off)(hp:pH H a off=some v):dJ C ev f H n sp t d (.fieldAddr s x i) v []:=λ_ _ _ _=>by
 unfold lN at ho;split at ho<;>try (simp at ho;done)
 rename_i ti C0;split at ho<;>try (simp at ho;done)
 rename_i fs hfs;split at ho<;>try (simp at ho;done)
 rename_i fd hfd;split at ho<;>try (simp at ho;done)
 rename_i tf Sr;split at ho<;>try (simp at ho;done)
 rename_i hz;simp at ho;subst ho;simp only[aP,evalOp,dK h,C0,hfs,hfd,Sr,if_neg hz,hp,yD,Option.map_some]
theorem Bt {ty:TypeId}{x i:Operand}{a j v:TV}(h:dz C n sp x=some a)(hi:dz C n sp i=some j)(hv:dG C.P H ty a j=some v):dJ C ev f H n sp t d (.indexAddr ty x i) v []:=λ_ _ _ _=>by
 simp only[aP,evalOp,dK h,dK hi,hv,yD,Option.map_some]
theorem XB {ty:TypeId}{x i:Operand}{a j v:TV}(h:dz C n sp x=some a)(hi:dz C n sp i=some j)(hv:pI C.P ty a j=some v):dJ C ev f H n sp t d (.index ty x i) v []:=λ_ _ _ _=>by
 simp only[aP,evalOp,dK h,dK hi,hv,yD,Option.map_some]
theorem fA {op:BinOp}{ty r2:TypeId}{x y:Operand}{a b v:TV}(h:dz C n sp x=some a)(h2:dz C n sp y=some b)(hv:qP C.P op ty x y a b=some v):dJ C ev f H n sp t d (.binOp op ty x y r2) v []:=λ_ _ _ _=>by
 simp only[aP,evalOp,dK h,dK h2,hv,yD,Option.map_some]
theorem wrap64 {x:Int}(h1:-9223372036854775808<=x)(h2:x<=9223372036854775807):IntKind.i64.wrap x=x:=by
 simp only[IntKind.wrap,IntKind.bits,IntKind.signed];first|omega|(simp;omega)
theorem Ds {op:BinOp}{ty r2:TypeId}{x y:Operand}{k:IntKind}{a b:Int}{v:TV}(h:dz C n sp x=some (.t (.int k a)))(h2:dz C n sp y=some (.t (.int k b)))(hv:Qb op k a b=some v):dJ C ev f H n sp t d (.binOp op ty x y r2) v []:=
 fA h h2 (by simp only[qP,if_true,hv])
theorem nB {ty r2:TypeId}{x y:Operand}{k:IntKind}{a b:Int}(h:dz C n sp x=some (.t (.int k a)))(h2:dz C n sp y=some (.t (.int k b))):dJ C ev f H n sp t d (.binOp .eql ty x y r2) (.t (.bool (a==b))) []:=Ds h h2 rfl
theorem lQ {ty r2:TypeId}{x y:Operand}{k:IntKind}{a b:Int}(h:dz C n sp x=some (.t (.int k a)))(h2:dz C n sp y=some (.t (.int k b))):dJ C ev f H n sp t d (.binOp .lss ty x y r2) (.t (.bool (decide (a<b)))) []:=Ds h h2 rfl
theorem S9 {ty r2:TypeId}{x y:Operand}{k:IntKind}{a b:Int}(h:dz C n sp x=some (.t (.int k a)))(h2:dz C n sp y=some (.t (.int k b))):dJ C ev f H n sp t d (.binOp .leq ty x y r2) (.t (.bool (decide (a<=b)))) []:=Ds h h2 rfl
theorem J1 {ty r2:TypeId}{x y:Operand}{k:IntKind}{a b:Int}(h:dz C n sp x=some (.t (.int k a)))(h2:dz C n sp y=some (.t (.int k b))):dJ C ev f H n sp t d (.binOp .gtr ty x y r2) (.t (.bool (decide (a>b)))) []:=Ds h h2 rfl
theorem J2 {ty r2:TypeId}{x y:Operand}{k:IntKind}{a b:Int}(h:dz C n sp x=some (.t (.int k a)))(h2:dz C n sp y=some (.t (.int k b))):dJ C ev f H n sp t d (.binOp .geq ty x y r2) (.t (.bool (decide (a>=b)))) []:=Ds h h2 rfl
theorem HJ {ty r2:TypeId}{x y:Operand}{a b:Int}(h:dz C n sp x=some (.t (.int .i64 a)))(h2:dz C n sp y=some (.t (.int .i64 b)))(h3:-9223372036854775808<=a+b)(h4:a+b<=9223372036854775807):dJ C ev f H n sp t d (.binOp .add ty x y r2) (.t (.int .i64 (a+b))) []:=
 Ds h h2 (by simp only[Qb,wrap64 h3 h4])
theorem ZA {ty r2:TypeId}{x y:Operand}{a b:List UInt8}(h:dz C n sp x=some (.t (.str a)))(h2:dz C n sp y=some (.t (.str b))):dJ C ev f H n sp t d (.binOp .eql ty x y r2) (.t (.bool (a==b))) []:=fA h h2 rfl
theorem sY {ty:TypeId}{x:Operand}{s:List UInt8}{ti:TI}(h:dz C n sp x=some (.t (.str s)))(ht:C.P.ty ty=some ti)(hd:ti.desc=.string):dJ C ev f H n sp t d (.call ⟨.builtin .len, #[x], #[ty]⟩) (.t (.int .i64 s.length)) []:=λ_ _ _ _=>by
 have h1:iF C (dU n sp) (#[x].toList)=some [.t (.str s)]:=by simp only[iF,dK h]
 simp only[aP,evalOp,h1];delta kj;simp only[aW,ht,hd]
theorem HK {ty e:TypeId}{x:Operand}{v:TV}{m:Nat}{ti:TI}(h:dz C n sp x=some v)(ht:C.P.ty ty=some ti)(hd:ti.desc=.slice e)(hl:xM H v=some m)(h1:∀s,v≠ .t (.str s))(h2:v≠ .t .iu)(h3:∀k,v≠ .map k):
 dJ C ev f H n sp t d (.call ⟨.builtin .len, #[x], #[ty]⟩) (.t (.int .i64 m)) []:=λ_ _ _ _=>by
 have h4:iF C (dU n sp) (#[x].toList)=some [v]:=by simp only[iF,dK h]
 simp only[aP,evalOp,h4]
 delta kj
 simp only[aW,ht,hd]
 cases v with
 |t x=>cases x with
  |str s=>exact absurd rfl (h1 s)
  |iu=>exact absurd rfl h2
  |_=>simp only[hl];rfl
 |map k=>exact absurd rfl (h3 k)
 |_=>simp only[hl];rfl
theorem Mv {ty e:TypeId}{x:Operand}{es:List Tree}{ti:TI}(h:dz C n sp x=some (.t (.sl es)))(ht:C.P.ty ty=some ti)(hd:ti.desc=.slice e):dJ C ev f H n sp t d (.call ⟨.builtin .len, #[x], #[ty]⟩) (.t (.int .i64 es.length)) []:=
 HK h ht hd rfl (λ_=>by simp) (by simp) (λ_=>by simp)
theorem Mw {ty e:TypeId}{x:Operand}{k:Nm}{o l:Nat}{ti:TI}(h:dz C n sp x=some (.ref k o l))(ht:C.P.ty ty=some ti)(hd:ti.desc=.slice e):dJ C ev f H n sp t d (.call ⟨.builtin .len, #[x], #[ty]⟩) (.t (.int .i64 l)) []:=
 HK h ht hd rfl (λ_=>by simp) (by simp) (λ_=>by simp)
theorem Mx {ty e:TypeId}{x:Operand}{ti:TI}(h:dz C n sp x=some .bX)(ht:C.P.ty ty=some ti)(hd:ti.desc=.slice e):dJ C ev f H n sp t d (.call ⟨.builtin .len, #[x], #[ty]⟩) (.t (.int .i64 (0:Nat))) []:=
 HK h ht hd rfl (λ_=>by simp) (by simp) (λ_=>by simp)
theorem My {ty e:TypeId}{x:Operand}{es:List Tree}{ti:TI}(h:dz C n sp x=some (.mB es))(ht:C.P.ty ty=some ti)(hd:ti.desc=.slice e):dJ C ev f H n sp t d (.call ⟨.builtin .len, #[x], #[ty]⟩) (.t (.int .i64 es.length)) []:=
 HK h ht hd rfl (λ_=>by simp) (by simp) (λ_=>by simp)
theorem Gt {b:Builtin}{args:Array Operand}{ats:Array TypeId}{vs:List TV}{v:TV}{u:Heap}(h:pT C n sp args.toList=some vs)(hv:kj C (.loc [t]) H b ats.toList vs=some (v,u)):dJ C ev f H n sp t d (.call ⟨.builtin b,args,ats⟩) v u:=λ_ _ _ _=>by
 simp only[aP,evalOp,Dq h,hv]
theorem Dt {ty elem:TypeId}{ti te:TI}{x i:Operand}{es:List Tree}{k:IntKind}{m:Nat}{e:Tree}(h:dz C n sp x=some (.t (.sl es)))(hi:dz C n sp i=some (.t (.int k (m:Int))))(ht:C.P.ty ty=some ti)(hd:ti.desc=.slice elem)
 (hte:C.P.ty elem=some te)(he:es[m]?=some e)(hc:e.cells.length=te.size):dJ C ev f H n sp t d (.indexAddr ty x i) (.jf e.cells 0) []:=
 Bt h hi (by
  have h1:eT (.t (.int k (m:Int)))=some m:=by simp[eT]
  simp only[dG,aW,ht,h1,hd,hte,he,hc,if_true])
theorem gJ {ty:TypeId}{ti:TI}{x i:Operand}{s:List UInt8}{k:IntKind}{m:Nat}{b:UInt8}(h:dz C n sp x=some (.t (.str s)))(hi:dz C n sp i=some (.t (.int k (m:Int))))(ht:C.P.ty ty=some ti)(hd:ti.desc=.string)
 (he:s[m]?=some b):dJ C ev f H n sp t d (.index ty x i) (.t (.int .u8 b.toNat)) []:=
 XB h hi (by
  have h1:eT (.t (.int k (m:Int)))=some m:=by simp[eT]
  simp only[pI,aW,ht,h1,hd,he])
theorem Mz {fo:Operand}{args:Array Operand}{ats:Array TypeId}{g:FuncId}{akR:List TV}{v:TV}{u:Heap}(hc:lq C (dU n sp) ⟨.value fo,args,ats⟩=some (g,akR))(he:qv ev H g akR t=some (.val v u))(hk:C.jy f (d.getD 255)=false:=by rfl):dJ C ev f H n sp t d (.call ⟨.value fo,args,ats⟩) v u:=λ_ _ _ _=>by
 simp only[aP,hc,Ju,hk,he]
theorem Bu {g:FuncId}{args:Array Operand}{ats:Array TypeId}{akR:List TV}(h:pT C n sp args.toList=some akR):lq C (dU n sp) ⟨.value (.func g),args,ats⟩=some (g,akR):=by
 simp only[lq,bU,Dq h]
theorem qU (H:Heap):∀(ts:List Tree),lg H (ts.map .t)=(ts.map .t,[])
 | []=>rfl
 |x::r=>by
  simp only[List.map_cons,lg,qU H r]
  rfl
theorem qy:∀(ts:List Tree),TV.iG (ts.map .t)=[]
 | []=>rfl
 |x::r=>by simp only[List.map_cons,TV.iG,TV.names,qy r,List.append_nil]
theorem rI (σ:Nm->Option Nm):∀(ts:List Tree),TV.Aj σ (ts.map .t)=some (ts.map .t)
 | []=>rfl
 |x::r=>by simp only[List.map_cons,TV.Aj,TV.rn,rI σ r]
theorem Bv {g:FuncId}{ts:List Tree}{x:Tree}(he:ev g (ts.map .t) []=some (.ret (.t x) [] [])):qv ev H g (ts.map .t) t=some (.val (.t x) []):=by
 unfold qv;simp only[Jt,qU,qy];have h1:reach (H.dR (cW H [])) eN [] []=some []:=rfl;rw[h1];simp only[List.nodup_nil,if_true,rI,mH,he];rfl
theorem fe {g:FuncId}{args:Array Operand}{ats:Array TypeId}{ts:List Tree}{x:Tree}(h:pT C n sp args.toList=some (ts.map .t))(he:ev g (ts.map .t) []=some (.ret (.t x) [] []))(hk:C.jy f (d.getD 255)=false:=by rfl):dJ C ev f H n sp t d (.call ⟨.value (.func g),args,ats⟩) (.t x) []:=
 Mz (Bu h) (Bv he) hk
end
end Go.Abs
end
noncomputable section
namespace Go.Abs
open Go
section
variable {C:cE}{ev:aT}{f:FuncId}
theorem k3 {s s':List TV}:∀{l:List Operand},(∀x∈l,bU C s' x=bU C s x)->iF C s' l=iF C s l
 | [],_=>rfl
 |x::r,h=>by
  simp only[iF,h x List.mem_cons_self,k3 (l:=r) λy hy=>h y (List.mem_cons_of_mem _ hy)]
theorem sZ {s s':List TV}:∀{l:List (Nat×Operand)},(∀x∈l.map (·.2),bU C s' x=bU C s x)->pK C s' l=pK C s l
 | [],_=>rfl
 |(i,x)::r,h=>by
  simp only[pK,h x (by simp),sZ (l:=r) λy hy=>h y (by simp only[List.map_cons,List.mem_cons];exact .inr hy)]
theorem s4 {s s':List TV}{o:Option Operand}(h:∀x∈o.toArray.toList,bU C s' x=bU C s x):uM C s' o=uM C s o:=by
 cases o with
 |none=>rfl
 |some x=>simp only[uM,h x (by simp)]
set_option maxHeartbeats 1000000 in
theorem HM {nm:Nm}{H:Heap}{s s':List TV}{o:Oper}(h:∀x∈o.op.operands.toList,bU C s' x=bU C s x):evalOp C f nm H s' o=evalOp C f nm H s o:=by
 obtain⟨d,op,ty,pos,af,g⟩:=o;cases op with
 |move x=>simp only[evalOp,h x (by simp[Op.operands])]
 |assign x=>simp only[evalOp,h x (by simp[Op.operands])]
 |pick c a b=>simp only[evalOp,h c (by simp[Op.operands]),h a (by simp[Op.operands]),h b (by simp[Op.operands])]
 |alloc t=>rfl
 |box t x=>simp only[evalOp,h x (by simp[Op.operands])]
 |build t ps=>
  have:=sZ (C:=C) (s:=s) (s':=s') (l:=ps.toList) (λx hx=>h x (by simpa [Op.operands] using hx))
  simp only[evalOp,this]
 |buildSlice t n ps=>
  have:=sZ (C:=C) (s:=s) (s':=s') (l:=ps.toList) (λx hx=>h x (by simpa [Op.operands] using hx))
  simp only[evalOp,this]
 |insert t m k v=>simp only[evalOp,h m (by simp[Op.operands]),h k (by simp[Op.operands]),h v (by simp[Op.operands])]
 |load t x=>simp only[evalOp,h x (by simp[Op.operands])]
 |store t a v=>simp only[evalOp,h a (by simp[Op.operands]),h v (by simp[Op.operands])]
 |nilCheck x=>simp only[evalOp,h x (by simp[Op.operands])]
 |binOp o t a v r=>simp only[evalOp,h a (by simp[Op.operands]),h v (by simp[Op.operands])]
 |unOp o t x=>simp only[evalOp,h x (by simp[Op.operands])]
 |convert a b x=>simp only[evalOp,h x (by simp[Op.operands])]
 |makeInterface t x=>simp only[evalOp,h x (by simp[Op.operands])]
 |makeFunc fn a b=>
  have h1:=k3 (C:=C) (s:=s) (s':=s') (l:=a.toList) (λx hx=>h x (by simp only[Op.operands,Array.toList_append,List.mem_append];exact .inl hx))
  have h2:=k3 (C:=C) (s:=s) (s':=s') (l:=b.toList) (λx hx=>h x (by simp only[Op.operands,Array.toList_append,List.mem_append];exact .inr hx))
  simp only[evalOp,h1,h2]
 |makeMap t r=>
  have:=s4 (C:=C) (s:=s) (s':=s') (o:=r) (λx hx=>h x (by simpa [Op.operands] using hx))
  simp only[evalOp,this]
 |makeSlice t a v=>simp only[evalOp,h a (by simp[Op.operands]),h v (by simp[Op.operands])]
 |slice t x l m k=>
  have h1:=s4 (C:=C) (s:=s) (s':=s') (o:=l) (λy hy=>h y (by simp only[Op.operands,Array.toList_append,List.mem_append];exact .inl (.inl (.inr hy))))
  have h2:=s4 (C:=C) (s:=s) (s':=s') (o:=m) (λy hy=>h y (by simp only[Op.operands,Array.toList_append,List.mem_append];exact .inl (.inr hy)))
  have h3:=s4 (C:=C) (s:=s) (s':=s') (o:=k) (λy hy=>h y (by simp only[Op.operands,Array.toList_append,List.mem_append];exact .inr hy))
  simp only[evalOp,h x (by simp[Op.operands]),h1,h2,h3]
 |fieldAddr t x i=>simp only[evalOp,h x (by simp[Op.operands])]
 |field t x i=>simp only[evalOp,h x (by simp[Op.operands])]
 |indexAddr t a v=>simp only[evalOp,h a (by simp[Op.operands]),h v (by simp[Op.operands])]
 |index t a v=>simp only[evalOp,h a (by simp[Op.operands]),h v (by simp[Op.operands])]
 |lookup t a v ok=>simp only[evalOp,h a (by simp[Op.operands]),h v (by simp[Op.operands])]
 |mapUpdate t m k v=>simp only[evalOp,h m (by simp[Op.operands]),h k (by simp[Op.operands]),h v (by simp[Op.operands])]
 |mapEntry t m k=>simp only[evalOp,h m (by simp[Op.operands]),h k (by simp[Op.operands])]
 |entryStore t m k v=>simp only[evalOp,h m (by simp[Op.operands]),h k (by simp[Op.operands]),h v (by simp[Op.operands])]
 |typeAssert x a b ok=>simp only[evalOp,h x (by simp[Op.operands])]
 |extract x i=>simp only[evalOp,h x (by simp[Op.operands])]
 | call c=>
  obtain⟨ce,args,ats⟩:=c
  cases ce with
  |builtin b=>
   have h1:=k3 (C:=C) (s:=s) (s':=s') (l:=args.toList) (λx hx=>h x (by simp only[Op.operands,Call.operands,Array.toList_append,List.mem_append];exact .inr hx))
   simp only[evalOp,h1]
  |value fo=>rfl
  |invoke r m=>rfl
 |_=>rfl
theorem J3 {H:Heap}{s s':List TV}{t:Nat}{o:Oper}(h:∀x∈o.op.operands.toList,bU C s' x=bU C s x):aP C ev f H s' t o=aP C ev f H s t o:=by
 have he:=HM (C:=C) (f:=f) (nm:=.loc [t]) (H:=H) h;obtain⟨d,op,ty,pos,af,g⟩:=o;cases op with
 |panic x=>simp only[aP,h x (by simp[Op.operands])]
 | call c=>
  obtain⟨ce,args,ats⟩:=c
  cases ce with
  |value fo=>
   have h1:=k3 (C:=C) (s:=s) (s':=s') (l:=args.toList) (λx hx=>h x (by simp only[Op.operands,Call.operands,Array.toList_append,List.mem_append];exact .inr hx))
   have h2:bU C s' fo=bU C s fo:=h fo (by simp[Op.operands,Call.operands])
   simp only[aP,lq,h1,h2]
  |invoke r nm=>
   have h1:=k3 (C:=C) (s:=s) (s':=s') (l:=args.toList) (λx hx=>h x (by simp only[Op.operands,Call.operands,Array.toList_append,List.mem_append];exact .inr hx))
   have h2:bU C s' r=bU C s r:=h r (by simp[Op.operands,Call.operands])
   simp only[aP,Cc,h1,h2]
  |_=>simp only[aP,he]
 |_=>simp only[aP,he]
theorem Ta {L:List Nat}{s:List TV}{x:Operand}(h:∀t,x=.tmp t->t∈L):bU C (iN L 0 s) x=bU C s x:=by
 cases x with
 |tmp t=>
  have ht:=h t rfl
  simp only[bU,G8,List.getD_eq_getElem?_getD,rF,Nat.zero_add,if_pos ht]
 |_=>rfl
theorem Du {ops:Array Oper}{H:Heap}{s:List TV}{t:Nat}{o:Oper}:aP C ev f H (iN (o.looksAt ops) 0 s) t o=aP C ev f H s t o:=
 J3 λx hx=>Ta λt e=>by
  subst e;unfold Oper.looksAt;refine List.mem_append_left _ (List.mem_filterMap.2 ⟨_,hx,rfl⟩)
theorem s5 {ops:Array Oper}{s:List TV}{o:Oper}:dF ops (iN (o.looksAt ops) 0 s) o=dF ops s o:=by
 unfold dF;cases hg:o.guard with
 |none=>rfl
 | some g=>
  obtain⟨j,want⟩:=g
  simp only[]
  cases hd:(ops[j]?).bind (·.dst) with
  |none=>rfl
  | some d=>
   have hm:d∈o.looksAt ops:=by
    unfold Oper.looksAt
    refine List.mem_append_right _ ?_
    rw[hg]
    simp[hd]
   simp only[rF,Nat.zero_add,if_pos hm]
def uJ (C:cE)(ev:aT)(f:FuncId)(ops:Array Oper)(bs:List Nat)(t0 i:Nat)(l:List Oper)(n:Nat)(sp:List (Nat×TV))(H:Heap)(K:List Rec->List (Nat×TV)->Heap->Prop):Prop:=
 ∃recs sp' H',xQ C ev f ops bs t0 i l ⟨dU n sp,H⟩ none=some recs/\uf l recs ⟨dU n sp,H⟩=⟨dU n sp',H'⟩/\(∀j,gX j recs=none)/\K recs sp' H'
section
variable {ops:Array Oper}{bs:List Nat}{t0 i n:Nat}{r:List Oper}{sp:List (Nat×TV)}{H:Heap}{K:List Rec->List (Nat×TV)->Heap->Prop}
theorem uJ.nil (h:K [] sp H):uJ C ev f ops bs t0 i [] n sp H K:=⟨[],sp,H,rfl,rfl,λ_=>rfl,h⟩
theorem uJ.step {o:Oper}{fp:List Nm}{v:TV}{u:Heap}(hw:dF ops (dU n sp) o=some true)(OD:L6 C H (dU n sp) o=some fp)(hx:aP C ev f (lu H fp) (dU n sp) (t0+i) o=some (.val v u))
 (k:uJ C ev f ops bs t0 (i+1) r n (aaO sp o.dst v) (H.dR u) λrs sp' H'=>K (⟨fp,.val v u⟩::rs) sp' H'):uJ C ev f ops bs t0 i (o::r) n sp H K:=by
 obtain⟨rs,sp',H',h1,h2,h3,h4⟩:=k
 refine⟨⟨fp,.val v u⟩::rs,sp',H', ?_, ?_,λj=> ?_,h4⟩
 ·simp only[xQ,Sd,s5,hw,OD,Du,hx,Option.isSome_none,Bool.false_eq_true,decide_false,Bool.false_and,if_false,sG.after,eP,jG,h1]
 ·simp only[uf,sG.after,eP,h2]
 ·exact h3 (j+1)
theorem uJ.skip {o:Oper}(hw:dF ops (dU n sp) o=some false)(k:uJ C ev f ops bs t0 (i+1) r n (aaO sp o.dst bN) H λrs sp' H'=>K (⟨[],.unwanted⟩::rs) sp' H'):uJ C ev f ops bs t0 i (o::r) n sp H K:=by
 obtain⟨rs,sp',H',h1,h2,h3,h4⟩:=k;refine⟨⟨[],.unwanted⟩::rs,sp',H', ?_, ?_,λj=> ?_,h4⟩
 ·simp only[xQ,Sd,s5,hw,sG.after,eP,jG,h1]
 ·simp only[uf,sG.after,eP,h2]
 ·exact h3 (j+1)
theorem uJ.go {d:Tmp}{op:Op}{ty pos af}{fp:List Nm}{v:TV}{u:Heap}(OD:L6 C H (dU n sp) ⟨some d,op,ty,pos,af,none⟩=some fp)(h:dJ C ev f (lu H fp) n sp (t0+i) (some d) op v u)
 (k:uJ C ev f ops bs t0 (i+1) r n ((d,v)::sp) (H.dR u) λrs sp' H'=>K (⟨fp,.val v u⟩::rs) sp' H'):uJ C ev f ops bs t0 i (⟨some d,op,ty,pos,af,none⟩::r) n sp H K:=
 uJ.step rfl OD (h _ _ _ _) k
theorem uJ.LY {op:Op}{ty pos af}{fp:List Nm}{v:TV}{u:Heap}(OD:L6 C H (dU n sp) ⟨none,op,ty,pos,af,none⟩=some fp)(h:dJ C ev f (lu H fp) n sp (t0+i) none op v u)
 (k:uJ C ev f ops bs t0 (i+1) r n sp (H.dR u) λrs sp' H'=>K (⟨fp,.val v u⟩::rs) sp' H'):uJ C ev f ops bs t0 i (⟨none,op,ty,pos,af,none⟩::r) n sp H K:=
 uJ.step rfl OD (h _ _ _ _) k
theorem uJ.yes {d:Tmp}{op:Op}{ty pos af}{j gd:Nat}{w b:Bool}{fp:List Nm}{v:TV}{u:Heap}(hj:(ops[j]?).bind (·.dst)=some gd)(hn:Nat.blt gd n=true)(hl:look sp gd=.t (.bool b))(hb:(b==w)=true)
 (OD:L6 C H (dU n sp) ⟨some d,op,ty,pos,af,some (j,w)⟩=some fp)(h:dJ C ev f (lu H fp) n sp (t0+i) (some d) op v u)
 (k:uJ C ev f ops bs t0 (i+1) r n ((d,v)::sp) (H.dR u) λrs sp' H'=>K (⟨fp,.val v u⟩::rs) sp' H'):uJ C ev f ops bs t0 i (⟨some d,op,ty,pos,af,some (j,w)⟩::r) n sp H K:=
 uJ.step (by rw[kZ rfl hj hn,hl];simp only[hb]) OD (h _ _ _ _) k
theorem uJ.no {d:Tmp}{op:Op}{ty pos af}{j gd:Nat}{w b:Bool}(hj:(ops[j]?).bind (·.dst)=some gd)(hn:Nat.blt gd n=true)(hl:look sp gd=.t (.bool b))(hb:(b==w)=false)
 (k:uJ C ev f ops bs t0 (i+1) r n ((d,bN)::sp) H λrs sp' H'=>K (⟨[],.unwanted⟩::rs) sp' H'):uJ C ev f ops bs t0 i (⟨some d,op,ty,pos,af,some (j,w)⟩::r) n sp H K:=
 uJ.skip (by rw[kZ rfl hj hn,hl];simp only[hb]) k
theorem uJ.none {d:Tmp}{op:Op}{ty pos af}{j gd:Nat}{w:Bool}(hj:(ops[j]?).bind (·.dst)=some gd)(hn:Nat.blt gd n=true)(hl:look sp gd=bN)
 (k:uJ C ev f ops bs t0 (i+1) r n ((d,bN)::sp) H λrs sp' H'=>K (⟨[],.unwanted⟩::rs) sp' H'):uJ C ev f ops bs t0 i (⟨some d,op,ty,pos,af,some (j,w)⟩::r) n sp H K:=
 uJ.skip (by rw[kZ rfl hj hn,hl];rfl) k
end
theorem AW.draw {id:Nat}{ops:Array Oper}{n t:Nat}{sp:List (Nat×TV)}{H:Heap}{Q:aI->St->Prop}(hm:C.P.prog.follows .mixedOrders=true)(aC:aF C ev)
 (h:uJ C ev f ops (jt ops.toList []) t 0 ops.toList n sp H λrecs sp' H'=>jk ops ops.toList recs (jt ops.toList []) ops.toList recs 0=true/\pM 0 ops.toList=true/\Q .normal ⟨dU n sp',H',t+ops.size⟩):
 AW C (.region id ops true) ⟨dU n sp,H,t⟩ Q:=by
 obtain⟨recs,sp',H',h1,h2,h3,h4,h5,h6⟩:=h
 refine AW.drawn (ev:=ev) (f:=f) hm aC (e:=.normal) (st':=⟨dU n sp',H',t+ops.size⟩) ?_ h6
 unfold wh
 simp only[h1,h4,h5,and_self,if_true,h3,h2]
theorem dY.J4 {ops:Array Oper}{Q:aI->St->Prop}{n t:Nat}{sp:List (Nat×TV)}{H:Heap}{r:List Oper}{d:Tmp}{ty r2:TypeId}{x y:Operand}{tt pos af}{es:List Tree}{ti:TI}{e:TypeId}
 (hx:dz C n sp x=some (.t (.sl es)))(hy:dz C n sp y=some .bX)(ht:C.P.ty ty=some ti)(hd:ti.desc=.slice e)
 (k:∀b:Bool,(es≠ []->b=false)->dY C ops r ⟨dU n ((d,.t (.bool b))::sp),H,t+1⟩ Q):dY C ops (⟨some d,.binOp .eql ty x y r2,tt,pos,af,none⟩::r) ⟨dU n sp,H,t⟩ Q:=by
 intro G0 w0 G w a h0 hs hst R hR
 have h1:=bL hst.slots hst.iL (dK hx)
 have h2:=bL hst.slots hst.iL (dK hy)
 obtain⟨_,_,hu,_⟩:=bt (show aW C.P ty=some ti from ht)
 rw[hd] at hu
 obtain⟨ad,len,cap,ep,hne⟩:∃ad len cap,a.eval x=.slice ad len cap/\(es≠ []->ad.isNone=false):=by
  generalize a.eval x=p at h1;cases h1 with|t _ _ h1=>cases h1 with
   |Al ad cap=>exact⟨_,_,_,rfl,λh=>absurd rfl h⟩
   |sl=>exact⟨_,_,_,rfl,λ_=>rfl⟩
 have eq:a.eval y=.slice none 0 0:=by
  generalize a.eval y=q at h2;cases h2;rfl
 have hrun:=(eO (x:=x) (y:=y) (p:=.slice ad len cap) (q:=.slice none 0 0) (C:=C) (w:=w) (t:=ty) (by intro z;simp) (by simp) rfl rfl (yK hu ad len cap 0 0)).1
 have hop:cB C.P (.loc [t]) ⟨some d,.binOp .eql ty x y r2,tt,pos,af,none⟩ a w G (.t (.bool ad.isNone)) []:=
  cB.quiet hst.wf (by simp only[execOp];rw[ep,eq];simp only[Sem.run_bind] at hrun ⊢;rw[hrun];rfl) (.t _ _ (.bool _))
 have kk:=k ad.isNone hne
 refine wpList_step λK hK=> ?_
 rw[iW (G:=G) (show dF ops (dU n sp) ⟨some d,.binOp .eql ty x y r2,tt,pos,af,none⟩=some true from rfl) hst.slots]
 simp only[if_true]
 refine hop.exec.wp ny.no (λz w' hr=> ?_) (λch w' hr=> ?_)
 ·obtain⟨x',G',e1,hs',kL,hv⟩:=hr;simp at e1;subst e1;have:=hst.op (some d) hs' kL hv;rw[eP] at this;exact hK _ _ (kk G0 w0 G' w' _ h0 (dw.comp hs hs'.any) this R λe st' _ _ _ h1 h2=>hR _ _ _ _ _ h1 (Good.Fp (put_defers _ _ _) h2))
 ·obtain⟨x',G',e1,_⟩:=hr;simp at e1
def s6 (C:cE)(fn:Func)(n:Nat)(st:St):Option bB:=
 match iT C st fn.results.toList with
 |none=>none
 | some vs=>match nO st.H 0 n with
  |none=>none
  |some os=>match reach st.H eN [] ((uN vs).names++os.flatMap aK.names) with
   |none=>none
   |some R=>(j6 st.H R).map λh=>.ret (uN vs) os h
theorem MA {fn:Func}{n:Nat}{st:St}{a:Act}{r:bB}{G G0:Gh}{w w0:World}(h:s6 C fn n st=some r)(hs:dw G0 w0 G w)(hst:uI C G w st a):
 ∃v,(results fn a.tmps).run C.P w=.ok v w/\wT G0 w0 n r (.returned v) w:=by
 unfold s6 at h
 split at h
 ·simp at h
 rename_i vs hvs
 obtain⟨v,hv,hr⟩:=x4 hst hvs
 refine⟨v,hv, ?_⟩
 split at h
 ·simp at h
 rename_i os hos
 split at h
 ·simp at h
 rename_i R hR
 cases Qv:j6 st.H R with
 |none=>rw[Qv] at h;simp at h
 | some nw=>
   rw[Qv] at h
   simp only[Option.map_some,Option.some.injEq] at h
   subst h
   obtain⟨e1,e2⟩:=u7 hos
   refine⟨v,G,rfl,hs,e1,λi o ho=> ?_,λk o hm=> ?_,hr⟩
   · have:=e2 i o ho
     rw[Nat.zero_add] at this
     exact hst.heap _ _ this
   · obtain⟨e3,e4⟩:=qx Qv k o hm
     exact⟨e3,hst.heap _ _ e4⟩
def HN (C:cE)(fn:Func)(n:Nat)(r:bB):aI->St->Prop
 |.normal,st=>finish C fn n st=some r\/s6 C fn n st=some r
 |.ret,st=>finish C fn n st=some r\/s6 C fn n st=some r
 |.panic v,st=>v.names.any Nm.eY=false/\r=.panic v (oh st.H 0 n)
 |_,_=>False
theorem aaP {f:FuncId}{fn:Func}{body:Code}{args:List TV}{aQ:List aK}{r:bB}(Aw:C.P.fn f=some fn)(hbody:fn.body=some body)(hname:fn.name≠ "runtime.NumGoroutine")
 (h:AW C body ⟨args++List.replicate (fn.ntmps - args.length) bN,cm 0 aQ,0⟩ (HN C fn aQ.length r)):aq C f args aQ r:=by
 intro G w vs hw hg had hH hv
 have hfn:=C.P.Qa _ _ Aw
 have hst:uI C G w ⟨args++List.replicate (fn.ntmps - args.length) bN,cm 0 aQ,0⟩ {tmps:=vs.toArray++Array.replicate (fn.ntmps - vs.toArray.size) undef,defers:=[]}:=by
  refine⟨hw,hg, ?_,hH,λp hp=>absurd hp (had.2 p)⟩;have e:(vs.toArray++Array.replicate (fn.ntmps - vs.toArray.size) undef).toList=vs++List.replicate (fn.ntmps - args.length) undef:=by simp[hv.1]
  unfold SR;rw[e];refine cv.append hv ⟨by simp,λj c u hc hu=> ?_⟩;rw[List.getElem?_replicate] at hc hu;by_cases hl:j<fn.ntmps - args.length
  ·rw[if_pos hl] at hc hu;simp at hc hu;subst hc;subst hu;exact lG G
  ·rw[if_neg hl] at hc;simp at hc
 have fin:∀{G':Gh} {w':World} {st:St} {a':Act},(finish C fn aQ.length st=some r\/s6 C fn aQ.length st=some r)->dw G w G' w'->uI C G' w' st a'->∃v,(results fn a'.tmps).run C.P w'=.ok v w'/\wT G w aQ.length r (.returned v) w':=
  λh hs hst=>h.elim (λh=>rH h hs hst) (λh=>MA h hs hst)
 refine .inl ⟨?_,calls_of_wp hfn hbody ?_⟩
 ·simp[callFunc,hfn,hname,hbody]
 ·refine wp_mono (h G w G w _ had.2 (Step.refl hw _ _) hst) λex a' w' ⟨e,st,hq,hgd⟩=> ?_
  cases e with
  | normal=>
    obtain⟨G',hs,hd,rfl,iX⟩:=hgd
    exact⟨hd,fin hq hs iX⟩
  | ret=>
    obtain⟨G',hs,hd,rfl,iX⟩:=hgd
    exact⟨hd,fin hq hs iX⟩
  |exit id=>exact hq.elim
  | panic v=>
    obtain⟨_,rfl⟩:=hq
    obtain⟨G',hs,hd,x,rfl,hx,hH',_⟩:=hgd
    refine⟨hd,x,G',rfl,hs,λi o ho=> ?_,hx⟩
    have:=sV ho
    rw[Nat.zero_add] at this
    exact hH' _ _ this
theorem jT {f:FuncId}{fn:Func}{body:Code}{args:List TV}{aQ:List aK}{r:bB}(n k:Nat)(Aw:C.P.fn f=some fn)(hbody:fn.body=some body)(hname:fn.name≠ "runtime.NumGoroutine")
 (hn:fn.ntmps=n)(ha:args.length=k)(hk:k<=n)(h:AW C body ⟨dU n (x7 0 args),cm 0 aQ,0⟩ (HN C fn aQ.length r)):aq C f args aQ r:=by
 refine aaP Aw hbody hname (AW.re (Re.start args (fn.ntmps - args.length) _ _) ?_)
 rw[show args.length+(fn.ntmps - args.length)=n by omega]
 exact h
end
end Go.Abs
end
noncomputable section
namespace Go.Abs
open Go
def vg:Tree->Bool
 |.agg _=>true
 |_=>false
def EOk (ag:Bool)(sz:Nat)(e:Tree):Prop:=e.cells.length=sz/\e.cells.all Tree.leaf=true/\vg e=ag
def ey (ag:Bool)(sz:Nat)(es:List Tree):Prop:=∀e∈es,EOk ag sz e
theorem ey.nil {ag:Bool}{sz:Nat}:ey ag sz []:=λ_ h=>by simp at h
theorem ey.cons {ag:Bool}{sz:Nat}{e:Tree}{es:List Tree}(h:EOk ag sz e)(hs:ey ag sz es):ey ag sz (e::es):=λx hx=>by
 rcases List.mem_cons.1 hx with rfl|hx
 ·exact h
 ·exact hs x hx
theorem ey.append {ag:Bool}{sz:Nat}{a b:List Tree}(h:ey ag sz a)(k:ey ag sz b):ey ag sz (a++b):=λx hx=>(List.mem_append.1 hx).elim (h x) (k x)
theorem ey.take {ag:Bool}{sz:Nat}{a:List Tree}(h:ey ag sz a)(n:Nat):ey ag sz (a.take n):=λx hx=>h x (List.mem_of_mem_take hx)
theorem ey.lens {ag:Bool}{sz:Nat}{es:List Tree}(h:ey ag sz es):∀e∈es,e.cells.length=sz:=λe he=>(h e he).1
theorem ey.o8 {ag:Bool}{sz:Nat}{es:List Tree}(h:ey ag sz es):((flat es).map TV.t).all TV.leaf=true:=by
 rw[List.all_eq_true];intro v hv;obtain⟨x,hx,rfl⟩:=List.mem_map.1 hv;obtain⟨e,he,hxe⟩:=List.mem_flatMap.1 hx;exact List.all_eq_true.1 (h e he).2.1 x hxe
theorem ey.length {ag:Bool}{sz:Nat}{es:List Tree}(h:ey ag sz es):((flat es).map TV.t).length=es.length*sz:=by
 rw[List.length_map,fu h.lens]
theorem QI {e:Tree}(h:vg e=true):e=.agg e.cells:=by
 cases e<;>simp_all [vg,Tree.cells]
theorem one_cell {e:Tree}(h:vg e=false):e.cells=[e]:=by
 cases e<;>simp_all [vg,Tree.cells]
theorem Dv {ag:Bool}{sz:Nat}(hz:0<sz):∀{es:List Tree},ey ag sz es->chunk ag sz es.length (flat es)=some es
 | [],_=>rfl
 | e::r,h=>by
  obtain⟨h1,h2,h3⟩:=h e List.mem_cons_self
  have ih:=Dv hz (es:=r) λx hx=>h x (List.mem_cons_of_mem _ hx)
  have hd:(flat (e::r)).drop sz=flat r:=by
   simp only[flat,List.flatMap_cons]
   rw[← h1,List.drop_left]
  have ht:(flat (e::r)).take sz=e.cells:=by
   simp only[flat,List.flatMap_cons]
   rw[← h1,List.take_left]
  have hl:sz<=(flat (e::r)).length:=by
   simp only[flat,List.flatMap_cons,List.length_append]
   omega
  simp only[List.length_cons,chunk,if_pos hl,hd,ih,ht]
  cases ag with
  |true=>simp only[if_true];rw[← QI h3]
  |false=>
   have hc:=one_cell h3
   have e1:sz=1:=by rw[← h1,hc];rfl
   have hlf:e.leaf=true:=by rw[hc] at h2;simpa using h2
   have ef:flat (e::r)=e::flat r:=by simp only[flat,List.flatMap_cons,hc,List.singleton_append]
   simp only[Bool.false_eq_true,if_false,ef,e1,hlf,and_self,if_true]
theorem Dw (g:TV->Option (Tree×List Nm))(hg:∀x,g (.t x)=some (x,[])):∀(ts:List Tree),yF g (ts.map .t)=some (ts,[])
 | []=>rfl
 |x::r=>by simp only[List.map_cons,yF,hg,Dw g hg r,List.nil_append]
theorem Tc (H:Heap)(n:Nat)(x:Tree):oe H n (.t x)=some (x,[]):=by cases n<;>rfl
theorem OI {H:Heap}{n:Nat}{k:Nm}{g:TypeId}{ag fz:Bool}{sz len:Nat}{es:List Tree}(hk:H.get k=some (.arr (g,ag) sz fz ((flat es).map .t)))(hu:ey ag sz es)(hz:0<sz)(hl:len=es.length):
 oe H (n+1) (.ref k 0 len)=some (.sl es,[k]):=by
 subst hl
 have hc:0<sz/\(0+es.length) *sz=((flat es).map TV.t).length:=⟨hz,by rw[hu.length,Nat.zero_add]⟩
 have e1:(((flat es).map TV.t).drop (0*sz)).take (es.length*sz)=(flat es).map .t:=by
  rw[Nat.zero_mul,List.drop_zero,List.take_of_length_le (by rw[hu.length];exact Nat.le_refl _)]
 simp only[oe,hk,if_pos hc,e1,Dw _ (Tc H n),Dv hz hu]
section
variable {C:cE}{ev:aT}{f:FuncId}{n:Nat}{sp:List (Nat×TV)}{H:Heap}{t:Nat}{d:Option Tmp}
theorem sta {P:ij}{ty:TypeId}{ti:TI}{x:TV}{k:Nm}{off:Nat}{g:TypeId×Bool}{bx:Nat}{cs:List TV}(ht:P.ty ty=some ti)(hk:H.get k=some (.arr g bx false cs))(hl:(decide (x.cells.length=ti.size)&&x.cells.all TV.leaf)=true)(ho:off+ti.size<=cs.length):
 storeT P H ty (.je k cs.length off) x=some [(k,.arr g bx false (cr cs off x.cells))]:=by
 simp only[Bool.and_eq_true,decide_eq_true_eq] at hl
 simp only[storeT,aW,ht,hl.1,hl.2,hk,ho,and_self,if_true]
theorem Gu {sz:Nat}{es:List Tree}{i j m:Nat}{e:Tree}(hu:∀e∈es,e.cells.length=sz)(he:es[i]?=some e)(hj:j+m<=sz):((flat es).drop (i*sz+j)).take m=(e.cells.drop j).take m:=by
 refine List.ext_getElem? λq=> ?_
 by_cases hq:q<m
 ·rw[List.getElem?_take_of_lt hq,List.getElem?_take_of_lt hq,List.getElem?_drop,List.getElem?_drop,Nat.add_assoc,uW hu he (by omega)]
 ·rw[List.getElem?_eq_none (by rw[List.length_take];omega),List.getElem?_eq_none (by rw[List.length_take];omega)]
theorem J5:∀(ts:List Tree),allT (ts.map .t)=some ts
 | []=>rfl
 |x::r=>by simp only[List.map_cons,allT,J5 r]
theorem QJ (ts:List Tree):w6 (ts.map .t)=.t (.agg ts):=by simp only[w6,J5]
theorem nC {sz:Nat}{es:List Tree}{i j m:Nat}{e:Tree}(hu:∀e∈es,e.cells.length=sz)(he:es[i]?=some e)(hj:j+m<=sz):partT true m ((flat es).map .t) (i*sz+j)=some (.t (.agg ((e.cells.drop j).take m))):=by
 have hi:i<es.length:=(List.getElem?_eq_some_iff.1 he).1;have hle:i*sz+j+m<=((flat es).map TV.t).length:=by
  rw[List.length_map,fu hu];have:(i+1) *sz<=es.length*sz:=Nat.mul_le_mul_right _ hi;rw[Nat.succ_mul] at this;omega
 simp only[partT,if_true,if_pos hle];rw[← List.map_drop,← List.map_take,Gu hu he hj,QJ]
theorem QK {sz:Nat}{es:List Tree}{i j:Nat}{e c:Tree}(hu:∀e∈es,e.cells.length=sz)(he:es[i]?=some e)(hc:e.cells[j]?=some c):partT false 1 ((flat es).map .t) (i*sz+j)=some (.t c):=by
 have hj:j<sz:=by rw[← hu e (List.mem_of_getElem? he)];exact(List.getElem?_eq_some_iff.1 hc).1
 simp only[partT,Bool.false_eq_true,if_false,List.getElem?_map,uW hu he hj,hc,Option.map_some]
theorem Td {cs:List TV}{off:Nat}{vs:List TV}(h:(cs.drop off).take vs.length=vs):cr cs off vs=cs:=by
 unfold cr;conv=>rhs;rw[← List.take_append_drop off cs,← List.take_append_drop vs.length (cs.drop off),h,List.drop_drop]
 rw[List.append_assoc]
theorem Ch {sz:Nat}{es:List Tree}{i j m:Nat}{e:Tree}(hu:∀e∈es,e.cells.length=sz)(he:es[i]?=some e)(hj:j+m<=sz):cr ((flat es).map .t) (i*sz+j) (((e.cells.drop j).take m).map .t)=(flat es).map .t:=by
 refine Td ?_;have hl:e.cells.length=sz:=hu e (List.mem_of_getElem? he);rw[List.length_map,List.length_take,List.length_drop,hl,Nat.min_eq_left (by omega),← List.map_drop,← List.map_take,Gu hu he hj]
theorem aaQ {ag:Bool}{sz:Nat}{es:List Tree}(hu:ey ag sz es):eB H ag sz (.t (.sl es))=some (es.length,(flat es).map .t):=by
 have:jF sz es=true:=by
  cases es with
  |nil=>rfl
  |cons e r=>simp only[jF,(hu e List.mem_cons_self).1,BEq.rfl]
 simp only[eB,this,if_true]
theorem XC {ag:Bool}{sz:Nat}{es:List Tree}(hu:ey ag sz es):eB H ag sz (.mB es)=some (es.length,(flat es).map .t):=by
 have:jF sz es=true:=by
  cases es with
  |nil=>rfl
  |cons e r=>simp only[jF,(hu e List.mem_cons_self).1,BEq.rfl]
 simp only[eB,this,if_true]
def OJ (y:TV)(es:List Tree):Prop:=y=.t (.sl es)\/y=.mB es
theorem HZ {ag:Bool}{sz:Nat}{y:TV}{es:List Tree}(h:OJ y es)(hu:ey ag sz es):eB H ag sz y=some (es.length,(flat es).map .t):=by
 rcases h with rfl|rfl
 ·exact aaQ hu
 ·exact XC hu
structure Bw (P:ij)(st elem:TypeId)(te:TI):Prop where
 sl:∃ti,P.ty st=some ti/\ti.desc=.slice elem
 el:P.ty elem=some te
 ze:∃z,te.zero=some z/\te.size≠0/\z.cells.length=te.size/\te.bytes≠0
theorem qz {nm:Nm}{s x:TV}{st elem:TypeId}{te:TI}(h:Bw C.P st elem te){m:Nat}{cs:List TV}(hs:eB H te.agg te.size x=some (m,cs))(hm:m≠0)(hl:cs.all TV.leaf=true){r:Option (TV×Heap)}
 (hr:  (match s with
  |.bX=>if m*te.bytes<=eC then some (.ref nm 0 m,[(nm,.arr (elem,te.agg) te.size false cs)]) else none
  |.mB es=>match eB H te.agg te.size (.mB es) with
   |some (n,old)=>if(n+m) *te.bytes<=eC then some (.ref nm 0 (n+m),[(nm,.arr (elem,te.agg) te.size false (old++cs))]) else none
   |none=>none
  |.ref k 0 len=>match iE H k 0 len with
   |some (g,e,fz,old)=>if e=te.size/\g.1=elem/\(len+m) *te.bytes<=eC then some (.ref k 0 (len+m),[(k,.arr g e fz (old++cs))]) else none
   |none=>none
  |_=>none:Option (TV×Heap))=r):jx C.P nm H st st s x=r:=by
 obtain⟨⟨ti,h1,h2⟩,h3,z,h4,h5,h6,h7⟩:=h
 have hc:¬(te.size=0\/z.cells.length≠te.size\/te.bytes=0):=by
  rintro (h|h|h)
  ·exact h5 h
  ·exact h h6
  ·exact h7 h
 unfold jx
 simp only[aW,h1,h2,h3,h4,if_neg hc,hs,if_neg hm,hl,if_true]
 exact hr
theorem H6 {x y:Operand}{st elem:TypeId}{te:TI}{v:TV}{es:List Tree}(h:Bw C.P st elem te)(hx:dz C n sp x=some (.mB []))(hy:dz C n sp y=some v)(hv:OJ v es)(hu:ey te.agg te.size es)(hne:es≠ [])(hb:es.length*te.bytes<=eC):
 dJ C ev f H n sp t d (.call ⟨.builtin .append, #[x,y], #[st,st]⟩) (.ref (.loc [t]) 0 es.length) [(.loc [t],.arr (elem,te.agg) te.size false ((flat es).map .t))]:=by
 refine Gt (vs:=[.mB [],v]) (by simp only[pT,hx,hy]) ?_
 show jx C.P (.loc [t]) H st st (.mB []) v=_
 refine qz h (HZ hv hu) (by simpa using hne) hu.o8 ?_
 have e:eB H te.agg te.size (.mB [])=some (0,[]):=rfl
 simp only[e,Nat.zero_add,if_pos hb,List.nil_append]
theorem H7 {x y:Operand}{st elem:TypeId}{te:TI}{s v:TV}(h:Bw C.P st elem te)(hx:dz C n sp x=some s)(hy:dz C n sp y=some v)(hv:OJ v []\/v=.bX)(hs:s=.bX\/(∃es,s=.t (.sl es))\/∃es,s=.mB es):
 dJ C ev f H n sp t d (.call ⟨.builtin .append, #[x,y], #[st,st]⟩) s []:=by
 refine Gt (vs:=[s,v]) (by simp only[pT,hx,hy]) ?_
 obtain⟨⟨ti,h1,h2⟩,h3,z,h4,h5,h6,h7⟩:=h
 have hc:¬(te.size=0\/z.cells.length≠te.size\/te.bytes=0):=by
  rintro (h|h|h)
  ·exact h5 h
  ·exact h h6
  ·exact h7 h
 have hsrc:eB H te.agg te.size v=some (0,[]):=by
  rcases hv with (rfl|rfl)|rfl<;>rfl
 show jx C.P (.loc [t]) H st st s v=some (s,[])
 unfold jx
 simp only[aW,h1,h2,h3,h4,if_neg hc,hsrc,if_true]
 rcases hs with rfl|⟨es,rfl⟩|⟨es,rfl⟩<;>rfl
theorem vk {ty elem:TypeId}{ti te:TI}{z:TV}(ha:d.any (C.jy f)=false)(ht:C.P.ty ty=some ti)(hd:ti.desc=.slice elem)(hte:C.P.ty elem=some te)(hz:te.zero=some z)(hc:(decide (0<te.size)&&decide (z.cells.length=te.size)&&z.cells.all TV.leaf)=true):
 dJ C ev f H n sp t d (.buildSlice ty 0 #[]) (.mB []) []:=λ_ _ _ _=>by
 simp only[Bool.and_eq_true,decide_eq_true_eq] at hc
 obtain⟨⟨h1,h2⟩,h3⟩:=hc
 have Te:0<te.size/\0*te.size<=16777216/\z.cells.length=te.size/\z.cells.all TV.leaf=true:=⟨h1,by omega,h2,h3⟩
 simp only[aP,evalOp,pK,qu,aW,ht,hd,hte,hz,if_pos Te,qO,qt,ha,List.map_nil,allT,Option.bind_some,chunk,List.isEmpty_nil,if_true]
theorem MB {ty r2:TypeId}{x y:Operand}{k:IntKind}{a:Int}(h:dz C n sp x=some (.t (.int k a)))(h2:dz C n sp y=some (.t (.int k a))):dJ C ev f H n sp t d (.binOp .neq ty x y r2) (.t (.bool false)) []:=Ds h h2 (by simp[Qb])
theorem jU {l:List Tree}{i:Nat}{e:Tree}(h:l[i]?=some e):l.take (i+1)=l.take i++[e]:=by
 obtain⟨h1,rfl⟩:=List.getElem?_eq_some_iff.1 h;exact(List.take_append_getElem h1).symm
theorem Tf {fn:Func}{st:St}{vs:List TV}{x:Tree}{ks:List Nm}(hr:iT C st fn.results.toList=some vs)(hf:oe st.H fT (uN vs)=some (x,ks)):finish C fn 0 st=some (.ret (.t x) [] []):=by
 unfold finish;simp only[hr,hf,nO,TV.names,List.flatMap_nil,List.append_nil];rfl
theorem QL {H:Heap}{m:Nat}{k:Nm}{g:TypeId×Bool}{bx:Nat}{fz:Bool}{ts:List Tree}(hk:H.get k=some (.arr g bx fz (ts.map .t))):reach H (m+2) [] [k]=some [k]:=by
 have h1:¬k∈([]:List Nm):=by simp
 simp only[reach,if_neg h1,hk,aK.names,qy,List.append_nil,List.nil_append]
theorem Ci {fn:Func}{st:St}{k:Nm}{o len:Nat}{g:TypeId×Bool}{bx:Nat}{fz:Bool}{ts:List Tree}(hr:iT C st fn.results.toList=some [.ref k o len])(hk:st.H.get k=some (.arr g bx fz (ts.map .t)))(hl:k.eY=true):
 s6 C fn 0 st=some (.ret (.ref k o len) [] [(k,.arr g bx fz (ts.map .t))]):=by
 unfold s6
 simp only[hr,nO,uN,TV.names,List.flatMap_nil,List.append_nil]
 rw[show eN=3998+2 from rfl,QL hk]
 simp only[j6,hl,if_true,hk,Option.map_some]
theorem MC {g:FuncId}{ts:List Tree}{v v':TV}{news news':Heap}(he:ev g (ts.map .t) []=some (.ret v [] news))(hv:v.rn (nu [] t)=some v')(hn:kJ [] t news=some news'):qv ev H g (ts.map .t) t=some (.val v' news'):=by
 unfold qv;simp only[Jt,qU,qy];have h1:reach (H.dR (cW H [])) eN [] []=some []:=rfl;rw[h1];simp only[List.nodup_nil,if_true,rI,mH,he,hv,hn,nc];rfl
theorem yZ {g:FuncId}{args:Array Operand}{ats:Array TypeId}{ts:List Tree}{v v':TV}{news news':Heap}(h:pT C n sp args.toList=some (ts.map .t))(he:ev g (ts.map .t) []=some (.ret v [] news))(hv:v.rn (nu [] t)=some v')(hn:kJ [] t news=some news')(hk:C.jy f (d.getD 255)=false:=by rfl):
 dJ C ev f H n sp t d (.call ⟨.value (.func g),args,ats⟩) v' news':=
 Mz (Bu h) (MC he hv hn) hk
theorem vn {p:List Nat}{g:TypeId×Bool}{bx:Nat}{fz:Bool}{ts:List Tree}:kJ [] t [(.loc p,.arr g bx fz (ts.map .t))]=some [(.loc (t::p),.arr g bx fz (ts.map .t))]:=by
 simp only[kJ,nu,aK.rn,rI,Option.map_some]
theorem MD {σ:Nm->Option Nm}{g:TypeId×Bool}{bx:Nat}{fz:Bool}{ts:List Tree}:aK.rn σ (.arr g bx fz (ts.map .t))=some (.arr g bx fz (ts.map .t)):=by
 simp only[aK.rn,rI,Option.map_some]
theorem Tg {H:Heap}{n:Nat}{k:Nm}{g:TypeId}{ag fz:Bool}{sz len:Nat}{es es':List Tree}(hk:H.get k=some (.arr (g,ag) sz fz ((flat es).map .t)))(hu:ey ag sz es)(hz:0<sz)(hl:len=es.length)(he:es=es'):
 oe H (n+1) (.ref k 0 len)=some (.sl es',[k]):=by
 subst he
 exact OI hk hu hz hl
theorem Fs {x:Operand}{v:Tree}(h:dz C n sp x=some (.t v)):pT C n sp [x]=some ([v].map .t):=by
 simp only[pT,h];rfl
theorem rh2 {x y:Operand}{v u:Tree}(h:dz C n sp x=some (.t v))(h2:dz C n sp y=some (.t u)):pT C n sp [x,y]=some ([v,u].map .t):=by
 simp only[pT,h,h2];rfl
open Classical in
def ct1 (P:Tree->Prop)(res:Tree->bB):List TV->List aK->Option bB:=λas' os=>match as',os with
 | [.t x],[]=>if P x then some (res x) else none
 |_,_=>none
open Classical in
def ct2 (P:Tree->Tree->Prop)(res:Tree->Tree->bB):List TV->List aK->Option bB:=λas' os=>match as',os with
 | [.t x,.t y],[]=>if P x y then some (res x y) else none
 |_,_=>none
theorem aaR {g:FuncId}{P:Tree->Prop}{res:Tree->bB}(h:∀x,P x->aq C g [.t x] [] (res x)):ku C g (ct1 P res):=by
 intro args aQ r hr;unfold ct1 at hr;split at hr
 ·split at hr
  ·rename_i x hp;simp at hr;subst hr;exact h x hp
  ·simp at hr
 ·simp at hr
theorem Ti {g:FuncId}{P:Tree->Tree->Prop}{res:Tree->Tree->bB}(h:∀x y,P x y->aq C g [.t x,.t y] [] (res x y)):ku C g (ct2 P res):=by
 intro args aQ r hr;unfold ct2 at hr;split at hr
 ·split at hr
  ·rename_i x y hp;simp at hr;subst hr;exact h x y hp
  ·simp at hr
 ·simp at hr
theorem aaS {g:FuncId}{P:Tree->Prop}{res:Tree->bB}{ev:aT}{x:Tree}(h:P x):mE g (ct1 P res) ev g [.t x] []=some (res x):=by
 simp only[mE,if_true,ct1,if_pos h]
theorem Tj {g:FuncId}{P:Tree->Tree->Prop}{res:Tree->Tree->bB}{ev:aT}{x y:Tree}(h:P x y):mE g (ct2 P res) ev g [.t x,.t y] []=some (res x y):=by
 simp only[mE,if_true,ct2,if_pos h]
theorem nD {g k:FuncId}{s:List TV->List aK->Option bB}{ev:aT}{as':List TV}{os:List aK}{r:Option bB}(hne:(k==g)=false)(h:ev k as' os=r):mE g s ev k as' os=r:=by
 have:¬k=g:=by simpa using hne
 simp only[mE,if_neg this];exact h
end
end Go.Abs
end
