/- Sparse states: the slots of which something is known; one operation at a time. -/
import Derived.Test.YtfdnciimclnncaaGreatDoorF
set_option linter.unusedVariables false
set_option linter.unusedSimpArgs false
noncomputable section
namespace Go.Abs
open Go
def look:List (Nat×TV)->Nat->TV
 | [],_=>.any
 |(j,v)::r,i=>bif Nat.beq i j then v else look r i
def eD (n:Nat)(sp:List (Nat×TV)):List TV:=(List.range n).map (look sp)
theorem jc (n:Nat)(sp:List (Nat×TV)):(eD n sp).length=n:=by simp[eD]
theorem rR {n:Nat}{sp:List (Nat×TV)}{i:Nat}(h:i<n):(eD n sp)[i]?=some (look sp i):=by
 simp[eD,h]
theorem Zn {n:Nat}{sp:List (Nat×TV)}{i:Nat}(h:i<n):adW (eD n sp) i=look sp i:=by
 rw[Nf,List.getD_eq_getElem?_getD,rR h];rfl
theorem qB (i j:Nat)(v:TV)(sp:List (Nat×TV)):look ((j,v)::sp) i=if i=j then v else look sp i:=by
 show(bif Nat.beq i j then v else look sp i)=_;cases hb:Nat.beq i j with
 |true=>rw[if_pos (Nat.eq_of_beq_eq_true hb)];rfl
 |false=>rw[if_neg (Nat.ne_of_beq_eq_false hb)];rfl
theorem Zo (n:Nat)(sp:List (Nat×TV))(d:Nat)(v:TV):adX v (eD n sp) d=eD n ((d,v)::sp):=by
 rw[qU];refine List.ext_getElem? λi=> ?_
 rw[List.getElem?_set,jc];by_cases hi:i<n
 ·have h1:(eD n ((d,v)::sp))[i]?=some (look ((d,v)::sp) i):=rR hi;rw[h1,qB];by_cases e:d=i
  ·subst e;simp[hi]
  ·rw[if_neg e,if_neg (λh=>e h.symm),rR hi]
 ·have h1:(eD n ((d,v)::sp))[i]?=none:=by rw[List.getElem?_eq_none_iff,jc];omega
  rw[h1];by_cases e:d=i
  ·subst e;simp[hi]
  ·rw[if_neg e,List.getElem?_eq_none_iff,jc];omega
section
variable {C:ez}
def ail (sp:List (Nat×TV))(d:Option Tmp)(v:TV):List (Nat×TV):=match d with
 |some d=>(d,v)::sp
 |none=>sp
theorem gp (n:Nat)(sp:List (Nat×TV))(d:Option Tmp)(v:TV):ey (eD n sp) d v=eD n (ail sp d v):=by
 cases d with
 |none=>rfl
 |some d=>exact Zo n sp d v
def eZ (C:ez)(n:Nat)(sp:List (Nat×TV)):Operand->Option TV
 |.tmp t=>bif Nat.blt t n then some (look sp t) else none
 |.const v=>valOf v
 |.global g=>match C.kg g with
  |some cs=>some (.lR cs 0)
  |none=>none
 |.func f=>some (.t (.fn (.func f)))
theorem fL {n:Nat}{sp:List (Nat×TV)}{x:Operand}{v:TV}(h:eZ C n sp x=some v):dw C (eD n sp) x=some v:=by
 cases x with
 | tmp t=>
  simp only[eZ] at h
  cases hb:Nat.blt t n with
  |false=>rw[hb] at h;simp at h
  |true=>
   rw[hb] at h
   simp only[cond_true,Option.some.injEq] at h
   have:t<n:=by simpa [Nat.blt,Nat.succ_le_iff] using hb
   simp only[dw,Zn this,h]
 |const v=>exact h
 |global g=>exact h
 |func f=>exact h
def tM (C:ez)(n:Nat)(sp:List (Nat×TV)):List Operand->Option (List TV)
 | []=>some []
 |x::r=>match eZ C n sp x,tM C n sp r with
  |some v,some vs=>some (v::vs)
  |_,_=>none
theorem Jq {n:Nat}{sp:List (Nat×TV)}:∀{xs:List Operand} {vs:List TV},tM C n sp xs=some vs->kL C (eD n sp) xs=some vs:=by
 intro xs;induction xs with
 |nil=>intro vs h;exact h
 |cons x r ih=>
  intro vs h
  simp only[tM] at h
  cases h1:eZ C n sp x<;>cases h2:tM C n sp r<;>simp only[h1,h2,reduceCtorEq] at h
  simp only[kL,fL h1,ih h2]
  exact h
theorem Mf (S:List Nm)(sp sp':List (Nat×TV))(h:∀i,look sp' i=.any\/(look sp i).rn (P6 S)=some (look sp' i)):∀(l:List Nat),uN (P6 S) (l.map (look sp)) (l.map (look sp'))
 | []=>trivial
 |i::l=>⟨h i,Mf S sp sp' h l⟩
def fits (S:List Nm)(sp:List (Nat×TV)):List (Nat×TV)->Prop
 | []=>True
 |(i,v)::r=>(look sp i).rn (P6 S)=some v/\fits S sp r
theorem Mg {S:List Nm}{sp:List (Nat×TV)}:∀{sp':List (Nat×TV)},fits S sp sp'->∀i,look sp' i=.any\/(look sp i).rn (P6 S)=some (look sp' i)
 | [],_,i=>.inl rfl
 |(j,v)::r,h,i=>by
  rw[qB]
  by_cases e:i=j
  · subst e;rw[if_pos rfl];exact .inr h.1
  · rw[if_neg e];exact Mg h.2 i
theorem Re.sp (S:List Nm){n:Nat}{sp sp':List (Nat×TV)}{H H':Heap}{t t':Nat}(h1:fits S sp sp')(h2:Ji (P6 S) H H')(hn:S.Nodup)(hl:S.all Nm.jf=true)(hS:∀k∈S,(H.get k).isSome=true)(ht:S.length<=t'):
 Re C ⟨eD n sp,H,t⟩ ⟨eD n sp',H',t'⟩:=
 Re.mk S (Mf S sp sp' (Mg h1) _) h2 hn hl hS ht
theorem Re.sq (S:List Nm){n:Nat}{sp sp':List (Nat×TV)}{H H':Heap}{t t':Nat}(h1:fits S sp sp')(h2:Ji (P6 S) H H')(hn:S.Nodup)(hl:S.all Nm.jf=true)(hS:S.all (λk=>(H.get k).isSome)=true)(ht:S.length<=t'):
 Re C ⟨eD n sp,H,t⟩ ⟨eD n sp',H',t'⟩:=Re.sp S h1 h2 hn hl (λk hk=>List.all_eq_true.1 hS k hk) ht
def same (sp:List (Nat×TV)):List (Nat×TV)->Prop
 | []=>True
 |(i,v)::r=>look sp i=v/\same sp r
theorem Mh {sp:List (Nat×TV)}:∀{sp':List (Nat×TV)},same sp sp'->∀i,look sp' i=.any\/look sp i=look sp' i
 | [],_,i=>.inl rfl
 |(j,v)::r,h,i=>by
  rw[qB]
  by_cases e:i=j
  · subst e;rw[if_pos rfl];exact .inr h.1
  · rw[if_neg e];exact Mh h.2 i
theorem ec.less {G:Gh}{xs ys:List TV}{vs:List Value}(h:ec G xs vs)(hl:ys.length=xs.length)(hh:∀(i:Nat) (x y:TV),xs[i]?=some x->ys[i]?=some y->y=.any\/x=y):ec G ys vs:=by
 refine⟨by rw[hl];exact h.1,λj c v hc hv=> ?_⟩;have hj:j<xs.length:=by rw[← hl];exact(List.getElem?_eq_some_iff.1 hc).1
 rcases hh j xs[j] c (List.getElem?_eq_getElem hj) hc with rfl|e
 ·exact .any _
 ·rw[← e];exact h.2 j _ v (List.getElem?_eq_getElem hj) hv
theorem Re.slots {n:Nat}{sp sp':List (Nat×TV)}{H:Heap}{t:Nat}(h:same sp sp'):Re C ⟨eD n sp,H,t⟩ ⟨eD n sp',H,t⟩:=by
 intro G0 w0 G w a h0 hs hst;refine⟨G,hs,hst.wf,hst.kg,ec.less hst.slots (by simp[jc]) λi x y hx hy=> ?_,hst.heap,hst.fresh⟩;have hi:i<n:=by have:=(List.getElem?_eq_some_iff.1 hx).1;simpa [jc] using this
 simp only[rR hi,Option.some.injEq] at hx hy;subst hx;subst hy;exact Mh h i
theorem Re.heap {sl:List TV}{H H':Heap}{t:Nat}(h:∀k o,H'.get k=some o->H.get k=some o):Re C ⟨sl,H,t⟩ ⟨sl,H',t⟩:=
 λG0 w0 G w a h0 hs hst=>⟨G,hs,hst.wf,hst.kg,hst.slots,λk o hk=>hst.heap k o (h k o hk),hst.fresh⟩
def BE:Nat->List TV->List (Nat×TV)
 |_,[]=>[]
 |i,v::r=>(i,v)::BE (i+1) r
theorem Jr:∀(l:List TV) (i j:Nat),i<=j->look (BE i l) j=.any\/l[j - i]?=some (look (BE i l) j)
 | [],_,_,_=>.inl rfl
 | v ::r,i,j,h=>by
   simp only[BE]
   rw[qB]
   by_cases e:j=i
   · subst e;simp
   · rw[if_neg e]
     have:=Jr r (i+1) j (by omega)
     have e2:j - i=(j - (i+1))+1:=by omega
     rw[e2,List.getElem?_cons_succ]
     exact this
theorem Re.start (args:List TV)(k:Nat)(H:Heap)(t:Nat):Re C ⟨args++List.replicate k dh,H,t⟩ ⟨eD (args.length+k) (BE 0 args),H,t⟩:=by
 intro G0 w0 G w a h0 hs hst;refine⟨G,hs,hst.wf,hst.kg,ec.less hst.slots (by simp[jc]) λi x y hx hy=> ?_,hst.heap,hst.fresh⟩;have hi:i<args.length+k:=by have:=(List.getElem?_eq_some_iff.1 hx).1;simpa using this
 rw[rR hi,Option.some.injEq] at hy;subst hy;rcases Jr args 0 i (Nat.zero_le _) with h|h
 ·exact .inl h
 ·right;rw[Nat.sub_zero] at h;have hl:=(List.getElem?_eq_some_iff.1 h).1;rw[List.getElem?_append_left hl,h] at hx;exact(Option.some.inj hx).symm
end
end Go.Abs
end
noncomputable section
namespace Go.Abs
open Go
section
variable {C:ez}{ev:bt}{f:FuncId}{ops:Array Oper}{Q:aS->St->Prop}{n:Nat}{sp:List (Nat×TV)}{H:Heap}{t:Nat}{r:List Oper}
def fF (C:ez)(ev:bt)(f:FuncId)(H:Heap)(n:Nat)(sp:List (Nat×TV))(t:Nat)(d:Option Tmp)(op:Op)(v:TV)(u:Heap):Prop:=
 ∀ty pos af g,bp C ev f H (eD n sp) t ⟨d,op,ty,pos,af,g⟩=some (.val v u)
theorem iN.go {d:Tmp}{op:Op}{ty pos af}{v:TV}{u:Heap}(aK:aD C ev)(h:fF C ev f H n sp t (some d) op v u)(k:iN C ops r ⟨eD n ((d,v)::sp),H.eY u,t+1⟩ Q):
 iN C ops (⟨some d,op,ty,pos,af,none⟩::r) ⟨eD n sp,H,t⟩ Q:=by
 refine iN.step aK rfl (h _ _ _ _) ?_
 rw[gp]
 exact k
theorem iN.Sz {op:Op}{ty pos af}{v:TV}{u:Heap}(aK:aD C ev)(h:fF C ev f H n sp t none op v u)(k:iN C ops r ⟨eD n sp,H.eY u,t+1⟩ Q):
 iN C ops (⟨none,op,ty,pos,af,none⟩::r) ⟨eD n sp,H,t⟩ Q:=by
 refine iN.step aK rfl (h _ _ _ _) ?_
 rw[gp]
 exact k
def gv (g:Bool)(v:TV):TV:=bif g then v else dh
theorem mM {j gd:Nat}{w:Bool}{o:Oper}(ho:o.guard=some (j,w))(hj:(ops[j]?).bind (·.dst)=some gd)(hn:Nat.blt gd n=true):
 eT ops (eD n sp) o=match look sp gd with|.t (.bool b)=>some (b==w)|.t (.bU [])=>some false|_=>none:=by
 have:gd<n:=by simpa [Nat.blt,Nat.succ_le_iff] using hn
 unfold eT
 simp only[ho,hj,rR this]
 generalize look sp gd=x
 cases x with
 |t y=>cases y with
  |bU vs=>cases vs<;>rfl
  |_=>rfl
 |_=>rfl
theorem iN.guarded {d:Tmp}{op:Op}{ty pos af}{j gd:Nat}{w:Bool}{b g:Bool}{v:TV}(aK:aD C ev)(hj:(ops[j]?).bind (·.dst)=some gd)(hn:Nat.blt gd n=true)
 (hl:(look sp gd=.t (.bool b)/\g=(b==w))\/∃g1,look sp gd=gv g1 (.t (.bool b))/\g=(g1&&(b==w)))
 (h:g=true->fF C ev f H n sp t (some d) op v [])(k:iN C ops r ⟨eD n ((d,gv g v)::sp),H,t+1⟩ Q):iN C ops (⟨some d,op,ty,pos,af,some (j,w)⟩::r) ⟨eD n sp,H,t⟩ Q:=by
 have hw:eT ops (eD n sp) ⟨some d,op,ty,pos,af,some (j,w)⟩=some g:=by
  rcases hl with ⟨hl,rfl⟩|⟨g1,hl,rfl⟩
  ·rw[mM rfl hj hn,hl]
  ·rw[mM rfl hj hn,hl];cases g1<;>rfl
 cases g with
 | true=>
   refine iN.step aK hw (h rfl _ _ _ _) ?_
   rw[gp]
   exact k
 | false=>
   refine iN.unwanted hw ?_
   rw[gp]
   exact k
variable {d:Option Tmp}
theorem aJ {x:Operand}{v:TV}(h:eZ C n sp x=some v):fF C ev f H n sp t d (.move x) v []:=λ_ _ _ _=>by
 simp only[bp,evalOp,fL h,Cj,Option.map_some]
theorem aL {x:Operand}{v:TV}(h:eZ C n sp x=some v):fF C ev f H n sp t d (.assign x) v []:=λ_ _ _ _=>by
 simp only[bp,evalOp,fL h,Cj,Option.map_some]
theorem nA {x:Operand}{v:Tree}(h:eZ C n sp x=some (.t v)):fF C ev f H n sp t d (.move x) (.t v) []:=aJ h
theorem iJ {x:Operand}{v:Tree}(h:eZ C n sp x=some (.t v)):fF C ev f H n sp t d (.assign x) (.t v) []:=aL h
theorem Zp {c x y:Operand}{b:Bool}{u v:TV}(hc:eZ C n sp c=some (.t (.bool b)))(hx:eZ C n sp x=some u)(hy:eZ C n sp y=some v):fF C ev f H n sp t d (.pick c x y) (if b then u else v) []:=λ_ _ _ _=>by
 simp only[bp,evalOp,fL hc,fL hx,fL hy]
theorem Mi {ty:TypeId}{x:Operand}{b:Bool}(h:eZ C n sp x=some (.t (.bool b))):fF C ev f H n sp t d (.unOp .not ty x) (.t (.bool (!b))) []:=λ_ _ _ _=>by
 simp only[bp,evalOp,fL h];cases b<;>rfl
theorem CU {elem:TypeId}{ti:TI}{z:TV}(ht:C.P.ty elem=some ti)(hz:ti.zero=some z)(hl:z.cells.all TV.leaf=true):fF C ev f H n sp t d (.alloc elem) (.ptr (.loc [t]) 0) [(.loc [t],.cells elem z.cells)]:=λ_ _ _ _=>by
 simp only[bp,evalOp,bx,ht,hz,hl,if_true]
theorem mQ {ty:TypeId}{x:Operand}{a v:TV}(h:eZ C n sp x=some a)(hl:loadT C.P H ty a=some v):fF C ev f H n sp t d (.load ty x) v []:=λ_ _ _ _=>by
 simp only[bp,evalOp,fL h,hl,Cj,Option.map_some]
theorem kX {ty:TypeId}{x:Operand}{a:TV}{v:Tree}(h:eZ C n sp x=some a)(hl:loadT C.P H ty a=some (.t v)):fF C ev f H n sp t d (.load ty x) (.t v) []:=mQ h hl
theorem ld {P:j3}{ty:TypeId}{ti:TI}{a v:TV}{cs:List TV}{off:Nat}(ht:P.ty ty=some ti)(hc:xo H a=some (cs,off))(hp:partT ti.agg ti.size cs off=some v):loadT P H ty a=some v:=by
 simp only[loadT,bx,ht,hc,hp]
theorem Zq {P:j3}{ty:TypeId}{ti:TI}{x:TV}{k:Nm}{off:Nat}{g:TypeId}{cs:List TV}(ht:P.ty ty=some ti)(hc:H.get k=some (.cells g cs))(hl:(decide (x.cells.length=ti.size)&&x.cells.all TV.leaf&&decide (off+ti.size<=cs.length))=true):
 storeT P H ty (.ptr k off) x=some [(k,.cells g (dL cs off x.cells))]:=by
 simp only[Bool.and_eq_true,decide_eq_true_eq] at hl
 obtain⟨⟨h1,h2⟩,h3⟩:=hl
 simp only[storeT,bx,ht,h1,h2,hc,h3,and_self,if_true]
theorem pG {ty:TypeId}{x y:Operand}{a v:TV}{u:Heap}(h:eZ C n sp x=some a)(h2:eZ C n sp y=some v)(hl:storeT C.P H ty a v=some u):fF C ev f H n sp t d (.store ty x y) dh u:=λ_ _ _ _=>by
 simp only[bp,evalOp,fL h,fL h2,hl,A1,Option.map_some]
def pH (P:j3)(s i:Nat):Option Nat:=match bx P s with
 | some ti=>match ti.desc with
  | .struct fs=>match fs[i]? with
   |some fd=>match bx P fd.type with
    |some tf=>if tf.size=0 then none else some fd.offset
    |none=>none
   |none=>none
  |_=>none
 |none=>none
theorem eE {s i off:Nat}{x:Operand}{a v:TV}(h:eZ C n sp x=some a)(ho:pH C.P s i=some off)(hp:tq H a off=some v):fF C ev f H n sp t d (.fieldAddr s x i) v []:=λ_ _ _ _=>by
 unfold pH at ho;split at ho<;>try (simp at ho;done)
 rename_i ti L6;split at ho<;>try (simp at ho;done)
 rename_i fs hfs;split at ho<;>try (simp at ho;done)
 rename_i fd hfd;split at ho<;>try (simp at ho;done)
 rename_i tf YS;split at ho<;>try (simp at ho;done)
 rename_i hz;simp at ho;subst ho;simp only[bp,evalOp,fL h,L6,hfs,hfd,YS,if_neg hz,hp,Cj,Option.map_some]
theorem Gu {ty:TypeId}{x i:Operand}{a j v:TV}(h:eZ C n sp x=some a)(hi:eZ C n sp i=some j)(hv:fA C.P H ty a j=some v):fF C ev f H n sp t d (.indexAddr ty x i) v []:=λ_ _ _ _=>by
 simp only[bp,evalOp,fL h,fL hi,hv,Cj,Option.map_some]
theorem aea {ty:TypeId}{x i:Operand}{a j v:TV}(h:eZ C n sp x=some a)(hi:eZ C n sp i=some j)(hv:tA C.P ty a j=some v):fF C ev f H n sp t d (.index ty x i) v []:=λ_ _ _ _=>by
 simp only[bp,evalOp,fL h,fL hi,hv,Cj,Option.map_some]
theorem iU {op:BinOp}{ty r2:TypeId}{x y:Operand}{a b v:TV}(h:eZ C n sp x=some a)(h2:eZ C n sp y=some b)(hv:vK C.P op ty x y a b=some v):fF C ev f H n sp t d (.binOp op ty x y r2) v []:=λ_ _ _ _=>by
 simp only[bp,evalOp,fL h,fL h2,hv,Cj,Option.map_some]
theorem wrap64 {x:Int}(h1:-9223372036854775808<=x)(h2:x<=9223372036854775807):IntKind.i64.wrap x=x:=by
 simp only[IntKind.wrap,IntKind.bits,IntKind.signed];first|omega|(simp;omega)
theorem Js {op:BinOp}{ty r2:TypeId}{x y:Operand}{k:IntKind}{a b:Int}{v:TV}(h:eZ C n sp x=some (.t (.int k a)))(h2:eZ C n sp y=some (.t (.int k b)))(hv:Wx op k a b=some v):fF C ev f H n sp t d (.binOp op ty x y r2) v []:=
 iU h h2 (by simp only[vK,if_true,hv])
theorem pI {ty r2:TypeId}{x y:Operand}{k:IntKind}{a b:Int}(h:eZ C n sp x=some (.t (.int k a)))(h2:eZ C n sp y=some (.t (.int k b))):fF C ev f H n sp t d (.binOp .eql ty x y r2) (.t (.bool (a==b))) []:=Js h h2 rfl
theorem pJ {ty r2:TypeId}{x y:Operand}{k:IntKind}{a b:Int}(h:eZ C n sp x=some (.t (.int k a)))(h2:eZ C n sp y=some (.t (.int k b))):fF C ev f H n sp t d (.binOp .lss ty x y r2) (.t (.bool (decide (a<b)))) []:=Js h h2 rfl
theorem Zr {ty r2:TypeId}{x y:Operand}{k:IntKind}{a b:Int}(h:eZ C n sp x=some (.t (.int k a)))(h2:eZ C n sp y=some (.t (.int k b))):fF C ev f H n sp t d (.binOp .leq ty x y r2) (.t (.bool (decide (a<=b)))) []:=Js h h2 rfl
theorem Qa {ty r2:TypeId}{x y:Operand}{k:IntKind}{a b:Int}(h:eZ C n sp x=some (.t (.int k a)))(h2:eZ C n sp y=some (.t (.int k b))):fF C ev f H n sp t d (.binOp .gtr ty x y r2) (.t (.bool (decide (a>b)))) []:=Js h h2 rfl
theorem Qb {ty r2:TypeId}{x y:Operand}{k:IntKind}{a b:Int}(h:eZ C n sp x=some (.t (.int k a)))(h2:eZ C n sp y=some (.t (.int k b))):fF C ev f H n sp t d (.binOp .geq ty x y r2) (.t (.bool (decide (a>=b)))) []:=Js h h2 rfl
theorem NK {ty r2:TypeId}{x y:Operand}{a b:Int}(h:eZ C n sp x=some (.t (.int .i64 a)))(h2:eZ C n sp y=some (.t (.int .i64 b)))(h3:-9223372036854775808<=a+b)(h4:a+b<=9223372036854775807):fF C ev f H n sp t d (.binOp .add ty x y r2) (.t (.int .i64 (a+b))) []:=
 Js h h2 (by simp only[Wx,wrap64 h3 h4])
theorem ahi {ty r2:TypeId}{x y:Operand}{a b:List UInt8}(h:eZ C n sp x=some (.t (.str a)))(h2:eZ C n sp y=some (.t (.str b))):fF C ev f H n sp t d (.binOp .eql ty x y r2) (.t (.bool (a==b))) []:=iU h h2 rfl
theorem xK {ty:TypeId}{x:Operand}{s:List UInt8}{ti:TI}(h:eZ C n sp x=some (.t (.str s)))(ht:C.P.ty ty=some ti)(hd:ti.desc=.string):fF C ev f H n sp t d (.call ⟨.builtin .len, #[x], #[ty]⟩) (.t (.int .i64 s.length)) []:=λ_ _ _ _=>by
 have h1:kL C (eD n sp) (#[x].toList)=some [.t (.str s)]:=by simp only[kL,fL h]
 simp only[bp,evalOp,h1];delta mZ;simp only[bx,ht,hd]
theorem NL {ty e:TypeId}{x:Operand}{v:TV}{m:Nat}{ti:TI}(h:eZ C n sp x=some v)(ht:C.P.ty ty=some ti)(hd:ti.desc=.slice e)(hl:Bp H v=some m)(h1:∀s,v≠ .t (.str s))(h2:v≠ .t .j4)(h3:∀k,v≠ .map k):
 fF C ev f H n sp t d (.call ⟨.builtin .len, #[x], #[ty]⟩) (.t (.int .i64 m)) []:=λ_ _ _ _=>by
 have h4:kL C (eD n sp) (#[x].toList)=some [v]:=by simp only[kL,fL h]
 simp only[bp,evalOp,h4]
 delta mZ
 simp only[bx,ht,hd]
 cases v with
 |t x=>cases x with
  |str s=>exact absurd rfl (h1 s)
  |j4=>exact absurd rfl h2
  |_=>simp only[hl];rfl
 |map k=>exact absurd rfl (h3 k)
 |_=>simp only[hl];rfl
theorem Jt {ty e:TypeId}{x:Operand}{es:List Tree}{ti:TI}(h:eZ C n sp x=some (.t (.sl es)))(ht:C.P.ty ty=some ti)(hd:ti.desc=.slice e):fF C ev f H n sp t d (.call ⟨.builtin .len, #[x], #[ty]⟩) (.t (.int .i64 es.length)) []:=
 NL h ht hd rfl (λ_=>by simp) (by simp) (λ_=>by simp)
theorem NM {ty e:TypeId}{x:Operand}{k:Nm}{o l:Nat}{ti:TI}(h:eZ C n sp x=some (.ref k o l))(ht:C.P.ty ty=some ti)(hd:ti.desc=.slice e):fF C ev f H n sp t d (.call ⟨.builtin .len, #[x], #[ty]⟩) (.t (.int .i64 l)) []:=
 NL h ht hd rfl (λ_=>by simp) (by simp) (λ_=>by simp)
theorem Tc {ty e:TypeId}{x:Operand}{ti:TI}(h:eZ C n sp x=some .bW)(ht:C.P.ty ty=some ti)(hd:ti.desc=.slice e):fF C ev f H n sp t d (.call ⟨.builtin .len, #[x], #[ty]⟩) (.t (.int .i64 (0:Nat))) []:=
 NL h ht hd rfl (λ_=>by simp) (by simp) (λ_=>by simp)
theorem Td {ty e:TypeId}{x:Operand}{es:List Tree}{ti:TI}(h:eZ C n sp x=some (.qd es))(ht:C.P.ty ty=some ti)(hd:ti.desc=.slice e):fF C ev f H n sp t d (.call ⟨.builtin .len, #[x], #[ty]⟩) (.t (.int .i64 es.length)) []:=
 NL h ht hd rfl (λ_=>by simp) (by simp) (λ_=>by simp)
theorem Mj {b:Builtin}{args:Array Operand}{ats:Array TypeId}{vs:List TV}{v:TV}{u:Heap}(h:tM C n sp args.toList=some vs)(hv:mZ C (.loc [t]) H b ats.toList vs=some (v,u)):fF C ev f H n sp t d (.call ⟨.builtin b,args,ats⟩) v u:=λ_ _ _ _=>by
 simp only[bp,evalOp,Jq h,hv]
theorem Ju {ty elem:TypeId}{ti te:TI}{x i:Operand}{es:List Tree}{k:IntKind}{m:Nat}{e:Tree}(h:eZ C n sp x=some (.t (.sl es)))(hi:eZ C n sp i=some (.t (.int k (m:Int))))(ht:C.P.ty ty=some ti)(hd:ti.desc=.slice elem)
 (hte:C.P.ty elem=some te)(he:es[m]?=some e)(hc:e.cells.length=te.size):fF C ev f H n sp t d (.indexAddr ty x i) (.lR e.cells 0) []:=
 Gu h hi (by
  have h1:iA (.t (.int k (m:Int)))=some m:=by simp[iA]
  simp only[fA,bx,ht,h1,hd,hte,he,hc,if_true])
theorem jN {ty:TypeId}{ti:TI}{x i:Operand}{s:List UInt8}{k:IntKind}{m:Nat}{b:UInt8}(h:eZ C n sp x=some (.t (.str s)))(hi:eZ C n sp i=some (.t (.int k (m:Int))))(ht:C.P.ty ty=some ti)(hd:ti.desc=.string)
 (he:s[m]?=some b):fF C ev f H n sp t d (.index ty x i) (.t (.int .u8 b.toNat)) []:=
 aea h hi (by
  have h1:iA (.t (.int k (m:Int)))=some m:=by simp[iA]
  simp only[tA,bx,ht,h1,hd,he])
theorem Te {fo:Operand}{args:Array Operand}{ats:Array TypeId}{g:FuncId}{atL:List TV}{v:TV}{u:Heap}(hc:lX C (eD n sp) ⟨.value fo,args,ats⟩=some (g,atL))(he:uX ev H g atL t=some (.val v u))(hk:C.lW f (d.getD 255)=false:=by rfl):fF C ev f H n sp t d (.call ⟨.value fo,args,ats⟩) v u:=λ_ _ _ _=>by
 simp only[bp,hc,Pu,hk,he]
theorem zj {g:FuncId}{args:Array Operand}{ats:Array TypeId}{atL:List TV}(h:tM C n sp args.toList=some atL):lX C (eD n sp) ⟨.value (.func g),args,ats⟩=some (g,atL):=by
 simp only[lX,dw,Jq h]
theorem vP (H:Heap):∀(ts:List Tree),oy H (ts.map .t)=(ts.map .t,[])
 | []=>rfl
 |x::r=>by
  simp only[List.map_cons,oy,vP H r]
  rfl
theorem vg:∀(ts:List Tree),TV.kV (ts.map .t)=[]
 | []=>rfl
 |x::r=>by simp only[List.map_cons,TV.kV,TV.names,vg r,List.append_nil]
theorem th (σ:Nm->Option Nm):∀(ts:List Tree),TV.yN σ (ts.map .t)=some (ts.map .t)
 | []=>rfl
 |x::r=>by simp only[List.map_cons,TV.yN,TV.rn,th σ r]
theorem Gv {g:FuncId}{ts:List Tree}{x:Tree}(he:ev g (ts.map .t) []=some (.ret (.t x) [] [])):uX ev H g (ts.map .t) t=some (.val (.t x) []):=by
 unfold uX;simp only[Pt,vP,vg];have h1:reach (H.eY (eO H [])) iI [] []=some []:=rfl;rw[h1];simp only[List.nodup_nil,if_true,th,jM,he];rfl
theorem iB {g:FuncId}{args:Array Operand}{ats:Array TypeId}{ts:List Tree}{x:Tree}(h:tM C n sp args.toList=some (ts.map .t))(he:ev g (ts.map .t) []=some (.ret (.t x) [] []))(hk:C.lW f (d.getD 255)=false:=by rfl):fF C ev f H n sp t d (.call ⟨.value (.func g),args,ats⟩) (.t x) []:=
 Te (zj h) (Gv he) hk
end
end Go.Abs
end
noncomputable section
namespace Go.Abs
open Go
section
variable {C:ez}{ev:bt}{f:FuncId}
theorem nY {s s':List TV}:∀{l:List Operand},(∀x∈l,dw C s' x=dw C s x)->kL C s' l=kL C s l
 | [],_=>rfl
 |x::r,h=>by
  simp only[kL,h x List.mem_cons_self,nY (l:=r) λy hy=>h y (List.mem_cons_of_mem _ hy)]
theorem xL {s s':List TV}:∀{l:List (Nat×Operand)},(∀x∈l.map (·.2),dw C s' x=dw C s x)->tC C s' l=tC C s l
 | [],_=>rfl
 |(i,x)::r,h=>by
  simp only[tC,h x (by simp),xL (l:=r) λy hy=>h y (by simp only[List.map_cons,List.mem_cons];exact .inr hy)]
theorem xM {s s':List TV}{o:Option Operand}(h:∀x∈o.toArray.toList,dw C s' x=dw C s x):yT C s' o=yT C s o:=by
 cases o with
 |none=>rfl
 |some x=>simp only[yT,h x (by simp)]
set_option maxHeartbeats 1000000 in
theorem NN {nm:Nm}{H:Heap}{s s':List TV}{o:Oper}(h:∀x∈o.op.operands.toList,dw C s' x=dw C s x):evalOp C f nm H s' o=evalOp C f nm H s o:=by
 obtain⟨d,op,ty,pos,af,g⟩:=o;cases op with
 |move x=>simp only[evalOp,h x (by simp[Op.operands])]
 |assign x=>simp only[evalOp,h x (by simp[Op.operands])]
 |pick c a b=>simp only[evalOp,h c (by simp[Op.operands]),h a (by simp[Op.operands]),h b (by simp[Op.operands])]
 |alloc t=>rfl
 |box t x=>simp only[evalOp,h x (by simp[Op.operands])]
 |build t ps=>
  have:=xL (C:=C) (s:=s) (s':=s') (l:=ps.toList) (λx hx=>h x (by simpa [Op.operands] using hx))
  simp only[evalOp,this]
 |buildSlice t n ps=>
  have:=xL (C:=C) (s:=s) (s':=s') (l:=ps.toList) (λx hx=>h x (by simpa [Op.operands] using hx))
  simp only[evalOp,this]
 |insert t m k v=>simp only[evalOp,h m (by simp[Op.operands]),h k (by simp[Op.operands]),h v (by simp[Op.operands])]
 |load t x=>simp only[evalOp,h x (by simp[Op.operands])]
 |store t a v=>simp only[evalOp,h a (by simp[Op.operands]),h v (by simp[Op.operands])]
 |nilCheck x=>simp only[evalOp,h x (by simp[Op.operands])]
 |binOp o t a v r=>simp only[evalOp,h a (by simp[Op.operands]),h v (by simp[Op.operands])]
 |unOp o t x=>simp only[evalOp,h x (by simp[Op.operands])]
 |convert a b x=>simp only[evalOp,h x (by simp[Op.operands])]
 |makeInterface t x=>simp only[evalOp,h x (by simp[Op.operands])]
 |makeFunc fn a b=>
  have h1:=nY (C:=C) (s:=s) (s':=s') (l:=a.toList) (λx hx=>h x (by simp only[Op.operands,Array.toList_append,List.mem_append];exact .inl hx))
  have h2:=nY (C:=C) (s:=s) (s':=s') (l:=b.toList) (λx hx=>h x (by simp only[Op.operands,Array.toList_append,List.mem_append];exact .inr hx))
  simp only[evalOp,h1,h2]
 |makeMap t r=>
  have:=xM (C:=C) (s:=s) (s':=s') (o:=r) (λx hx=>h x (by simpa [Op.operands] using hx))
  simp only[evalOp,this]
 |makeSlice t a v=>simp only[evalOp,h a (by simp[Op.operands]),h v (by simp[Op.operands])]
 |slice t x l m k=>
  have h1:=xM (C:=C) (s:=s) (s':=s') (o:=l) (λy hy=>h y (by simp only[Op.operands,Array.toList_append,List.mem_append];exact .inl (.inl (.inr hy))))
  have h2:=xM (C:=C) (s:=s) (s':=s') (o:=m) (λy hy=>h y (by simp only[Op.operands,Array.toList_append,List.mem_append];exact .inl (.inr hy)))
  have h3:=xM (C:=C) (s:=s) (s':=s') (o:=k) (λy hy=>h y (by simp only[Op.operands,Array.toList_append,List.mem_append];exact .inr hy))
  simp only[evalOp,h x (by simp[Op.operands]),h1,h2,h3]
 |fieldAddr t x i=>simp only[evalOp,h x (by simp[Op.operands])]
 |field t x i=>simp only[evalOp,h x (by simp[Op.operands])]
 |indexAddr t a v=>simp only[evalOp,h a (by simp[Op.operands]),h v (by simp[Op.operands])]
 |index t a v=>simp only[evalOp,h a (by simp[Op.operands]),h v (by simp[Op.operands])]
 |lookup t a v ok=>simp only[evalOp,h a (by simp[Op.operands]),h v (by simp[Op.operands])]
 |mapUpdate t m k v=>simp only[evalOp,h m (by simp[Op.operands]),h k (by simp[Op.operands]),h v (by simp[Op.operands])]
 |mapEntry t m k=>simp only[evalOp,h m (by simp[Op.operands]),h k (by simp[Op.operands])]
 |entryStore t m k v=>simp only[evalOp,h m (by simp[Op.operands]),h k (by simp[Op.operands]),h v (by simp[Op.operands])]
 |typeAssert x a b ok=>simp only[evalOp,h x (by simp[Op.operands])]
 |extract x i=>simp only[evalOp,h x (by simp[Op.operands])]
 | call c=>
  obtain⟨ce,args,ats⟩:=c
  cases ce with
  |builtin b=>
   have h1:=nY (C:=C) (s:=s) (s':=s') (l:=args.toList) (λx hx=>h x (by simp only[Op.operands,Call.operands,Array.toList_append,List.mem_append];exact .inr hx))
   simp only[evalOp,h1]
  |value fo=>rfl
  |invoke r m=>rfl
 |_=>rfl
theorem Qc {H:Heap}{s s':List TV}{t:Nat}{o:Oper}(h:∀x∈o.op.operands.toList,dw C s' x=dw C s x):bp C ev f H s' t o=bp C ev f H s t o:=by
 have he:=NN (C:=C) (f:=f) (nm:=.loc [t]) (H:=H) h;obtain⟨d,op,ty,pos,af,g⟩:=o;cases op with
 |panic x=>simp only[bp,h x (by simp[Op.operands])]
 | call c=>
  obtain⟨ce,args,ats⟩:=c
  cases ce with
  |value fo=>
   have h1:=nY (C:=C) (s:=s) (s':=s') (l:=args.toList) (λx hx=>h x (by simp only[Op.operands,Call.operands,Array.toList_append,List.mem_append];exact .inr hx))
   have h2:dw C s' fo=dw C s fo:=h fo (by simp[Op.operands,Call.operands])
   simp only[bp,lX,h1,h2]
  |invoke r nm=>
   have h1:=nY (C:=C) (s:=s) (s':=s') (l:=args.toList) (λx hx=>h x (by simp only[Op.operands,Call.operands,Array.toList_append,List.mem_append];exact .inr hx))
   have h2:dw C s' r=dw C s r:=h r (by simp[Op.operands,Call.operands])
   simp only[bp,HO,h1,h2]
  |_=>simp only[bp,he]
 |_=>simp only[bp,he]
theorem Zs {L:List Nat}{s:List TV}{x:Operand}(h:∀t,x=.tmp t->t∈L):dw C (kM L 0 s) x=dw C s x:=by
 cases x with
 |tmp t=>
  have ht:=h t rfl
  simp only[dw,Nf,List.getD_eq_getElem?_getD,wA,Nat.zero_add,if_pos ht]
 |_=>rfl
theorem Jv {ops:Array Oper}{H:Heap}{s:List TV}{t:Nat}{o:Oper}:bp C ev f H (kM (o.looksAt ops) 0 s) t o=bp C ev f H s t o:=
 Qc λx hx=>Zs λt e=>by
  subst e;unfold Oper.looksAt;refine List.mem_append_left _ (List.mem_filterMap.2 ⟨_,hx,rfl⟩)
theorem xN {ops:Array Oper}{s:List TV}{o:Oper}:eT ops (kM (o.looksAt ops) 0 s) o=eT ops s o:=by
 unfold eT;cases hg:o.guard with
 |none=>rfl
 | some g=>
  obtain⟨j,want⟩:=g
  simp only[]
  cases hd:(ops[j]?).bind (·.dst) with
  |none=>rfl
  | some d=>
   have hm:d∈o.looksAt ops:=by
    unfold Oper.looksAt
    refine List.mem_append_right _ ?_
    rw[hg]
    simp[hd]
   simp only[wA,Nat.zero_add,if_pos hm]
def yP (C:ez)(ev:bt)(f:FuncId)(ops:Array Oper)(bs:List Nat)(t0 i:Nat)(l:List Oper)(n:Nat)(sp:List (Nat×TV))(H:Heap)(K:List Rec->List (Nat×TV)->Heap->Prop):Prop:=
 ∃recs sp' H',Hj C ev f ops bs t0 i l ⟨eD n sp,H⟩ none=some recs/\Cs l recs ⟨eD n sp,H⟩=⟨eD n sp',H'⟩/\(∀j,lY j recs=none)/\K recs sp' H'
section
variable {ops:Array Oper}{bs:List Nat}{t0 i n:Nat}{r:List Oper}{sp:List (Nat×TV)}{H:Heap}{K:List Rec->List (Nat×TV)->Heap->Prop}
theorem yP.nil (h:K [] sp H):yP C ev f ops bs t0 i [] n sp H K:=⟨[],sp,H,rfl,rfl,λ_=>rfl,h⟩
theorem yP.step {o:Oper}{fp:List Nm}{v:TV}{u:Heap}(hw:eT ops (eD n sp) o=some true)(U6:SJ C H (eD n sp) o=some fp)(hx:bp C ev f (oD H fp) (eD n sp) (t0+i) o=some (.val v u))
 (k:yP C ev f ops bs t0 (i+1) r n (ail sp o.dst v) (H.eY u) λrs sp' H'=>K (⟨fp,.val v u⟩::rs) sp' H'):yP C ev f ops bs t0 i (o::r) n sp H K:=by
 obtain⟨rs,sp',H',h1,h2,h3,h4⟩:=k
 refine⟨⟨fp,.val v u⟩::rs,sp',H', ?_, ?_,λj=> ?_,h4⟩
 ·simp only[Hj,YF,xN,hw,U6,Jv,hx,Option.isSome_none,Bool.false_eq_true,decide_false,Bool.false_and,if_false,xw.after,gp,mh,h1]
 ·simp only[Cs,xw.after,gp,h2]
 ·exact h3 (j+1)
theorem yP.skip {o:Oper}(hw:eT ops (eD n sp) o=some false)(k:yP C ev f ops bs t0 (i+1) r n (ail sp o.dst dh) H λrs sp' H'=>K (⟨[],.unwanted⟩::rs) sp' H'):yP C ev f ops bs t0 i (o::r) n sp H K:=by
 obtain⟨rs,sp',H',h1,h2,h3,h4⟩:=k;refine⟨⟨[],.unwanted⟩::rs,sp',H', ?_, ?_,λj=> ?_,h4⟩
 ·simp only[Hj,YF,xN,hw,xw.after,gp,mh,h1]
 ·simp only[Cs,xw.after,gp,h2]
 ·exact h3 (j+1)
theorem yP.go {d:Tmp}{op:Op}{ty pos af}{fp:List Nm}{v:TV}{u:Heap}(U6:SJ C H (eD n sp) ⟨some d,op,ty,pos,af,none⟩=some fp)(h:fF C ev f (oD H fp) n sp (t0+i) (some d) op v u)
 (k:yP C ev f ops bs t0 (i+1) r n ((d,v)::sp) (H.eY u) λrs sp' H'=>K (⟨fp,.val v u⟩::rs) sp' H'):yP C ev f ops bs t0 i (⟨some d,op,ty,pos,af,none⟩::r) n sp H K:=
 yP.step rfl U6 (h _ _ _ _) k
theorem yP.Sz {op:Op}{ty pos af}{fp:List Nm}{v:TV}{u:Heap}(U6:SJ C H (eD n sp) ⟨none,op,ty,pos,af,none⟩=some fp)(h:fF C ev f (oD H fp) n sp (t0+i) none op v u)
 (k:yP C ev f ops bs t0 (i+1) r n sp (H.eY u) λrs sp' H'=>K (⟨fp,.val v u⟩::rs) sp' H'):yP C ev f ops bs t0 i (⟨none,op,ty,pos,af,none⟩::r) n sp H K:=
 yP.step rfl U6 (h _ _ _ _) k
theorem yP.yes {d:Tmp}{op:Op}{ty pos af}{j gd:Nat}{w b:Bool}{fp:List Nm}{v:TV}{u:Heap}(hj:(ops[j]?).bind (·.dst)=some gd)(hn:Nat.blt gd n=true)(hl:look sp gd=.t (.bool b))(hb:(b==w)=true)
 (U6:SJ C H (eD n sp) ⟨some d,op,ty,pos,af,some (j,w)⟩=some fp)(h:fF C ev f (oD H fp) n sp (t0+i) (some d) op v u)
 (k:yP C ev f ops bs t0 (i+1) r n ((d,v)::sp) (H.eY u) λrs sp' H'=>K (⟨fp,.val v u⟩::rs) sp' H'):yP C ev f ops bs t0 i (⟨some d,op,ty,pos,af,some (j,w)⟩::r) n sp H K:=
 yP.step (by rw[mM rfl hj hn,hl];simp only[hb]) U6 (h _ _ _ _) k
theorem yP.no {d:Tmp}{op:Op}{ty pos af}{j gd:Nat}{w b:Bool}(hj:(ops[j]?).bind (·.dst)=some gd)(hn:Nat.blt gd n=true)(hl:look sp gd=.t (.bool b))(hb:(b==w)=false)
 (k:yP C ev f ops bs t0 (i+1) r n ((d,dh)::sp) H λrs sp' H'=>K (⟨[],.unwanted⟩::rs) sp' H'):yP C ev f ops bs t0 i (⟨some d,op,ty,pos,af,some (j,w)⟩::r) n sp H K:=
 yP.skip (by rw[mM rfl hj hn,hl];simp only[hb]) k
theorem yP.none {d:Tmp}{op:Op}{ty pos af}{j gd:Nat}{w:Bool}(hj:(ops[j]?).bind (·.dst)=some gd)(hn:Nat.blt gd n=true)(hl:look sp gd=dh)
 (k:yP C ev f ops bs t0 (i+1) r n ((d,dh)::sp) H λrs sp' H'=>K (⟨[],.unwanted⟩::rs) sp' H'):yP C ev f ops bs t0 i (⟨some d,op,ty,pos,af,some (j,w)⟩::r) n sp H K:=
 yP.skip (by rw[mM rfl hj hn,hl];rfl) k
end
theorem AW.draw {id:Nat}{ops:Array Oper}{n t:Nat}{sp:List (Nat×TV)}{H:Heap}{Q:aS->St->Prop}(hm:C.P.prog.follows .mixedOrders=true)(aK:aD C ev)
 (h:yP C ev f ops (nI ops.toList []) t 0 ops.toList n sp H λrecs sp' H'=>nW ops ops.toList recs (nI ops.toList []) ops.toList recs 0=true/\xy 0 ops.toList=true/\Q .normal ⟨eD n sp',H',t+ops.size⟩):
 AW C (.region id ops true) ⟨eD n sp,H,t⟩ Q:=by
 obtain⟨recs,sp',H',h1,h2,h3,h4,h5,h6⟩:=h
 refine AW.drawn (ev:=ev) (f:=f) hm aK (e:=.normal) (st':=⟨eD n sp',H',t+ops.size⟩) ?_ h6
 unfold Ak
 simp only[h1,h4,h5,and_self,if_true,h3,h2]
theorem iN.Xe {ops:Array Oper}{Q:aS->St->Prop}{n t:Nat}{sp:List (Nat×TV)}{H:Heap}{r:List Oper}{d:Tmp}{ty r2:TypeId}{x y:Operand}{tt pos af}{es:List Tree}{ti:TI}{e:TypeId}
 (hx:eZ C n sp x=some (.t (.sl es)))(hy:eZ C n sp y=some .bW)(ht:C.P.ty ty=some ti)(hd:ti.desc=.slice e)
 (k:∀b:Bool,(es≠ []->b=false)->iN C ops r ⟨eD n ((d,.t (.bool b))::sp),H,t+1⟩ Q):iN C ops (⟨some d,.binOp .eql ty x y r2,tt,pos,af,none⟩::r) ⟨eD n sp,H,t⟩ Q:=by
 intro G0 w0 G w a h0 hs hst R hR
 have h1:=cK hst.slots hst.kg (fL hx)
 have h2:=cK hst.slots hst.kg (fL hy)
 obtain⟨_,_,hu,_⟩:=bS (show bx C.P ty=some ti from ht)
 rw[hd] at hu
 obtain⟨ad,len,cap,ep,hne⟩:∃ad len cap,a.eval x=.slice ad len cap/\(es≠ []->ad.isNone=false):=by
  generalize a.eval x=p at h1;cases h1 with|t _ _ h1=>cases h1 with
   |Es ad cap=>exact⟨_,_,_,rfl,λh=>absurd rfl h⟩
   |sl=>exact⟨_,_,_,rfl,λ_=>rfl⟩
 have eq:a.eval y=.slice none 0 0:=by
  generalize a.eval y=q at h2;cases h2;rfl
 have hrun:=(iw (x:=x) (y:=y) (p:=.slice ad len cap) (q:=.slice none 0 0) (C:=C) (w:=w) (t:=ty) (by intro z;simp) (by simp) rfl rfl (Cx hu ad len cap 0 0)).1
 have hop:eu C.P (.loc [t]) ⟨some d,.binOp .eql ty x y r2,tt,pos,af,none⟩ a w G (.t (.bool ad.isNone)) []:=
  eu.quiet hst.wf (by simp only[execOp];rw[ep,eq];simp only[Sem.run_bind] at hrun ⊢;rw[hrun];rfl) (.t _ _ (.bool _))
 have kk:=k ad.isNone hne
 refine wpList_step λK hK=> ?_
 rw[jC (G:=G) (show eT ops (eD n sp) ⟨some d,.binOp .eql ty x y r2,tt,pos,af,none⟩=some true from rfl) hst.slots]
 simp only[if_true]
 refine hop.exec.wp ng.no (λz w' hr=> ?_) (λch w' hr=> ?_)
 ·obtain⟨x',G',e1,hs',mX,hv⟩:=hr;simp at e1;subst e1;have:=hst.op (some d) hs' mX hv;rw[gp] at this;exact hK _ _ (kk G0 w0 G' w' _ h0 (ei.comp hs hs'.any) this R λe st' _ _ _ h1 h2=>hR _ _ _ _ _ h1 (Good.Jk (put_defers _ _ _) h2))
 ·obtain⟨x',G',e1,_⟩:=hr;simp at e1
def xO (C:ez)(fn:Func)(n:Nat)(st:St):Option bh:=
 match l5 C st fn.results.toList with
 |none=>none
 | some vs=>match tE st.H 0 n with
  |none=>none
  |some os=>match reach st.H iI [] ((Ct vs).names++os.flatMap aP.names) with
   |none=>none
   |some R=>(o4 st.H R).map λh=>.ret (Ct vs) os h
theorem BF {fn:Func}{n:Nat}{st:St}{a:Act}{r:bh}{G G0:Gh}{w w0:World}(h:xO C fn n st=some r)(hs:ei G0 w0 G w)(hst:yO C G w st a):
 ∃v,(results fn a.tmps).run C.P w=.ok v w/\yH G0 w0 n r (.returned v) w:=by
 unfold xO at h
 split at h
 ·simp at h
 rename_i vs hvs
 obtain⟨v,hv,hr⟩:=Jg hst hvs
 refine⟨v,hv, ?_⟩
 split at h
 ·simp at h
 rename_i os hos
 split at h
 ·simp at h
 rename_i R hR
 cases Y9:o4 st.H R with
 |none=>rw[Y9] at h;simp at h
 | some nw=>
   rw[Y9] at h
   simp only[Option.map_some,Option.some.injEq] at h
   subst h
   obtain⟨e1,e2⟩:=Gq hos
   refine⟨v,G,rfl,hs,e1,λi o ho=> ?_,λk o hm=> ?_,hr⟩
   · have:=e2 i o ho
     rw[Nat.zero_add] at this
     exact hst.heap _ _ this
   · obtain⟨e3,e4⟩:=zg Y9 k o hm
     exact⟨e3,hst.heap _ _ e4⟩
def q8 (C:ez)(fn:Func)(n:Nat)(r:bh):aS->St->Prop
 |.normal,st=>finish C fn n st=some r\/xO C fn n st=some r
 |.ret,st=>finish C fn n st=some r\/xO C fn n st=some r
 |.panic v,st=>v.names.any Nm.jf=false/\r=.panic v (uY st.H 0 n)
 |_,_=>False
theorem aim {f:FuncId}{fn:Func}{body:Code}{args:List TV}{bu:List aP}{r:bh}(NI:C.P.fn f=some fn)(hbody:fn.body=some body)(hname:fn.name≠ "runtime.NumGoroutine")
 (h:AW C body ⟨args++List.replicate (fn.ntmps - args.length) dh,dz 0 bu,0⟩ (q8 C fn bu.length r)):ai C f args bu r:=by
 intro G w vs hw hg had hH hv
 have hfn:=C.P.YB _ _ NI
 have hst:yO C G w ⟨args++List.replicate (fn.ntmps - args.length) dh,dz 0 bu,0⟩ {tmps:=vs.toArray++Array.replicate (fn.ntmps - vs.toArray.size) undef,defers:=[]}:=by
  refine⟨hw,hg, ?_,hH,λp hp=>absurd hp (had.2 p)⟩;have e:(vs.toArray++Array.replicate (fn.ntmps - vs.toArray.size) undef).toList=vs++List.replicate (fn.ntmps - args.length) undef:=by simp[hv.1]
  unfold SR;rw[e];refine ec.append hv ⟨by simp,λj c u hc hu=> ?_⟩;rw[List.getElem?_replicate] at hc hu;by_cases hl:j<fn.ntmps - args.length
  ·rw[if_pos hl] at hc hu;simp at hc hu;subst hc;subst hu;exact q5 G
  ·rw[if_neg hl] at hc;simp at hc
 have fin:∀{G':Gh} {w':World} {st:St} {a':Act},(finish C fn bu.length st=some r\/xO C fn bu.length st=some r)->ei G w G' w'->yO C G' w' st a'->∃v,(results fn a'.tmps).run C.P w'=.ok v w'/\yH G w bu.length r (.returned v) w':=
  λh hs hst=>h.elim (λh=>s9 h hs hst) (λh=>BF h hs hst)
 refine .inl ⟨?_,calls_of_wp hfn hbody ?_⟩
 ·simp[callFunc,hfn,hname,hbody]
 ·refine wp_mono (h G w G w _ had.2 (Step.refl hw _ _) hst) λex a' w' ⟨e,st,hq,hgd⟩=> ?_
  cases e with
  | normal=>
    obtain⟨G',hs,hd,rfl,qy⟩:=hgd
    exact⟨hd,fin hq hs qy⟩
  | ret=>
    obtain⟨G',hs,hd,rfl,qy⟩:=hgd
    exact⟨hd,fin hq hs qy⟩
  |exit id=>exact hq.elim
  | panic v=>
    obtain⟨_,rfl⟩:=hq
    obtain⟨G',hs,hd,x,rfl,hx,hH',_⟩:=hgd
    refine⟨hd,x,G',rfl,hs,λi o ho=> ?_,hx⟩
    have:=xH ho
    rw[Nat.zero_add] at this
    exact hH' _ _ this
theorem qC {f:FuncId}{fn:Func}{body:Code}{args:List TV}{bu:List aP}{r:bh}(n k:Nat)(NI:C.P.fn f=some fn)(hbody:fn.body=some body)(hname:fn.name≠ "runtime.NumGoroutine")
 (hn:fn.ntmps=n)(ha:args.length=k)(hk:k<=n)(h:AW C body ⟨eD n (BE 0 args),dz 0 bu,0⟩ (q8 C fn bu.length r)):ai C f args bu r:=by
 refine aim NI hbody hname (AW.re (Re.start args (fn.ntmps - args.length) _ _) ?_)
 rw[show args.length+(fn.ntmps - args.length)=n by omega]
 exact h
end
end Go.Abs
end
noncomputable section
namespace Go.Abs
open Go
def zk:Tree->Bool
 |.agg _=>true
 |_=>false
def EOk (ag:Bool)(sz:Nat)(e:Tree):Prop:=e.cells.length=sz/\e.cells.all Tree.leaf=true/\zk e=ag
def eP (ag:Bool)(sz:Nat)(es:List Tree):Prop:=∀e∈es,EOk ag sz e
theorem eP.nil {ag:Bool}{sz:Nat}:eP ag sz []:=λ_ h=>by simp at h
theorem eP.cons {ag:Bool}{sz:Nat}{e:Tree}{es:List Tree}(h:EOk ag sz e)(hs:eP ag sz es):eP ag sz (e::es):=λx hx=>by
 rcases List.mem_cons.1 hx with rfl|hx
 ·exact h
 ·exact hs x hx
theorem eP.append {ag:Bool}{sz:Nat}{a b:List Tree}(h:eP ag sz a)(k:eP ag sz b):eP ag sz (a++b):=λx hx=>(List.mem_append.1 hx).elim (h x) (k x)
theorem eP.take {ag:Bool}{sz:Nat}{a:List Tree}(h:eP ag sz a)(n:Nat):eP ag sz (a.take n):=λx hx=>h x (List.mem_of_mem_take hx)
theorem eP.lens {ag:Bool}{sz:Nat}{es:List Tree}(h:eP ag sz es):∀e∈es,e.cells.length=sz:=λe he=>(h e he).1
theorem eP.Av {ag:Bool}{sz:Nat}{es:List Tree}(h:eP ag sz es):((flat es).map TV.t).all TV.leaf=true:=by
 rw[List.all_eq_true];intro v hv;obtain⟨x,hx,rfl⟩:=List.mem_map.1 hv;obtain⟨e,he,hxe⟩:=List.mem_flatMap.1 hx;exact List.all_eq_true.1 (h e he).2.1 x hxe
theorem eP.length {ag:Bool}{sz:Nat}{es:List Tree}(h:eP ag sz es):((flat es).map TV.t).length=es.length*sz:=by
 rw[List.length_map,fB h.lens]
theorem Xf {e:Tree}(h:zk e=true):e=.agg e.cells:=by
 cases e<;>simp_all [zk,Tree.cells]
theorem one_cell {e:Tree}(h:zk e=false):e.cells=[e]:=by
 cases e<;>simp_all [zk,Tree.cells]
theorem Jw {ag:Bool}{sz:Nat}(hz:0<sz):∀{es:List Tree},eP ag sz es->chunk ag sz es.length (flat es)=some es
 | [],_=>rfl
 | e::r,h=>by
  obtain⟨h1,h2,h3⟩:=h e List.mem_cons_self
  have ih:=Jw hz (es:=r) λx hx=>h x (List.mem_cons_of_mem _ hx)
  have hd:(flat (e::r)).drop sz=flat r:=by
   simp only[flat,List.flatMap_cons]
   rw[← h1,List.drop_left]
  have ht:(flat (e::r)).take sz=e.cells:=by
   simp only[flat,List.flatMap_cons]
   rw[← h1,List.take_left]
  have hl:sz<=(flat (e::r)).length:=by
   simp only[flat,List.flatMap_cons,List.length_append]
   omega
  simp only[List.length_cons,chunk,if_pos hl,hd,ih,ht]
  cases ag with
  |true=>simp only[if_true];rw[← Xf h3]
  |false=>
   have hc:=one_cell h3
   have e1:sz=1:=by rw[← h1,hc];rfl
   have hlf:e.leaf=true:=by rw[hc] at h2;simpa using h2
   have ef:flat (e::r)=e::flat r:=by simp only[flat,List.flatMap_cons,hc,List.singleton_append]
   simp only[Bool.false_eq_true,if_false,ef,e1,hlf,and_self,if_true]
theorem Jx (g:TV->Option (Tree×List Nm))(hg:∀x,g (.t x)=some (x,[])):∀(ts:List Tree),Cq g (ts.map .t)=some (ts,[])
 | []=>rfl
 |x::r=>by simp only[List.map_cons,Cq,hg,Jx g hg r,List.nil_append]
theorem Zt (H:Heap)(n:Nat)(x:Tree):sF H n (.t x)=some (x,[]):=by cases n<;>rfl
theorem Va {H:Heap}{n:Nat}{k:Nm}{g:TypeId}{ag fz:Bool}{sz len:Nat}{es:List Tree}(hk:H.get k=some (.arr (g,ag) sz fz ((flat es).map .t)))(hu:eP ag sz es)(hz:0<sz)(hl:len=es.length):
 sF H (n+1) (.ref k 0 len)=some (.sl es,[k]):=by
 subst hl
 have hc:0<sz/\(0+es.length) *sz=((flat es).map TV.t).length:=⟨hz,by rw[hu.length,Nat.zero_add]⟩
 have e1:(((flat es).map TV.t).drop (0*sz)).take (es.length*sz)=(flat es).map .t:=by
  rw[Nat.zero_mul,List.drop_zero,List.take_of_length_le (by rw[hu.length];exact Nat.le_refl _)]
 simp only[sF,hk,if_pos hc,e1,Jx _ (Zt H n),Jw hz hu]
section
variable {C:ez}{ev:bt}{f:FuncId}{n:Nat}{sp:List (Nat×TV)}{H:Heap}{t:Nat}{d:Option Tmp}
theorem sta {P:j3}{ty:TypeId}{ti:TI}{x:TV}{k:Nm}{off:Nat}{g:TypeId×Bool}{cg:Nat}{cs:List TV}(ht:P.ty ty=some ti)(hk:H.get k=some (.arr g cg false cs))(hl:(decide (x.cells.length=ti.size)&&x.cells.all TV.leaf)=true)(ho:off+ti.size<=cs.length):
 storeT P H ty (.lQ k cs.length off) x=some [(k,.arr g cg false (dL cs off x.cells))]:=by
 simp only[Bool.and_eq_true,decide_eq_true_eq] at hl
 simp only[storeT,bx,ht,hl.1,hl.2,hk,ho,and_self,if_true]
theorem Mk {sz:Nat}{es:List Tree}{i j m:Nat}{e:Tree}(hu:∀e∈es,e.cells.length=sz)(he:es[i]?=some e)(hj:j+m<=sz):((flat es).drop (i*sz+j)).take m=(e.cells.drop j).take m:=by
 refine List.ext_getElem? λq=> ?_
 by_cases hq:q<m
 ·rw[List.getElem?_take_of_lt hq,List.getElem?_take_of_lt hq,List.getElem?_drop,List.getElem?_drop,Nat.add_assoc,y7 hu he (by omega)]
 ·rw[List.getElem?_eq_none (by rw[List.length_take];omega),List.getElem?_eq_none (by rw[List.length_take];omega)]
theorem Qd:∀(ts:List Tree),allT (ts.map .t)=some ts
 | []=>rfl
 |x::r=>by simp only[List.map_cons,allT,Qd r]
theorem Xg (ts:List Tree):AZ (ts.map .t)=.t (.agg ts):=by simp only[AZ,Qd]
theorem kC {sz:Nat}{es:List Tree}{i j m:Nat}{e:Tree}(hu:∀e∈es,e.cells.length=sz)(he:es[i]?=some e)(hj:j+m<=sz):partT true m ((flat es).map .t) (i*sz+j)=some (.t (.agg ((e.cells.drop j).take m))):=by
 have hi:i<es.length:=(List.getElem?_eq_some_iff.1 he).1;have hle:i*sz+j+m<=((flat es).map TV.t).length:=by
  rw[List.length_map,fB hu];have:(i+1) *sz<=es.length*sz:=Nat.mul_le_mul_right _ hi;rw[Nat.succ_mul] at this;omega
 simp only[partT,if_true,if_pos hle];rw[← List.map_drop,← List.map_take,Mk hu he hj,Xg]
theorem nZ {sz:Nat}{es:List Tree}{i j:Nat}{e c:Tree}(hu:∀e∈es,e.cells.length=sz)(he:es[i]?=some e)(hc:e.cells[j]?=some c):partT false 1 ((flat es).map .t) (i*sz+j)=some (.t c):=by
 have hj:j<sz:=by rw[← hu e (List.mem_of_getElem? he)];exact(List.getElem?_eq_some_iff.1 hc).1
 simp only[partT,Bool.false_eq_true,if_false,List.getElem?_map,y7 hu he hj,hc,Option.map_some]
theorem Zu {cs:List TV}{off:Nat}{vs:List TV}(h:(cs.drop off).take vs.length=vs):dL cs off vs=cs:=by
 unfold dL;conv=>rhs;rw[← List.take_append_drop off cs,← List.take_append_drop vs.length (cs.drop off),h,List.drop_drop]
 rw[List.append_assoc]
theorem HW {sz:Nat}{es:List Tree}{i j m:Nat}{e:Tree}(hu:∀e∈es,e.cells.length=sz)(he:es[i]?=some e)(hj:j+m<=sz):dL ((flat es).map .t) (i*sz+j) (((e.cells.drop j).take m).map .t)=(flat es).map .t:=by
 refine Zu ?_;have hl:e.cells.length=sz:=hu e (List.mem_of_getElem? he);rw[List.length_map,List.length_take,List.length_drop,hl,Nat.min_eq_left (by omega),← List.map_drop,← List.map_take,Mk hu he hj]
theorem ain {ag:Bool}{sz:Nat}{es:List Tree}(hu:eP ag sz es):gH H ag sz (.t (.sl es))=some (es.length,(flat es).map .t):=by
 have:kT sz es=true:=by
  cases es with
  |nil=>rfl
  |cons e r=>simp only[kT,(hu e List.mem_cons_self).1,BEq.rfl]
 simp only[gH,this,if_true]
theorem aeb {ag:Bool}{sz:Nat}{es:List Tree}(hu:eP ag sz es):gH H ag sz (.qd es)=some (es.length,(flat es).map .t):=by
 have:kT sz es=true:=by
  cases es with
  |nil=>rfl
  |cons e r=>simp only[kT,(hu e List.mem_cons_self).1,BEq.rfl]
 simp only[gH,this,if_true]
def Vb (y:TV)(es:List Tree):Prop:=y=.t (.sl es)\/y=.qd es
theorem NP {ag:Bool}{sz:Nat}{y:TV}{es:List Tree}(h:Vb y es)(hu:eP ag sz es):gH H ag sz y=some (es.length,(flat es).map .t):=by
 rcases h with rfl|rfl
 ·exact ain hu
 ·exact aeb hu
structure Ml (P:j3)(st elem:TypeId)(te:TI):Prop where
 sl:∃ti,P.ty st=some ti/\ti.desc=.slice elem
 el:P.ty elem=some te
 ze:∃z,te.zero=some z/\te.size≠0/\z.cells.length=te.size/\te.bytes≠0
theorem vk {nm:Nm}{s x:TV}{st elem:TypeId}{te:TI}(h:Ml C.P st elem te){m:Nat}{cs:List TV}(hs:gH H te.agg te.size x=some (m,cs))(hm:m≠0)(hl:cs.all TV.leaf=true){r:Option (TV×Heap)}
 (hr:  (match s with
  |.bW=>if m*te.bytes<=gI then some (.ref nm 0 m,[(nm,.arr (elem,te.agg) te.size false cs)]) else none
  |.qd es=>match gH H te.agg te.size (.qd es) with
   |some (n,old)=>if(n+m) *te.bytes<=gI then some (.ref nm 0 (n+m),[(nm,.arr (elem,te.agg) te.size false (old++cs))]) else none
   |none=>none
  |.ref k 0 len=>match kB H k 0 len with
   |some (g,e,fz,old)=>if e=te.size/\g.1=elem/\(len+m) *te.bytes<=gI then some (.ref k 0 (len+m),[(k,.arr g e fz (old++cs))]) else none
   |none=>none
  |_=>none:Option (TV×Heap))=r):lV C.P nm H st st s x=r:=by
 obtain⟨⟨ti,h1,h2⟩,h3,z,h4,h5,h6,h7⟩:=h
 have hc:¬(te.size=0\/z.cells.length≠te.size\/te.bytes=0):=by
  rintro (h|h|h)
  ·exact h5 h
  ·exact h h6
  ·exact h7 h
 unfold lV
 simp only[bx,h1,h2,h3,h4,if_neg hc,hs,if_neg hm,hl,if_true]
 exact hr
theorem Tf {x y:Operand}{st elem:TypeId}{te:TI}{v:TV}{es:List Tree}(h:Ml C.P st elem te)(hx:eZ C n sp x=some (.qd []))(hy:eZ C n sp y=some v)(hv:Vb v es)(hu:eP te.agg te.size es)(hne:es≠ [])(hb:es.length*te.bytes<=gI):
 fF C ev f H n sp t d (.call ⟨.builtin .append, #[x,y], #[st,st]⟩) (.ref (.loc [t]) 0 es.length) [(.loc [t],.arr (elem,te.agg) te.size false ((flat es).map .t))]:=by
 refine Mj (vs:=[.qd [],v]) (by simp only[tM,hx,hy]) ?_
 show lV C.P (.loc [t]) H st st (.qd []) v=_
 refine vk h (NP hv hu) (by simpa using hne) hu.Av ?_
 have e:gH H te.agg te.size (.qd [])=some (0,[]):=rfl
 simp only[e,Nat.zero_add,if_pos hb,List.nil_append]
theorem Tg {x y:Operand}{st elem:TypeId}{te:TI}{s v:TV}(h:Ml C.P st elem te)(hx:eZ C n sp x=some s)(hy:eZ C n sp y=some v)(hv:Vb v []\/v=.bW)(hs:s=.bW\/(∃es,s=.t (.sl es))\/∃es,s=.qd es):
 fF C ev f H n sp t d (.call ⟨.builtin .append, #[x,y], #[st,st]⟩) s []:=by
 refine Mj (vs:=[s,v]) (by simp only[tM,hx,hy]) ?_
 obtain⟨⟨ti,h1,h2⟩,h3,z,h4,h5,h6,h7⟩:=h
 have hc:¬(te.size=0\/z.cells.length≠te.size\/te.bytes=0):=by
  rintro (h|h|h)
  ·exact h5 h
  ·exact h h6
  ·exact h7 h
 have hsrc:gH H te.agg te.size v=some (0,[]):=by
  rcases hv with (rfl|rfl)|rfl<;>rfl
 show lV C.P (.loc [t]) H st st s v=some (s,[])
 unfold lV
 simp only[bx,h1,h2,h3,h4,if_neg hc,hsrc,if_true]
 rcases hs with rfl|⟨es,rfl⟩|⟨es,rfl⟩<;>rfl
theorem E8 {ty elem:TypeId}{ti te:TI}{z:TV}(ha:d.any (C.lW f)=false)(ht:C.P.ty ty=some ti)(hd:ti.desc=.slice elem)(hte:C.P.ty elem=some te)(hz:te.zero=some z)(hc:(decide (0<te.size)&&decide (z.cells.length=te.size)&&z.cells.all TV.leaf)=true):
 fF C ev f H n sp t d (.buildSlice ty 0 #[]) (.qd []) []:=λ_ _ _ _=>by
 simp only[Bool.and_eq_true,decide_eq_true_eq] at hc
 obtain⟨⟨h1,h2⟩,h3⟩:=hc
 have Zv:0<te.size/\0*te.size<=16777216/\z.cells.length=te.size/\z.cells.all TV.leaf=true:=⟨h1,by omega,h2,h3⟩
 simp only[bp,evalOp,tC,uW,bx,ht,hd,hte,hz,if_pos Zv,rN,uV,ha,List.map_nil,allT,Option.bind_some,chunk,List.isEmpty_nil,if_true]
theorem NQ {ty r2:TypeId}{x y:Operand}{k:IntKind}{a:Int}(h:eZ C n sp x=some (.t (.int k a)))(h2:eZ C n sp y=some (.t (.int k a))):fF C ev f H n sp t d (.binOp .neq ty x y r2) (.t (.bool false)) []:=Js h h2 (by simp[Wx])
theorem E9 {l:List Tree}{i:Nat}{e:Tree}(h:l[i]?=some e):l.take (i+1)=l.take i++[e]:=by
 obtain⟨h1,rfl⟩:=List.getElem?_eq_some_iff.1 h;exact(List.take_append_getElem h1).symm
theorem Zw {fn:Func}{st:St}{vs:List TV}{x:Tree}{ks:List Nm}(hr:l5 C st fn.results.toList=some vs)(hf:sF st.H ji (Ct vs)=some (x,ks)):finish C fn 0 st=some (.ret (.t x) [] []):=by
 unfold finish;simp only[hr,hf,tE,TV.names,List.flatMap_nil,List.append_nil];rfl
theorem Xh {H:Heap}{m:Nat}{k:Nm}{g:TypeId×Bool}{cg:Nat}{fz:Bool}{ts:List Tree}(hk:H.get k=some (.arr g cg fz (ts.map .t))):reach H (m+2) [] [k]=some [k]:=by
 have h1:¬k∈([]:List Nm):=by simp
 simp only[reach,if_neg h1,hk,aP.names,vg,List.append_nil,List.nil_append]
theorem NR {fn:Func}{st:St}{k:Nm}{o len:Nat}{g:TypeId×Bool}{cg:Nat}{fz:Bool}{ts:List Tree}(hr:l5 C st fn.results.toList=some [.ref k o len])(hk:st.H.get k=some (.arr g cg fz (ts.map .t)))(hl:k.jf=true):
 xO C fn 0 st=some (.ret (.ref k o len) [] [(k,.arr g cg fz (ts.map .t))]):=by
 unfold xO
 simp only[hr,tE,Ct,TV.names,List.flatMap_nil,List.append_nil]
 rw[show iI=3998+2 from rfl,Xh hk]
 simp only[o4,hl,if_true,hk,Option.map_some]
theorem Ti {g:FuncId}{ts:List Tree}{v v':TV}{news news':Heap}(he:ev g (ts.map .t) []=some (.ret v [] news))(hv:v.rn (nH [] t)=some v')(hn:ku [] t news=some news'):uX ev H g (ts.map .t) t=some (.val v' news'):=by
 unfold uX;simp only[Pt,vP,vg];have h1:reach (H.eY (eO H [])) iI [] []=some []:=rfl;rw[h1];simp only[List.nodup_nil,if_true,th,jM,he,hv,hn,ko];rfl
theorem CV {g:FuncId}{args:Array Operand}{ats:Array TypeId}{ts:List Tree}{v v':TV}{news news':Heap}(h:tM C n sp args.toList=some (ts.map .t))(he:ev g (ts.map .t) []=some (.ret v [] news))(hv:v.rn (nH [] t)=some v')(hn:ku [] t news=some news')(hk:C.lW f (d.getD 255)=false:=by rfl):
 fF C ev f H n sp t d (.call ⟨.value (.func g),args,ats⟩) v' news':=
 Te (zj h) (Ti he hv hn) hk
theorem zl {p:List Nat}{g:TypeId×Bool}{cg:Nat}{fz:Bool}{ts:List Tree}:ku [] t [(.loc p,.arr g cg fz (ts.map .t))]=some [(.loc (t::p),.arr g cg fz (ts.map .t))]:=by
 simp only[ku,nH,aP.rn,th,Option.map_some]
theorem kY {σ:Nm->Option Nm}{g:TypeId×Bool}{cg:Nat}{fz:Bool}{ts:List Tree}:aP.rn σ (.arr g cg fz (ts.map .t))=some (.arr g cg fz (ts.map .t)):=by
 simp only[aP.rn,th,Option.map_some]
theorem Qe {H:Heap}{n:Nat}{k:Nm}{g:TypeId}{ag fz:Bool}{sz len:Nat}{es es':List Tree}(hk:H.get k=some (.arr (g,ag) sz fz ((flat es).map .t)))(hu:eP ag sz es)(hz:0<sz)(hl:len=es.length)(he:es=es'):
 sF H (n+1) (.ref k 0 len)=some (.sl es',[k]):=by
 subst he
 exact Va hk hu hz hl
theorem LA {x:Operand}{v:Tree}(h:eZ C n sp x=some (.t v)):tM C n sp [x]=some ([v].map .t):=by
 simp only[tM,h];rfl
theorem rh2 {x y:Operand}{v u:Tree}(h:eZ C n sp x=some (.t v))(h2:eZ C n sp y=some (.t u)):tM C n sp [x,y]=some ([v,u].map .t):=by
 simp only[tM,h,h2];rfl
open Classical in
def ct1 (P:Tree->Prop)(res:Tree->bh):List TV->List aP->Option bh:=λas' os=>match as',os with
 | [.t x],[]=>if P x then some (res x) else none
 |_,_=>none
open Classical in
def ct2 (P:Tree->Tree->Prop)(res:Tree->Tree->bh):List TV->List aP->Option bh:=λas' os=>match as',os with
 | [.t x,.t y],[]=>if P x y then some (res x y) else none
 |_,_=>none
theorem aio {g:FuncId}{P:Tree->Prop}{res:Tree->bh}(h:∀x,P x->ai C g [.t x] [] (res x)):kQ C g (ct1 P res):=by
 intro args bu r hr;unfold ct1 at hr;split at hr
 ·split at hr
  ·rename_i x hp;simp at hr;subst hr;exact h x hp
  ·simp at hr
 ·simp at hr
theorem Zx {g:FuncId}{P:Tree->Tree->Prop}{res:Tree->Tree->bh}(h:∀x y,P x y->ai C g [.t x,.t y] [] (res x y)):kQ C g (ct2 P res):=by
 intro args bu r hr;unfold ct2 at hr;split at hr
 ·split at hr
  ·rename_i x y hp;simp at hr;subst hr;exact h x y hp
  ·simp at hr
 ·simp at hr
theorem aip {g:FuncId}{P:Tree->Prop}{res:Tree->bh}{ev:bt}{x:Tree}(h:P x):qo g (ct1 P res) ev g [.t x] []=some (res x):=by
 simp only[qo,if_true,ct1,if_pos h]
theorem Zy {g:FuncId}{P:Tree->Tree->Prop}{res:Tree->Tree->bh}{ev:bt}{x y:Tree}(h:P x y):qo g (ct2 P res) ev g [.t x,.t y] []=some (res x y):=by
 simp only[qo,if_true,ct2,if_pos h]
theorem ru {g k:FuncId}{s:List TV->List aP->Option bh}{ev:bt}{as':List TV}{os:List aP}{r:Option bh}(hne:(k==g)=false)(h:ev k as' os=r):qo g s ev k as' os=r:=by
 have:¬k=g:=by simpa using hne
 simp only[qo,if_neg this];exact h
end
end Go.Abs
end
