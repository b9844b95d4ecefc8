/- Sparse states: the slots of which something is known; one operation at a time. -/
import Derived.Test.YtfdnciimclnncaaGreatDoorF
set_option linter.unusedVariables false
set_option linter.unusedSimpArgs false
noncomputable section
namespace Go.Abs
open Go
def look:List (Nat×TV)->Nat->TV
 | [],_=>.any
 |(j,v)::r,i=>bif Nat.beq i j then v else look r i
def eC (n:Nat)(sp:List (Nat×TV)):List TV:=(List.range n).map (look sp)
theorem jb (n:Nat)(sp:List (Nat×TV)):(eC n sp).length=n:=by simp[eC]
theorem rM {n:Nat}{sp:List (Nat×TV)}{i:Nat}(h:i<n):(eC n sp)[i]?=some (look sp i):=by
 simp[eC,h]
theorem Za {n:Nat}{sp:List (Nat×TV)}{i:Nat}(h:i<n):adI (eC n sp) i=look sp i:=by
 rw[MX,List.getD_eq_getElem?_getD,rM h];rfl
theorem qv (i j:Nat)(v:TV)(sp:List (Nat×TV)):look ((j,v)::sp) i=if i=j then v else look sp i:=by
 show(bif Nat.beq i j then v else look sp i)=_;cases hb:Nat.beq i j with
 |true=>rw[if_pos (Nat.eq_of_beq_eq_true hb)];rfl
 |false=>rw[if_neg (Nat.ne_of_beq_eq_false hb)];rfl
theorem Zb (n:Nat)(sp:List (Nat×TV))(d:Nat)(v:TV):adJ v (eC n sp) d=eC n ((d,v)::sp):=by
 rw[qN];refine List.ext_getElem? λi=> ?_
 rw[List.getElem?_set,jb];by_cases hi:i<n
 ·have h1:(eC n ((d,v)::sp))[i]?=some (look ((d,v)::sp) i):=rM hi;rw[h1,qv];by_cases e:d=i
  ·subst e;simp[hi]
  ·rw[if_neg e,if_neg (λh=>e h.symm),rM hi]
 ·have h1:(eC n ((d,v)::sp))[i]?=none:=by rw[List.getElem?_eq_none_iff,jb];omega
  rw[h1];by_cases e:d=i
  ·subst e;simp[hi]
  ·rw[if_neg e,List.getElem?_eq_none_iff,jb];omega
section
variable {C:ey}
def ah8 (sp:List (Nat×TV))(d:Option Tmp)(v:TV):List (Nat×TV):=match d with
 |some d=>(d,v)::sp
 |none=>sp
theorem gl (n:Nat)(sp:List (Nat×TV))(d:Option Tmp)(v:TV):ew (eC n sp) d v=eC n (ah8 sp d v):=by
 cases d with
 |none=>rfl
 |some d=>exact Zb n sp d v
def eZ (C:ey)(n:Nat)(sp:List (Nat×TV)):Operand->Option TV
 |.tmp t=>bif Nat.blt t n then some (look sp t) else none
 |.const v=>valOf v
 |.global g=>match C.j8 g with
  |some cs=>some (.lM cs 0)
  |none=>none
 |.func f=>some (.t (.fn (.func f)))
theorem fJ {n:Nat}{sp:List (Nat×TV)}{x:Operand}{v:TV}(h:eZ C n sp x=some v):dz C (eC n sp) x=some v:=by
 cases x with
 | tmp t=>
  simp only[eZ] at h
  cases hb:Nat.blt t n with
  |false=>rw[hb] at h;simp at h
  |true=>
   rw[hb] at h
   simp only[cond_true,Option.some.injEq] at h
   have:t<n:=by simpa [Nat.blt,Nat.succ_le_iff] using hb
   simp only[dz,Za this,h]
 |const v=>exact h
 |global g=>exact h
 |func f=>exact h
def tB (C:ey)(n:Nat)(sp:List (Nat×TV)):List Operand->Option (List TV)
 | []=>some []
 |x::r=>match eZ C n sp x,tB C n sp r with
  |some v,some vs=>some (v::vs)
  |_,_=>none
theorem I9 {n:Nat}{sp:List (Nat×TV)}:∀{xs:List Operand} {vs:List TV},tB C n sp xs=some vs->kJ C (eC n sp) xs=some vs:=by
 intro xs;induction xs with
 |nil=>intro vs h;exact h
 |cons x r ih=>
  intro vs h
  simp only[tB] at h
  cases h1:eZ C n sp x<;>cases h2:tB C n sp r<;>simp only[h1,h2,reduceCtorEq] at h
  simp only[kJ,fJ h1,ih h2]
  exact h
theorem LX (S:List Nm)(sp sp':List (Nat×TV))(h:∀i,look sp' i=.any\/(look sp i).rn (PJ S)=some (look sp' i)):∀(l:List Nat),uC (PJ S) (l.map (look sp)) (l.map (look sp'))
 | []=>trivial
 |i::l=>⟨h i,LX S sp sp' h l⟩
def fits (S:List Nm)(sp:List (Nat×TV)):List (Nat×TV)->Prop
 | []=>True
 |(i,v)::r=>(look sp i).rn (PJ S)=some v/\fits S sp r
theorem LY {S:List Nm}{sp:List (Nat×TV)}:∀{sp':List (Nat×TV)},fits S sp sp'->∀i,look sp' i=.any\/(look sp i).rn (PJ S)=some (look sp' i)
 | [],_,i=>.inl rfl
 |(j,v)::r,h,i=>by
  rw[qv]
  by_cases e:i=j
  · subst e;rw[if_pos rfl];exact .inr h.1
  · rw[if_neg e];exact LY h.2 i
theorem Re.sp (S:List Nm){n:Nat}{sp sp':List (Nat×TV)}{H H':Heap}{t t':Nat}(h1:fits S sp sp')(h2:IZ (PJ S) H H')(hn:S.Nodup)(hl:S.all Nm.jf=true)(hS:∀k∈S,(H.get k).isSome=true)(ht:S.length<=t'):
 Re C ⟨eC n sp,H,t⟩ ⟨eC n sp',H',t'⟩:=
 Re.mk S (LX S sp sp' (LY h1) _) h2 hn hl hS ht
theorem Re.sq (S:List Nm){n:Nat}{sp sp':List (Nat×TV)}{H H':Heap}{t t':Nat}(h1:fits S sp sp')(h2:IZ (PJ S) H H')(hn:S.Nodup)(hl:S.all Nm.jf=true)(hS:S.all (λk=>(H.get k).isSome)=true)(ht:S.length<=t'):
 Re C ⟨eC n sp,H,t⟩ ⟨eC n sp',H',t'⟩:=Re.sp S h1 h2 hn hl (λk hk=>List.all_eq_true.1 hS k hk) ht
def same (sp:List (Nat×TV)):List (Nat×TV)->Prop
 | []=>True
 |(i,v)::r=>look sp i=v/\same sp r
theorem LZ {sp:List (Nat×TV)}:∀{sp':List (Nat×TV)},same sp sp'->∀i,look sp' i=.any\/look sp i=look sp' i
 | [],_,i=>.inl rfl
 |(j,v)::r,h,i=>by
  rw[qv]
  by_cases e:i=j
  · subst e;rw[if_pos rfl];exact .inr h.1
  · rw[if_neg e];exact LZ h.2 i
theorem ec.less {G:Gh}{xs ys:List TV}{vs:List Value}(h:ec G xs vs)(hl:ys.length=xs.length)(hh:∀(i:Nat) (x y:TV),xs[i]?=some x->ys[i]?=some y->y=.any\/x=y):ec G ys vs:=by
 refine⟨by rw[hl];exact h.1,λj c v hc hv=> ?_⟩;have hj:j<xs.length:=by rw[← hl];exact(List.getElem?_eq_some_iff.1 hc).1
 rcases hh j xs[j] c (List.getElem?_eq_getElem hj) hc with rfl|e
 ·exact .any _
 ·rw[← e];exact h.2 j _ v (List.getElem?_eq_getElem hj) hv
theorem Re.slots {n:Nat}{sp sp':List (Nat×TV)}{H:Heap}{t:Nat}(h:same sp sp'):Re C ⟨eC n sp,H,t⟩ ⟨eC n sp',H,t⟩:=by
 intro G0 w0 G w a h0 hs hst;refine⟨G,hs,hst.wf,hst.j8,ec.less hst.slots (by simp[jb]) λi x y hx hy=> ?_,hst.heap,hst.fresh⟩;have hi:i<n:=by have:=(List.getElem?_eq_some_iff.1 hx).1;simpa [jb] using this
 simp only[rM hi,Option.some.injEq] at hx hy;subst hx;subst hy;exact LZ h i
theorem Re.heap {sl:List TV}{H H':Heap}{t:Nat}(h:∀k o,H'.get k=some o->H.get k=some o):Re C ⟨sl,H,t⟩ ⟨sl,H',t⟩:=
 λG0 w0 G w a h0 hs hst=>⟨G,hs,hst.wf,hst.j8,hst.slots,λk o hk=>hst.heap k o (h k o hk),hst.fresh⟩
def BA:Nat->List TV->List (Nat×TV)
 |_,[]=>[]
 |i,v::r=>(i,v)::BA (i+1) r
theorem Ja:∀(l:List TV) (i j:Nat),i<=j->look (BA i l) j=.any\/l[j - i]?=some (look (BA i l) j)
 | [],_,_,_=>.inl rfl
 | v ::r,i,j,h=>by
   simp only[BA]
   rw[qv]
   by_cases e:j=i
   · subst e;simp
   · rw[if_neg e]
     have:=Ja r (i+1) j (by omega)
     have e2:j - i=(j - (i+1))+1:=by omega
     rw[e2,List.getElem?_cons_succ]
     exact this
theorem Re.start (args:List TV)(k:Nat)(H:Heap)(t:Nat):Re C ⟨args++List.replicate k dm,H,t⟩ ⟨eC (args.length+k) (BA 0 args),H,t⟩:=by
 intro G0 w0 G w a h0 hs hst;refine⟨G,hs,hst.wf,hst.j8,ec.less hst.slots (by simp[jb]) λi x y hx hy=> ?_,hst.heap,hst.fresh⟩;have hi:i<args.length+k:=by have:=(List.getElem?_eq_some_iff.1 hx).1;simpa using this
 rw[rM hi,Option.some.injEq] at hy;subst hy;rcases Ja args 0 i (Nat.zero_le _) with h|h
 ·exact .inl h
 ·right;rw[Nat.sub_zero] at h;have hl:=(List.getElem?_eq_some_iff.1 h).1;rw[List.getElem?_append_left hl,h] at hx;exact(Option.some.inj hx).symm
end
end Go.Abs
end
noncomputable section
namespace Go.Abs
open Go
section
variable {C:ey}{ev:bt}{f:FuncId}{ops:Array Oper}{Q:aQ->St->Prop}{n:Nat}{sp:List (Nat×TV)}{H:Heap}{t:Nat}{r:List Oper}
def fE (C:ey)(ev:bt)(f:FuncId)(H:Heap)(n:Nat)(sp:List (Nat×TV))(t:Nat)(d:Option Tmp)(op:Op)(v:TV)(u:Heap):Prop:=
 ∀ty pos af g,bl C ev f H (eC n sp) t ⟨d,op,ty,pos,af,g⟩=some (.val v u)
theorem iM.go {d:Tmp}{op:Op}{ty pos af}{v:TV}{u:Heap}(aJ:aC C ev)(h:fE C ev f H n sp t (some d) op v u)(k:iM C ops r ⟨eC n ((d,v)::sp),H.eY u,t+1⟩ Q):
 iM C ops (⟨some d,op,ty,pos,af,none⟩::r) ⟨eC n sp,H,t⟩ Q:=by
 refine iM.step aJ rfl (h _ _ _ _) ?_
 rw[gl]
 exact k
theorem iM.Si {op:Op}{ty pos af}{v:TV}{u:Heap}(aJ:aC C ev)(h:fE C ev f H n sp t none op v u)(k:iM C ops r ⟨eC n sp,H.eY u,t+1⟩ Q):
 iM C ops (⟨none,op,ty,pos,af,none⟩::r) ⟨eC n sp,H,t⟩ Q:=by
 refine iM.step aJ rfl (h _ _ _ _) ?_
 rw[gl]
 exact k
def gv (g:Bool)(v:TV):TV:=bif g then v else dm
theorem mH {j gd:Nat}{w:Bool}{o:Oper}(ho:o.guard=some (j,w))(hj:(ops[j]?).bind (·.dst)=some gd)(hn:Nat.blt gd n=true):
 eT ops (eC n sp) o=match look sp gd with|.t (.bool b)=>some (b==w)|.t (.cF [])=>some false|_=>none:=by
 have:gd<n:=by simpa [Nat.blt,Nat.succ_le_iff] using hn
 unfold eT
 simp only[ho,hj,rM this]
 generalize look sp gd=x
 cases x with
 |t y=>cases y with
  |cF vs=>cases vs<;>rfl
  |_=>rfl
 |_=>rfl
theorem iM.guarded {d:Tmp}{op:Op}{ty pos af}{j gd:Nat}{w:Bool}{b g:Bool}{v:TV}(aJ:aC C ev)(hj:(ops[j]?).bind (·.dst)=some gd)(hn:Nat.blt gd n=true)
 (hl:(look sp gd=.t (.bool b)/\g=(b==w))\/∃g1,look sp gd=gv g1 (.t (.bool b))/\g=(g1&&(b==w)))
 (h:g=true->fE C ev f H n sp t (some d) op v [])(k:iM C ops r ⟨eC n ((d,gv g v)::sp),H,t+1⟩ Q):iM C ops (⟨some d,op,ty,pos,af,some (j,w)⟩::r) ⟨eC n sp,H,t⟩ Q:=by
 have hw:eT ops (eC n sp) ⟨some d,op,ty,pos,af,some (j,w)⟩=some g:=by
  rcases hl with ⟨hl,rfl⟩|⟨g1,hl,rfl⟩
  ·rw[mH rfl hj hn,hl]
  ·rw[mH rfl hj hn,hl];cases g1<;>rfl
 cases g with
 | true=>
   refine iM.step aJ hw (h rfl _ _ _ _) ?_
   rw[gl]
   exact k
 | false=>
   refine iM.unwanted hw ?_
   rw[gl]
   exact k
variable {d:Option Tmp}
theorem aI {x:Operand}{v:TV}(h:eZ C n sp x=some v):fE C ev f H n sp t d (.move x) v []:=λ_ _ _ _=>by
 simp only[bl,evalOp,fJ h,Ch,Option.map_some]
theorem aK {x:Operand}{v:TV}(h:eZ C n sp x=some v):fE C ev f H n sp t d (.assign x) v []:=λ_ _ _ _=>by
 simp only[bl,evalOp,fJ h,Ch,Option.map_some]
theorem nt {x:Operand}{v:Tree}(h:eZ C n sp x=some (.t v)):fE C ev f H n sp t d (.move x) (.t v) []:=aI h
theorem iI {x:Operand}{v:Tree}(h:eZ C n sp x=some (.t v)):fE C ev f H n sp t d (.assign x) (.t v) []:=aK h
theorem Zc {c x y:Operand}{b:Bool}{u v:TV}(hc:eZ C n sp c=some (.t (.bool b)))(hx:eZ C n sp x=some u)(hy:eZ C n sp y=some v):fE C ev f H n sp t d (.pick c x y) (if b then u else v) []:=λ_ _ _ _=>by
 simp only[bl,evalOp,fJ hc,fJ hx,fJ hy]
theorem L3 {ty:TypeId}{x:Operand}{b:Bool}(h:eZ C n sp x=some (.t (.bool b))):fE C ev f H n sp t d (.unOp .not ty x) (.t (.bool (!b))) []:=λ_ _ _ _=>by
 simp only[bl,evalOp,fJ h];cases b<;>rfl
theorem CP {elem:TypeId}{ti:TI}{z:TV}(ht:C.P.ty elem=some ti)(hz:ti.zero=some z)(hl:z.cells.all TV.leaf=true):fE C ev f H n sp t d (.alloc elem) (.ptr (.loc [t]) 0) [(.loc [t],.cells elem z.cells)]:=λ_ _ _ _=>by
 simp only[bl,evalOp,bx,ht,hz,hl,if_true]
theorem mM {ty:TypeId}{x:Operand}{a v:TV}(h:eZ C n sp x=some a)(hl:loadT C.P H ty a=some v):fE C ev f H n sp t d (.load ty x) v []:=λ_ _ _ _=>by
 simp only[bl,evalOp,fJ h,hl,Ch,Option.map_some]
theorem kV {ty:TypeId}{x:Operand}{a:TV}{v:Tree}(h:eZ C n sp x=some a)(hl:loadT C.P H ty a=some (.t v)):fE C ev f H n sp t d (.load ty x) (.t v) []:=mM h hl
theorem ld {P:jY}{ty:TypeId}{ti:TI}{a v:TV}{cs:List TV}{off:Nat}(ht:P.ty ty=some ti)(hc:wV H a=some (cs,off))(hp:partT ti.agg ti.size cs off=some v):loadT P H ty a=some v:=by
 simp only[loadT,bx,ht,hc,hp]
theorem Zd {P:jY}{ty:TypeId}{ti:TI}{x:TV}{k:Nm}{off:Nat}{g:TypeId}{cs:List TV}(ht:P.ty ty=some ti)(hc:H.get k=some (.cells g cs))(hl:(decide (x.cells.length=ti.size)&&x.cells.all TV.leaf&&decide (off+ti.size<=cs.length))=true):
 storeT P H ty (.ptr k off) x=some [(k,.cells g (dN cs off x.cells))]:=by
 simp only[Bool.and_eq_true,decide_eq_true_eq] at hl
 obtain⟨⟨h1,h2⟩,h3⟩:=hl
 simp only[storeT,bx,ht,h1,h2,hc,h3,and_self,if_true]
theorem pg {ty:TypeId}{x y:Operand}{a v:TV}{u:Heap}(h:eZ C n sp x=some a)(h2:eZ C n sp y=some v)(hl:storeT C.P H ty a v=some u):fE C ev f H n sp t d (.store ty x y) dm u:=λ_ _ _ _=>by
 simp only[bl,evalOp,fJ h,fJ h2,hl,AU,Option.map_some]
def pn (P:jY)(s i:Nat):Option Nat:=match bx P s with
 | some ti=>match ti.desc with
  | .struct fs=>match fs[i]? with
   |some fd=>match bx P fd.type with
    |some tf=>if tf.size=0 then none else some fd.offset
    |none=>none
   |none=>none
  |_=>none
 |none=>none
theorem eD {s i off:Nat}{x:Operand}{a v:TV}(h:eZ C n sp x=some a)(ho:pn C.P s i=some off)(hp:sZ H a off=some v):fE C ev f H n sp t d (.fieldAddr s x i) v []:=λ_ _ _ _=>by
 unfold pn at ho;split at ho<;>try (simp at ho;done)
 rename_i ti LM;split at ho<;>try (simp at ho;done)
 rename_i fs hfs;split at ho<;>try (simp at ho;done)
 rename_i fd hfd;split at ho<;>try (simp at ho;done)
 rename_i tf YF;split at ho<;>try (simp at ho;done)
 rename_i hz;simp at ho;subst ho;simp only[bl,evalOp,fJ h,LM,hfs,hfd,YF,if_neg hz,hp,Ch,Option.map_some]
theorem Gi {ty:TypeId}{x i:Operand}{a j v:TV}(h:eZ C n sp x=some a)(hi:eZ C n sp i=some j)(hv:fu C.P H ty a j=some v):fE C ev f H n sp t d (.indexAddr ty x i) v []:=λ_ _ _ _=>by
 simp only[bl,evalOp,fJ h,fJ hi,hv,Ch,Option.map_some]
theorem adW {ty:TypeId}{x i:Operand}{a j v:TV}(h:eZ C n sp x=some a)(hi:eZ C n sp i=some j)(hv:s4 C.P ty a j=some v):fE C ev f H n sp t d (.index ty x i) v []:=λ_ _ _ _=>by
 simp only[bl,evalOp,fJ h,fJ hi,hv,Ch,Option.map_some]
theorem iT {op:BinOp}{ty r2:TypeId}{x y:Operand}{a b v:TV}(h:eZ C n sp x=some a)(h2:eZ C n sp y=some b)(hv:vz C.P op ty x y a b=some v):fE C ev f H n sp t d (.binOp op ty x y r2) v []:=λ_ _ _ _=>by
 simp only[bl,evalOp,fJ h,fJ h2,hv,Ch,Option.map_some]
theorem wrap64 {x:Int}(h1:-9223372036854775808<=x)(h2:x<=9223372036854775807):IntKind.i64.wrap x=x:=by
 simp only[IntKind.wrap,IntKind.bits,IntKind.signed];first|omega|(simp;omega)
theorem Jb {op:BinOp}{ty r2:TypeId}{x y:Operand}{k:IntKind}{a b:Int}{v:TV}(h:eZ C n sp x=some (.t (.int k a)))(h2:eZ C n sp y=some (.t (.int k b)))(hv:Wm op k a b=some v):fE C ev f H n sp t d (.binOp op ty x y r2) v []:=
 iT h h2 (by simp only[vz,if_true,hv])
theorem pz {ty r2:TypeId}{x y:Operand}{k:IntKind}{a b:Int}(h:eZ C n sp x=some (.t (.int k a)))(h2:eZ C n sp y=some (.t (.int k b))):fE C ev f H n sp t d (.binOp .eql ty x y r2) (.t (.bool (a==b))) []:=Jb h h2 rfl
theorem pE {ty r2:TypeId}{x y:Operand}{k:IntKind}{a b:Int}(h:eZ C n sp x=some (.t (.int k a)))(h2:eZ C n sp y=some (.t (.int k b))):fE C ev f H n sp t d (.binOp .lss ty x y r2) (.t (.bool (decide (a<b)))) []:=Jb h h2 rfl
theorem Ze {ty r2:TypeId}{x y:Operand}{k:IntKind}{a b:Int}(h:eZ C n sp x=some (.t (.int k a)))(h2:eZ C n sp y=some (.t (.int k b))):fE C ev f H n sp t d (.binOp .leq ty x y r2) (.t (.bool (decide (a<=b)))) []:=Jb h h2 rfl
theorem PT {ty r2:TypeId}{x y:Operand}{k:IntKind}{a b:Int}(h:eZ C n sp x=some (.t (.int k a)))(h2:eZ C n sp y=some (.t (.int k b))):fE C ev f H n sp t d (.binOp .gtr ty x y r2) (.t (.bool (decide (a>b)))) []:=Jb h h2 rfl
theorem PU {ty r2:TypeId}{x y:Operand}{k:IntKind}{a b:Int}(h:eZ C n sp x=some (.t (.int k a)))(h2:eZ C n sp y=some (.t (.int k b))):fE C ev f H n sp t d (.binOp .geq ty x y r2) (.t (.bool (decide (a>=b)))) []:=Jb h h2 rfl
theorem Nq {ty r2:TypeId}{x y:Operand}{a b:Int}(h:eZ C n sp x=some (.t (.int .i64 a)))(h2:eZ C n sp y=some (.t (.int .i64 b)))(h3:-9223372036854775808<=a+b)(h4:a+b<=9223372036854775807):fE C ev f H n sp t d (.binOp .add ty x y r2) (.t (.int .i64 (a+b))) []:=
 Jb h h2 (by simp only[Wm,wrap64 h3 h4])
theorem ag4 {ty r2:TypeId}{x y:Operand}{a b:List UInt8}(h:eZ C n sp x=some (.t (.str a)))(h2:eZ C n sp y=some (.t (.str b))):fE C ev f H n sp t d (.binOp .eql ty x y r2) (.t (.bool (a==b))) []:=iT h h2 rfl
theorem xw {ty:TypeId}{x:Operand}{s:List UInt8}{ti:TI}(h:eZ C n sp x=some (.t (.str s)))(ht:C.P.ty ty=some ti)(hd:ti.desc=.string):fE C ev f H n sp t d (.call ⟨.builtin .len, #[x], #[ty]⟩) (.t (.int .i64 s.length)) []:=λ_ _ _ _=>by
 have h1:kJ C (eC n sp) (#[x].toList)=some [.t (.str s)]:=by simp only[kJ,fJ h]
 simp only[bl,evalOp,h1];delta mU;simp only[bx,ht,hd]
theorem Nr {ty e:TypeId}{x:Operand}{v:TV}{m:Nat}{ti:TI}(h:eZ C n sp x=some v)(ht:C.P.ty ty=some ti)(hd:ti.desc=.slice e)(hl:Bk H v=some m)(h1:∀s,v≠ .t (.str s))(h2:v≠ .t .jZ)(h3:∀k,v≠ .map k):
 fE C ev f H n sp t d (.call ⟨.builtin .len, #[x], #[ty]⟩) (.t (.int .i64 m)) []:=λ_ _ _ _=>by
 have h4:kJ C (eC n sp) (#[x].toList)=some [v]:=by simp only[kJ,fJ h]
 simp only[bl,evalOp,h4]
 delta mU
 simp only[bx,ht,hd]
 cases v with
 |t x=>cases x with
  |str s=>exact absurd rfl (h1 s)
  |jZ=>exact absurd rfl h2
  |_=>simp only[hl];rfl
 |map k=>exact absurd rfl (h3 k)
 |_=>simp only[hl];rfl
theorem Jc {ty e:TypeId}{x:Operand}{es:List Tree}{ti:TI}(h:eZ C n sp x=some (.t (.sl es)))(ht:C.P.ty ty=some ti)(hd:ti.desc=.slice e):fE C ev f H n sp t d (.call ⟨.builtin .len, #[x], #[ty]⟩) (.t (.int .i64 es.length)) []:=
 Nr h ht hd rfl (λ_=>by simp) (by simp) (λ_=>by simp)
theorem Ns {ty e:TypeId}{x:Operand}{k:Nm}{o l:Nat}{ti:TI}(h:eZ C n sp x=some (.ref k o l))(ht:C.P.ty ty=some ti)(hd:ti.desc=.slice e):fE C ev f H n sp t d (.call ⟨.builtin .len, #[x], #[ty]⟩) (.t (.int .i64 l)) []:=
 Nr h ht hd rfl (λ_=>by simp) (by simp) (λ_=>by simp)
theorem SZ {ty e:TypeId}{x:Operand}{ti:TI}(h:eZ C n sp x=some .bX)(ht:C.P.ty ty=some ti)(hd:ti.desc=.slice e):fE C ev f H n sp t d (.call ⟨.builtin .len, #[x], #[ty]⟩) (.t (.int .i64 (0:Nat))) []:=
 Nr h ht hd rfl (λ_=>by simp) (by simp) (λ_=>by simp)
theorem S0 {ty e:TypeId}{x:Operand}{es:List Tree}{ti:TI}(h:eZ C n sp x=some (.pZ es))(ht:C.P.ty ty=some ti)(hd:ti.desc=.slice e):fE C ev f H n sp t d (.call ⟨.builtin .len, #[x], #[ty]⟩) (.t (.int .i64 es.length)) []:=
 Nr h ht hd rfl (λ_=>by simp) (by simp) (λ_=>by simp)
theorem L4 {b:Builtin}{args:Array Operand}{ats:Array TypeId}{vs:List TV}{v:TV}{u:Heap}(h:tB C n sp args.toList=some vs)(hv:mU C (.loc [t]) H b ats.toList vs=some (v,u)):fE C ev f H n sp t d (.call ⟨.builtin b,args,ats⟩) v u:=λ_ _ _ _=>by
 simp only[bl,evalOp,I9 h,hv]
theorem Jd {ty elem:TypeId}{ti te:TI}{x i:Operand}{es:List Tree}{k:IntKind}{m:Nat}{e:Tree}(h:eZ C n sp x=some (.t (.sl es)))(hi:eZ C n sp i=some (.t (.int k (m:Int))))(ht:C.P.ty ty=some ti)(hd:ti.desc=.slice elem)
 (hte:C.P.ty elem=some te)(he:es[m]?=some e)(hc:e.cells.length=te.size):fE C ev f H n sp t d (.indexAddr ty x i) (.lM e.cells 0) []:=
 Gi h hi (by
  have h1:iA (.t (.int k (m:Int)))=some m:=by simp[iA]
  simp only[fu,bx,ht,h1,hd,hte,he,hc,if_true])
theorem jL {ty:TypeId}{ti:TI}{x i:Operand}{s:List UInt8}{k:IntKind}{m:Nat}{b:UInt8}(h:eZ C n sp x=some (.t (.str s)))(hi:eZ C n sp i=some (.t (.int k (m:Int))))(ht:C.P.ty ty=some ti)(hd:ti.desc=.string)
 (he:s[m]?=some b):fE C ev f H n sp t d (.index ty x i) (.t (.int .u8 b.toNat)) []:=
 adW h hi (by
  have h1:iA (.t (.int k (m:Int)))=some m:=by simp[iA]
  simp only[s4,bx,ht,h1,hd,he])
theorem S1 {fo:Operand}{args:Array Operand}{ats:Array TypeId}{g:FuncId}{atM:List TV}{v:TV}{u:Heap}(hc:lT C (eC n sp) ⟨.value fo,args,ats⟩=some (g,atM))(he:uM ev H g atM t=some (.val v u))(hk:C.lS f (d.getD 255)=false:=by rfl):fE C ev f H n sp t d (.call ⟨.value fo,args,ats⟩) v u:=λ_ _ _ _=>by
 simp only[bl,hc,Pc,hk,he]
theorem y9 {g:FuncId}{args:Array Operand}{ats:Array TypeId}{atM:List TV}(h:tB C n sp args.toList=some atM):lT C (eC n sp) ⟨.value (.func g),args,ats⟩=some (g,atM):=by
 simp only[lT,dz,I9 h]
theorem vE (H:Heap):∀(ts:List Tree),ot H (ts.map .t)=(ts.map .t,[])
 | []=>rfl
 |x::r=>by
  simp only[List.map_cons,ot,vE H r]
  rfl
theorem uS:∀(ts:List Tree),TV.kT (ts.map .t)=[]
 | []=>rfl
 |x::r=>by simp only[List.map_cons,TV.kT,TV.names,uS r,List.append_nil]
theorem sY (σ:Nm->Option Nm):∀(ts:List Tree),TV.yF σ (ts.map .t)=some (ts.map .t)
 | []=>rfl
 |x::r=>by simp only[List.map_cons,TV.yF,TV.rn,sY σ r]
theorem Gj {g:FuncId}{ts:List Tree}{x:Tree}(he:ev g (ts.map .t) []=some (.ret (.t x) [] [])):uM ev H g (ts.map .t) t=some (.val (.t x) []):=by
 unfold uM;simp only[Pb,vE,uS];have h1:reach (H.eY (eO H [])) iH [] []=some []:=rfl;rw[h1];simp only[List.nodup_nil,if_true,sY,jK,he];rfl
theorem iB {g:FuncId}{args:Array Operand}{ats:Array TypeId}{ts:List Tree}{x:Tree}(h:tB C n sp args.toList=some (ts.map .t))(he:ev g (ts.map .t) []=some (.ret (.t x) [] []))(hk:C.lS f (d.getD 255)=false:=by rfl):fE C ev f H n sp t d (.call ⟨.value (.func g),args,ats⟩) (.t x) []:=
 S1 (y9 h) (Gj he) hk
end
end Go.Abs
end
noncomputable section
namespace Go.Abs
open Go
section
variable {C:ey}{ev:bt}{f:FuncId}
theorem nS {s s':List TV}:∀{l:List Operand},(∀x∈l,dz C s' x=dz C s x)->kJ C s' l=kJ C s l
 | [],_=>rfl
 |x::r,h=>by
  simp only[kJ,h x List.mem_cons_self,nS (l:=r) λy hy=>h y (List.mem_cons_of_mem _ hy)]
theorem xy {s s':List TV}:∀{l:List (Nat×Operand)},(∀x∈l.map (·.2),dz C s' x=dz C s x)->s6 C s' l=s6 C s l
 | [],_=>rfl
 |(i,x)::r,h=>by
  simp only[s6,h x (by simp),xy (l:=r) λy hy=>h y (by simp only[List.map_cons,List.mem_cons];exact .inr hy)]
theorem xA {s s':List TV}{o:Option Operand}(h:∀x∈o.toArray.toList,dz C s' x=dz C s x):yN C s' o=yN C s o:=by
 cases o with
 |none=>rfl
 |some x=>simp only[yN,h x (by simp)]
set_option maxHeartbeats 1000000 in
theorem Nt {nm:Nm}{H:Heap}{s s':List TV}{o:Oper}(h:∀x∈o.op.operands.toList,dz C s' x=dz C s x):evalOp C f nm H s' o=evalOp C f nm H s o:=by
 obtain⟨d,op,ty,pos,af,g⟩:=o;cases op with
 |move x=>simp only[evalOp,h x (by simp[Op.operands])]
 |assign x=>simp only[evalOp,h x (by simp[Op.operands])]
 |pick c a b=>simp only[evalOp,h c (by simp[Op.operands]),h a (by simp[Op.operands]),h b (by simp[Op.operands])]
 |alloc t=>rfl
 |box t x=>simp only[evalOp,h x (by simp[Op.operands])]
 |build t ps=>
  have:=xy (C:=C) (s:=s) (s':=s') (l:=ps.toList) (λx hx=>h x (by simpa [Op.operands] using hx))
  simp only[evalOp,this]
 |buildSlice t n ps=>
  have:=xy (C:=C) (s:=s) (s':=s') (l:=ps.toList) (λx hx=>h x (by simpa [Op.operands] using hx))
  simp only[evalOp,this]
 |insert t m k v=>simp only[evalOp,h m (by simp[Op.operands]),h k (by simp[Op.operands]),h v (by simp[Op.operands])]
 |load t x=>simp only[evalOp,h x (by simp[Op.operands])]
 |store t a v=>simp only[evalOp,h a (by simp[Op.operands]),h v (by simp[Op.operands])]
 |nilCheck x=>simp only[evalOp,h x (by simp[Op.operands])]
 |binOp o t a v r=>simp only[evalOp,h a (by simp[Op.operands]),h v (by simp[Op.operands])]
 |unOp o t x=>simp only[evalOp,h x (by simp[Op.operands])]
 |convert a b x=>simp only[evalOp,h x (by simp[Op.operands])]
 |makeInterface t x=>simp only[evalOp,h x (by simp[Op.operands])]
 |makeFunc fn a b=>
  have h1:=nS (C:=C) (s:=s) (s':=s') (l:=a.toList) (λx hx=>h x (by simp only[Op.operands,Array.toList_append,List.mem_append];exact .inl hx))
  have h2:=nS (C:=C) (s:=s) (s':=s') (l:=b.toList) (λx hx=>h x (by simp only[Op.operands,Array.toList_append,List.mem_append];exact .inr hx))
  simp only[evalOp,h1,h2]
 |makeMap t r=>
  have:=xA (C:=C) (s:=s) (s':=s') (o:=r) (λx hx=>h x (by simpa [Op.operands] using hx))
  simp only[evalOp,this]
 |makeSlice t a v=>simp only[evalOp,h a (by simp[Op.operands]),h v (by simp[Op.operands])]
 |slice t x l m k=>
  have h1:=xA (C:=C) (s:=s) (s':=s') (o:=l) (λy hy=>h y (by simp only[Op.operands,Array.toList_append,List.mem_append];exact .inl (.inl (.inr hy))))
  have h2:=xA (C:=C) (s:=s) (s':=s') (o:=m) (λy hy=>h y (by simp only[Op.operands,Array.toList_append,List.mem_append];exact .inl (.inr hy)))
  have h3:=xA (C:=C) (s:=s) (s':=s') (o:=k) (λy hy=>h y (by simp only[Op.operands,Array.toList_append,List.mem_append];exact .inr hy))
  simp only[evalOp,h x (by simp[Op.operands]),h1,h2,h3]
 |fieldAddr t x i=>simp only[evalOp,h x (by simp[Op.operands])]
 |field t x i=>simp only[evalOp,h x (by simp[Op.operands])]
 |indexAddr t a v=>simp only[evalOp,h a (by simp[Op.operands]),h v (by simp[Op.operands])]
 |index t a v=>simp only[evalOp,h a (by simp[Op.operands]),h v (by simp[Op.operands])]
 |lookup t a v ok=>simp only[evalOp,h a (by simp[Op.operands]),h v (by simp[Op.operands])]
 |mapUpdate t m k v=>simp only[evalOp,h m (by simp[Op.operands]),h k (by simp[Op.operands]),h v (by simp[Op.operands])]
 |mapEntry t m k=>simp only[evalOp,h m (by simp[Op.operands]),h k (by simp[Op.operands])]
 |entryStore t m k v=>simp only[evalOp,h m (by simp[Op.operands]),h k (by simp[Op.operands]),h v (by simp[Op.operands])]
 |typeAssert x a b ok=>simp only[evalOp,h x (by simp[Op.operands])]
 |extract x i=>simp only[evalOp,h x (by simp[Op.operands])]
 | call c=>
  obtain⟨ce,args,ats⟩:=c
  cases ce with
  |builtin b=>
   have h1:=nS (C:=C) (s:=s) (s':=s') (l:=args.toList) (λx hx=>h x (by simp only[Op.operands,Call.operands,Array.toList_append,List.mem_append];exact .inr hx))
   simp only[evalOp,h1]
  |value fo=>rfl
  |invoke r m=>rfl
 |_=>rfl
theorem PV {H:Heap}{s s':List TV}{t:Nat}{o:Oper}(h:∀x∈o.op.operands.toList,dz C s' x=dz C s x):bl C ev f H s' t o=bl C ev f H s t o:=by
 have he:=Nt (C:=C) (f:=f) (nm:=.loc [t]) (H:=H) h;obtain⟨d,op,ty,pos,af,g⟩:=o;cases op with
 |panic x=>simp only[bl,h x (by simp[Op.operands])]
 | call c=>
  obtain⟨ce,args,ats⟩:=c
  cases ce with
  |value fo=>
   have h1:=nS (C:=C) (s:=s) (s':=s') (l:=args.toList) (λx hx=>h x (by simp only[Op.operands,Call.operands,Array.toList_append,List.mem_append];exact .inr hx))
   have h2:dz C s' fo=dz C s fo:=h fo (by simp[Op.operands,Call.operands])
   simp only[bl,lT,h1,h2]
  |invoke r nm=>
   have h1:=nS (C:=C) (s:=s) (s':=s') (l:=args.toList) (λx hx=>h x (by simp only[Op.operands,Call.operands,Array.toList_append,List.mem_append];exact .inr hx))
   have h2:dz C s' r=dz C s r:=h r (by simp[Op.operands,Call.operands])
   simp only[bl,Hz,h1,h2]
  |_=>simp only[bl,he]
 |_=>simp only[bl,he]
theorem Zf {L:List Nat}{s:List TV}{x:Operand}(h:∀t,x=.tmp t->t∈L):dz C (kK L 0 s) x=dz C s x:=by
 cases x with
 |tmp t=>
  have ht:=h t rfl
  simp only[dz,MX,List.getD_eq_getElem?_getD,vZ,Nat.zero_add,if_pos ht]
 |_=>rfl
theorem Je {ops:Array Oper}{H:Heap}{s:List TV}{t:Nat}{o:Oper}:bl C ev f H (kK (o.looksAt ops) 0 s) t o=bl C ev f H s t o:=
 PV λx hx=>Zf λt e=>by
  subst e;unfold Oper.looksAt;refine List.mem_append_left _ (List.mem_filterMap.2 ⟨_,hx,rfl⟩)
theorem xB {ops:Array Oper}{s:List TV}{o:Oper}:eT ops (kK (o.looksAt ops) 0 s) o=eT ops s o:=by
 unfold eT;cases hg:o.guard with
 |none=>rfl
 | some g=>
  obtain⟨j,want⟩:=g
  simp only[]
  cases hd:(ops[j]?).bind (·.dst) with
  |none=>rfl
  | some d=>
   have hm:d∈o.looksAt ops:=by
    unfold Oper.looksAt
    refine List.mem_append_right _ ?_
    rw[hg]
    simp[hd]
   simp only[vZ,Nat.zero_add,if_pos hm]
def yH (C:ey)(ev:bt)(f:FuncId)(ops:Array Oper)(bs:List Nat)(t0 i:Nat)(l:List Oper)(n:Nat)(sp:List (Nat×TV))(H:Heap)(K:List Rec->List (Nat×TV)->Heap->Prop):Prop:=
 ∃recs sp' H',G5 C ev f ops bs t0 i l ⟨eC n sp,H⟩ none=some recs/\Cn l recs ⟨eC n sp,H⟩=⟨eC n sp',H'⟩/\(∀j,lU j recs=none)/\K recs sp' H'
section
variable {ops:Array Oper}{bs:List Nat}{t0 i n:Nat}{r:List Oper}{sp:List (Nat×TV)}{H:Heap}{K:List Rec->List (Nat×TV)->Heap->Prop}
theorem yH.nil (h:K [] sp H):yH C ev f ops bs t0 i [] n sp H K:=⟨[],sp,H,rfl,rfl,λ_=>rfl,h⟩
theorem yH.step {o:Oper}{fp:List Nm}{v:TV}{u:Heap}(hw:eT ops (eC n sp) o=some true)(UT:Sy C H (eC n sp) o=some fp)(hx:bl C ev f (ov H fp) (eC n sp) (t0+i) o=some (.val v u))
 (k:yH C ev f ops bs t0 (i+1) r n (ah8 sp o.dst v) (H.eY u) λrs sp' H'=>K (⟨fp,.val v u⟩::rs) sp' H'):yH C ev f ops bs t0 i (o::r) n sp H K:=by
 obtain⟨rs,sp',H',h1,h2,h3,h4⟩:=k
 refine⟨⟨fp,.val v u⟩::rs,sp',H', ?_, ?_,λj=> ?_,h4⟩
 ·simp only[G5,Ys,xB,hw,UT,Je,hx,Option.isSome_none,Bool.false_eq_true,decide_false,Bool.false_and,if_false,wY.after,gl,l5,h1]
 ·simp only[Cn,wY.after,gl,h2]
 ·exact h3 (j+1)
theorem yH.skip {o:Oper}(hw:eT ops (eC n sp) o=some false)(k:yH C ev f ops bs t0 (i+1) r n (ah8 sp o.dst dm) H λrs sp' H'=>K (⟨[],.unwanted⟩::rs) sp' H'):yH C ev f ops bs t0 i (o::r) n sp H K:=by
 obtain⟨rs,sp',H',h1,h2,h3,h4⟩:=k;refine⟨⟨[],.unwanted⟩::rs,sp',H', ?_, ?_,λj=> ?_,h4⟩
 ·simp only[G5,Ys,xB,hw,wY.after,gl,l5,h1]
 ·simp only[Cn,wY.after,gl,h2]
 ·exact h3 (j+1)
theorem yH.go {d:Tmp}{op:Op}{ty pos af}{fp:List Nm}{v:TV}{u:Heap}(UT:Sy C H (eC n sp) ⟨some d,op,ty,pos,af,none⟩=some fp)(h:fE C ev f (ov H fp) n sp (t0+i) (some d) op v u)
 (k:yH C ev f ops bs t0 (i+1) r n ((d,v)::sp) (H.eY u) λrs sp' H'=>K (⟨fp,.val v u⟩::rs) sp' H'):yH C ev f ops bs t0 i (⟨some d,op,ty,pos,af,none⟩::r) n sp H K:=
 yH.step rfl UT (h _ _ _ _) k
theorem yH.Si {op:Op}{ty pos af}{fp:List Nm}{v:TV}{u:Heap}(UT:Sy C H (eC n sp) ⟨none,op,ty,pos,af,none⟩=some fp)(h:fE C ev f (ov H fp) n sp (t0+i) none op v u)
 (k:yH C ev f ops bs t0 (i+1) r n sp (H.eY u) λrs sp' H'=>K (⟨fp,.val v u⟩::rs) sp' H'):yH C ev f ops bs t0 i (⟨none,op,ty,pos,af,none⟩::r) n sp H K:=
 yH.step rfl UT (h _ _ _ _) k
theorem yH.yes {d:Tmp}{op:Op}{ty pos af}{j gd:Nat}{w b:Bool}{fp:List Nm}{v:TV}{u:Heap}(hj:(ops[j]?).bind (·.dst)=some gd)(hn:Nat.blt gd n=true)(hl:look sp gd=.t (.bool b))(hb:(b==w)=true)
 (UT:Sy C H (eC n sp) ⟨some d,op,ty,pos,af,some (j,w)⟩=some fp)(h:fE C ev f (ov H fp) n sp (t0+i) (some d) op v u)
 (k:yH C ev f ops bs t0 (i+1) r n ((d,v)::sp) (H.eY u) λrs sp' H'=>K (⟨fp,.val v u⟩::rs) sp' H'):yH C ev f ops bs t0 i (⟨some d,op,ty,pos,af,some (j,w)⟩::r) n sp H K:=
 yH.step (by rw[mH rfl hj hn,hl];simp only[hb]) UT (h _ _ _ _) k
theorem yH.no {d:Tmp}{op:Op}{ty pos af}{j gd:Nat}{w b:Bool}(hj:(ops[j]?).bind (·.dst)=some gd)(hn:Nat.blt gd n=true)(hl:look sp gd=.t (.bool b))(hb:(b==w)=false)
 (k:yH C ev f ops bs t0 (i+1) r n ((d,dm)::sp) H λrs sp' H'=>K (⟨[],.unwanted⟩::rs) sp' H'):yH C ev f ops bs t0 i (⟨some d,op,ty,pos,af,some (j,w)⟩::r) n sp H K:=
 yH.skip (by rw[mH rfl hj hn,hl];simp only[hb]) k
theorem yH.none {d:Tmp}{op:Op}{ty pos af}{j gd:Nat}{w:Bool}(hj:(ops[j]?).bind (·.dst)=some gd)(hn:Nat.blt gd n=true)(hl:look sp gd=dm)
 (k:yH C ev f ops bs t0 (i+1) r n ((d,dm)::sp) H λrs sp' H'=>K (⟨[],.unwanted⟩::rs) sp' H'):yH C ev f ops bs t0 i (⟨some d,op,ty,pos,af,some (j,w)⟩::r) n sp H K:=
 yH.skip (by rw[mH rfl hj hn,hl];rfl) k
end
theorem AW.draw {id:Nat}{ops:Array Oper}{n t:Nat}{sp:List (Nat×TV)}{H:Heap}{Q:aQ->St->Prop}(hm:C.P.prog.follows .mixedOrders=true)(aJ:aC C ev)
 (h:yH C ev f ops (nC ops.toList []) t 0 ops.toList n sp H λrecs sp' H'=>nQ ops ops.toList recs (nC ops.toList []) ops.toList recs 0=true/\wZ 0 ops.toList=true/\Q .normal ⟨eC n sp',H',t+ops.size⟩):
 AW C (.region id ops true) ⟨eC n sp,H,t⟩ Q:=by
 obtain⟨recs,sp',H',h1,h2,h3,h4,h5,h6⟩:=h
 refine AW.drawn (ev:=ev) (f:=f) hm aJ (e:=.normal) (st':=⟨eC n sp',H',t+ops.size⟩) ?_ h6
 unfold Af
 simp only[h1,h4,h5,and_self,if_true,h3,h2]
theorem iM.WZ {ops:Array Oper}{Q:aQ->St->Prop}{n t:Nat}{sp:List (Nat×TV)}{H:Heap}{r:List Oper}{d:Tmp}{ty r2:TypeId}{x y:Operand}{tt pos af}{es:List Tree}{ti:TI}{e:TypeId}
 (hx:eZ C n sp x=some (.t (.sl es)))(hy:eZ C n sp y=some .bX)(ht:C.P.ty ty=some ti)(hd:ti.desc=.slice e)
 (k:∀b:Bool,(es≠ []->b=false)->iM C ops r ⟨eC n ((d,.t (.bool b))::sp),H,t+1⟩ Q):iM C ops (⟨some d,.binOp .eql ty x y r2,tt,pos,af,none⟩::r) ⟨eC n sp,H,t⟩ Q:=by
 intro G0 w0 G w a h0 hs hst R hR
 have h1:=cN hst.slots hst.j8 (fJ hx)
 have h2:=cN hst.slots hst.j8 (fJ hy)
 obtain⟨_,_,hu,_⟩:=bU (show bx C.P ty=some ti from ht)
 rw[hd] at hu
 obtain⟨ad,len,cap,ep,hne⟩:∃ad len cap,a.eval x=.slice ad len cap/\(es≠ []->ad.isNone=false):=by
  generalize a.eval x=p at h1;cases h1 with|t _ _ h1=>cases h1 with
   |Ek ad cap=>exact⟨_,_,_,rfl,λh=>absurd rfl h⟩
   |sl=>exact⟨_,_,_,rfl,λ_=>rfl⟩
 have eq:a.eval y=.slice none 0 0:=by
  generalize a.eval y=q at h2;cases h2;rfl
 have hrun:=(iw (x:=x) (y:=y) (p:=.slice ad len cap) (q:=.slice none 0 0) (C:=C) (w:=w) (t:=ty) (by intro z;simp) (by simp) rfl rfl (Cs hu ad len cap 0 0)).1
 have hop:er C.P (.loc [t]) ⟨some d,.binOp .eql ty x y r2,tt,pos,af,none⟩ a w G (.t (.bool ad.isNone)) []:=
  er.quiet hst.wf (by simp only[execOp];rw[ep,eq];simp only[Sem.run_bind] at hrun ⊢;rw[hrun];rfl) (.t _ _ (.bool _))
 have kk:=k ad.isNone hne
 refine wpList_step λK hK=> ?_
 rw[jy (G:=G) (show eT ops (eC n sp) ⟨some d,.binOp .eql ty x y r2,tt,pos,af,none⟩=some true from rfl) hst.slots]
 simp only[if_true]
 refine hop.exec.wp mW.no (λz w' hr=> ?_) (λch w' hr=> ?_)
 ·obtain⟨x',G',e1,hs',mT,hv⟩:=hr;simp at e1;subst e1;have:=hst.op (some d) hs' mT hv;rw[gl] at this;exact hK _ _ (kk G0 w0 G' w' _ h0 (ei.comp hs hs'.any) this R λe st' _ _ _ h1 h2=>hR _ _ _ _ _ h1 (Good.I2 (put_defers _ _ _) h2))
 ·obtain⟨x',G',e1,_⟩:=hr;simp at e1
def xC (C:ey)(fn:Func)(n:Nat)(st:St):Option br:=
 match lV C st fn.results.toList with
 |none=>none
 | some vs=>match s8 st.H 0 n with
  |none=>none
  |some os=>match reach st.H iH [] ((Co vs).names++os.flatMap aO.names) with
   |none=>none
   |some R=>(ow st.H R).map λh=>.ret (Co vs) os h
theorem BB {fn:Func}{n:Nat}{st:St}{a:Act}{r:br}{G G0:Gh}{w w0:World}(h:xC C fn n st=some r)(hs:ei G0 w0 G w)(hst:yG C G w st a):
 ∃v,(results fn a.tmps).run C.P w=.ok v w/\yA G0 w0 n r (.returned v) w:=by
 unfold xC at h
 split at h
 ·simp at h
 rename_i vs hvs
 obtain⟨v,hv,hr⟩:=IX hst hvs
 refine⟨v,hv, ?_⟩
 split at h
 ·simp at h
 rename_i os hos
 split at h
 ·simp at h
 rename_i R hR
 cases YW:ow st.H R with
 |none=>rw[YW] at h;simp at h
 | some nw=>
   rw[YW] at h
   simp only[Option.map_some,Option.some.injEq] at h
   subst h
   obtain⟨e1,e2⟩:=Gb hos
   refine⟨v,G,rfl,hs,e1,λi o ho=> ?_,λk o hm=> ?_,hr⟩
   · have:=e2 i o ho
     rw[Nat.zero_add] at this
     exact hst.heap _ _ this
   · obtain⟨e3,e4⟩:=y5 YW k o hm
     exact⟨e3,hst.heap _ _ e4⟩
def uD (C:ey)(fn:Func)(n:Nat)(r:br):aQ->St->Prop
 |.normal,st=>finish C fn n st=some r\/xC C fn n st=some r
 |.ret,st=>finish C fn n st=some r\/xC C fn n st=some r
 |.panic v,st=>v.names.any Nm.jf=false/\r=.panic v (uN st.H 0 n)
 |_,_=>False
theorem ah9 {f:FuncId}{fn:Func}{body:Code}{args:List TV}{bu:List aO}{r:br}(Nn:C.P.fn f=some fn)(hbody:fn.body=some body)(hname:fn.name≠ "runtime.NumGoroutine")
 (h:AW C body ⟨args++List.replicate (fn.ntmps - args.length) dm,dA 0 bu,0⟩ (uD C fn bu.length r)):ai C f args bu r:=by
 intro G w vs hw hg had hH hv
 have hfn:=C.P.Yo _ _ Nn
 have hst:yG C G w ⟨args++List.replicate (fn.ntmps - args.length) dm,dA 0 bu,0⟩ {tmps:=vs.toArray++Array.replicate (fn.ntmps - vs.toArray.size) undef,defers:=[]}:=by
  refine⟨hw,hg, ?_,hH,λp hp=>absurd hp (had.2 p)⟩;have e:(vs.toArray++Array.replicate (fn.ntmps - vs.toArray.size) undef).toList=vs++List.replicate (fn.ntmps - args.length) undef:=by simp[hv.1]
  unfold SR;rw[e];refine ec.append hv ⟨by simp,λj c u hc hu=> ?_⟩;rw[List.getElem?_replicate] at hc hu;by_cases hl:j<fn.ntmps - args.length
  ·rw[if_pos hl] at hc hu;simp at hc hu;subst hc;subst hu;exact qX G
  ·rw[if_neg hl] at hc;simp at hc
 have fin:∀{G':Gh} {w':World} {st:St} {a':Act},(finish C fn bu.length st=some r\/xC C fn bu.length st=some r)->ei G w G' w'->yG C G' w' st a'->∃v,(results fn a'.tmps).run C.P w'=.ok v w'/\yA G w bu.length r (.returned v) w':=
  λh hs hst=>h.elim (λh=>sX h hs hst) (λh=>BB h hs hst)
 refine .inl ⟨?_,calls_of_wp hfn hbody ?_⟩
 ·simp[callFunc,hfn,hname,hbody]
 ·refine wp_mono (h G w G w _ had.2 (Step.refl hw _ _) hst) λex a' w' ⟨e,st,hq,hgd⟩=> ?_
  cases e with
  | normal=>
    obtain⟨G',hs,hd,rfl,qp⟩:=hgd
    exact⟨hd,fin hq hs qp⟩
  | ret=>
    obtain⟨G',hs,hd,rfl,qp⟩:=hgd
    exact⟨hd,fin hq hs qp⟩
  |exit id=>exact hq.elim
  | panic v=>
    obtain⟨_,rfl⟩:=hq
    obtain⟨G',hs,hd,x,rfl,hx,hH',_⟩:=hgd
    refine⟨hd,x,G',rfl,hs,λi o ho=> ?_,hx⟩
    have:=xo ho
    rw[Nat.zero_add] at this
    exact hH' _ _ this
theorem qw {f:FuncId}{fn:Func}{body:Code}{args:List TV}{bu:List aO}{r:br}(n k:Nat)(Nn:C.P.fn f=some fn)(hbody:fn.body=some body)(hname:fn.name≠ "runtime.NumGoroutine")
 (hn:fn.ntmps=n)(ha:args.length=k)(hk:k<=n)(h:AW C body ⟨eC n (BA 0 args),dA 0 bu,0⟩ (uD C fn bu.length r)):ai C f args bu r:=by
 refine ah9 Nn hbody hname (AW.re (Re.start args (fn.ntmps - args.length) _ _) ?_)
 rw[show args.length+(fn.ntmps - args.length)=n by omega]
 exact h
end
end Go.Abs
end
noncomputable section
namespace Go.Abs
open Go
def za:Tree->Bool
 |.agg _=>true
 |_=>false
def EOk (ag:Bool)(sz:Nat)(e:Tree):Prop:=e.cells.length=sz/\e.cells.all Tree.leaf=true/\za e=ag
def eP (ag:Bool)(sz:Nat)(es:List Tree):Prop:=∀e∈es,EOk ag sz e
theorem eP.nil {ag:Bool}{sz:Nat}:eP ag sz []:=λ_ h=>by simp at h
theorem eP.cons {ag:Bool}{sz:Nat}{e:Tree}{es:List Tree}(h:EOk ag sz e)(hs:eP ag sz es):eP ag sz (e::es):=λx hx=>by
 rcases List.mem_cons.1 hx with rfl|hx
 ·exact h
 ·exact hs x hx
theorem eP.append {ag:Bool}{sz:Nat}{a b:List Tree}(h:eP ag sz a)(k:eP ag sz b):eP ag sz (a++b):=λx hx=>(List.mem_append.1 hx).elim (h x) (k x)
theorem eP.take {ag:Bool}{sz:Nat}{a:List Tree}(h:eP ag sz a)(n:Nat):eP ag sz (a.take n):=λx hx=>h x (List.mem_of_mem_take hx)
theorem eP.lens {ag:Bool}{sz:Nat}{es:List Tree}(h:eP ag sz es):∀e∈es,e.cells.length=sz:=λe he=>(h e he).1
theorem eP.Ap {ag:Bool}{sz:Nat}{es:List Tree}(h:eP ag sz es):((flat es).map TV.t).all TV.leaf=true:=by
 rw[List.all_eq_true];intro v hv;obtain⟨x,hx,rfl⟩:=List.mem_map.1 hv;obtain⟨e,he,hxe⟩:=List.mem_flatMap.1 hx;exact List.all_eq_true.1 (h e he).2.1 x hxe
theorem eP.length {ag:Bool}{sz:Nat}{es:List Tree}(h:eP ag sz es):((flat es).map TV.t).length=es.length*sz:=by
 rw[List.length_map,fA h.lens]
theorem W4 {e:Tree}(h:za e=true):e=.agg e.cells:=by
 cases e<;>simp_all [za,Tree.cells]
theorem one_cell {e:Tree}(h:za e=false):e.cells=[e]:=by
 cases e<;>simp_all [za,Tree.cells]
theorem Jf {ag:Bool}{sz:Nat}(hz:0<sz):∀{es:List Tree},eP ag sz es->chunk ag sz es.length (flat es)=some es
 | [],_=>rfl
 | e::r,h=>by
  obtain⟨h1,h2,h3⟩:=h e List.mem_cons_self
  have ih:=Jf hz (es:=r) λx hx=>h x (List.mem_cons_of_mem _ hx)
  have hd:(flat (e::r)).drop sz=flat r:=by
   simp only[flat,List.flatMap_cons]
   rw[← h1,List.drop_left]
  have ht:(flat (e::r)).take sz=e.cells:=by
   simp only[flat,List.flatMap_cons]
   rw[← h1,List.take_left]
  have hl:sz<=(flat (e::r)).length:=by
   simp only[flat,List.flatMap_cons,List.length_append]
   omega
  simp only[List.length_cons,chunk,if_pos hl,hd,ih,ht]
  cases ag with
  |true=>simp only[if_true];rw[← W4 h3]
  |false=>
   have hc:=one_cell h3
   have e1:sz=1:=by rw[← h1,hc];rfl
   have hlf:e.leaf=true:=by rw[hc] at h2;simpa using h2
   have ef:flat (e::r)=e::flat r:=by simp only[flat,List.flatMap_cons,hc,List.singleton_append]
   simp only[Bool.false_eq_true,if_false,ef,e1,hlf,and_self,if_true]
theorem Jg (g:TV->Option (Tree×List Nm))(hg:∀x,g (.t x)=some (x,[])):∀(ts:List Tree),Ck g (ts.map .t)=some (ts,[])
 | []=>rfl
 |x::r=>by simp only[List.map_cons,Ck,hg,Jg g hg r,List.nil_append]
theorem Zg (H:Heap)(n:Nat)(x:Tree):su H n (.t x)=some (x,[]):=by cases n<;>rfl
theorem UY {H:Heap}{n:Nat}{k:Nm}{g:TypeId}{ag fz:Bool}{sz len:Nat}{es:List Tree}(hk:H.get k=some (.arr (g,ag) sz fz ((flat es).map .t)))(hu:eP ag sz es)(hz:0<sz)(hl:len=es.length):
 su H (n+1) (.ref k 0 len)=some (.sl es,[k]):=by
 subst hl
 have hc:0<sz/\(0+es.length) *sz=((flat es).map TV.t).length:=⟨hz,by rw[hu.length,Nat.zero_add]⟩
 have e1:(((flat es).map TV.t).drop (0*sz)).take (es.length*sz)=(flat es).map .t:=by
  rw[Nat.zero_mul,List.drop_zero,List.take_of_length_le (by rw[hu.length];exact Nat.le_refl _)]
 simp only[su,hk,if_pos hc,e1,Jg _ (Zg H n),Jf hz hu]
section
variable {C:ey}{ev:bt}{f:FuncId}{n:Nat}{sp:List (Nat×TV)}{H:Heap}{t:Nat}{d:Option Tmp}
theorem sta {P:jY}{ty:TypeId}{ti:TI}{x:TV}{k:Nm}{off:Nat}{g:TypeId×Bool}{cc:Nat}{cs:List TV}(ht:P.ty ty=some ti)(hk:H.get k=some (.arr g cc false cs))(hl:(decide (x.cells.length=ti.size)&&x.cells.all TV.leaf)=true)(ho:off+ti.size<=cs.length):
 storeT P H ty (.lK k cs.length off) x=some [(k,.arr g cc false (dN cs off x.cells))]:=by
 simp only[Bool.and_eq_true,decide_eq_true_eq] at hl
 simp only[storeT,bx,ht,hl.1,hl.2,hk,ho,and_self,if_true]
theorem L5 {sz:Nat}{es:List Tree}{i j m:Nat}{e:Tree}(hu:∀e∈es,e.cells.length=sz)(he:es[i]?=some e)(hj:j+m<=sz):((flat es).drop (i*sz+j)).take m=(e.cells.drop j).take m:=by
 refine List.ext_getElem? λq=> ?_
 by_cases hq:q<m
 ·rw[List.getElem?_take_of_lt hq,List.getElem?_take_of_lt hq,List.getElem?_drop,List.getElem?_drop,Nat.add_assoc,yV hu he (by omega)]
 ·rw[List.getElem?_eq_none (by rw[List.length_take];omega),List.getElem?_eq_none (by rw[List.length_take];omega)]
theorem PW:∀(ts:List Tree),allT (ts.map .t)=some ts
 | []=>rfl
 |x::r=>by simp only[List.map_cons,allT,PW r]
theorem W5 (ts:List Tree):AQ (ts.map .t)=.t (.agg ts):=by simp only[AQ,PW]
theorem kA {sz:Nat}{es:List Tree}{i j m:Nat}{e:Tree}(hu:∀e∈es,e.cells.length=sz)(he:es[i]?=some e)(hj:j+m<=sz):partT true m ((flat es).map .t) (i*sz+j)=some (.t (.agg ((e.cells.drop j).take m))):=by
 have hi:i<es.length:=(List.getElem?_eq_some_iff.1 he).1;have hle:i*sz+j+m<=((flat es).map TV.t).length:=by
  rw[List.length_map,fA hu];have:(i+1) *sz<=es.length*sz:=Nat.mul_le_mul_right _ hi;rw[Nat.succ_mul] at this;omega
 simp only[partT,if_true,if_pos hle];rw[← List.map_drop,← List.map_take,L5 hu he hj,W5]
theorem nT {sz:Nat}{es:List Tree}{i j:Nat}{e c:Tree}(hu:∀e∈es,e.cells.length=sz)(he:es[i]?=some e)(hc:e.cells[j]?=some c):partT false 1 ((flat es).map .t) (i*sz+j)=some (.t c):=by
 have hj:j<sz:=by rw[← hu e (List.mem_of_getElem? he)];exact(List.getElem?_eq_some_iff.1 hc).1
 simp only[partT,Bool.false_eq_true,if_false,List.getElem?_map,yV hu he hj,hc,Option.map_some]
theorem Zh {cs:List TV}{off:Nat}{vs:List TV}(h:(cs.drop off).take vs.length=vs):dN cs off vs=cs:=by
 unfold dN;conv=>rhs;rw[← List.take_append_drop off cs,← List.take_append_drop vs.length (cs.drop off),h,List.drop_drop]
 rw[List.append_assoc]
theorem HG {sz:Nat}{es:List Tree}{i j m:Nat}{e:Tree}(hu:∀e∈es,e.cells.length=sz)(he:es[i]?=some e)(hj:j+m<=sz):dN ((flat es).map .t) (i*sz+j) (((e.cells.drop j).take m).map .t)=(flat es).map .t:=by
 refine Zh ?_;have hl:e.cells.length=sz:=hu e (List.mem_of_getElem? he);rw[List.length_map,List.length_take,List.length_drop,hl,Nat.min_eq_left (by omega),← List.map_drop,← List.map_take,L5 hu he hj]
theorem aia {ag:Bool}{sz:Nat}{es:List Tree}(hu:eP ag sz es):gH H ag sz (.t (.sl es))=some (es.length,(flat es).map .t):=by
 have:kR sz es=true:=by
  cases es with
  |nil=>rfl
  |cons e r=>simp only[kR,(hu e List.mem_cons_self).1,BEq.rfl]
 simp only[gH,this,if_true]
theorem adX {ag:Bool}{sz:Nat}{es:List Tree}(hu:eP ag sz es):gH H ag sz (.pZ es)=some (es.length,(flat es).map .t):=by
 have:kR sz es=true:=by
  cases es with
  |nil=>rfl
  |cons e r=>simp only[kR,(hu e List.mem_cons_self).1,BEq.rfl]
 simp only[gH,this,if_true]
def UZ (y:TV)(es:List Tree):Prop:=y=.t (.sl es)\/y=.pZ es
theorem Nu {ag:Bool}{sz:Nat}{y:TV}{es:List Tree}(h:UZ y es)(hu:eP ag sz es):gH H ag sz y=some (es.length,(flat es).map .t):=by
 rcases h with rfl|rfl
 ·exact aia hu
 ·exact adX hu
structure L6 (P:jY)(st elem:TypeId)(te:TI):Prop where
 sl:∃ti,P.ty st=some ti/\ti.desc=.slice elem
 el:P.ty elem=some te
 ze:∃z,te.zero=some z/\te.size≠0/\z.cells.length=te.size/\te.bytes≠0
theorem uT {nm:Nm}{s x:TV}{st elem:TypeId}{te:TI}(h:L6 C.P st elem te){m:Nat}{cs:List TV}(hs:gH H te.agg te.size x=some (m,cs))(hm:m≠0)(hl:cs.all TV.leaf=true){r:Option (TV×Heap)}
 (hr:  (match s with
  |.bX=>if m*te.bytes<=gI then some (.ref nm 0 m,[(nm,.arr (elem,te.agg) te.size false cs)]) else none
  |.pZ es=>match gH H te.agg te.size (.pZ es) with
   |some (n,old)=>if(n+m) *te.bytes<=gI then some (.ref nm 0 (n+m),[(nm,.arr (elem,te.agg) te.size false (old++cs))]) else none
   |none=>none
  |.ref k 0 len=>match kz H k 0 len with
   |some (g,e,fz,old)=>if e=te.size/\g.1=elem/\(len+m) *te.bytes<=gI then some (.ref k 0 (len+m),[(k,.arr g e fz (old++cs))]) else none
   |none=>none
  |_=>none:Option (TV×Heap))=r):lR C.P nm H st st s x=r:=by
 obtain⟨⟨ti,h1,h2⟩,h3,z,h4,h5,h6,h7⟩:=h
 have hc:¬(te.size=0\/z.cells.length≠te.size\/te.bytes=0):=by
  rintro (h|h|h)
  ·exact h5 h
  ·exact h h6
  ·exact h7 h
 unfold lR
 simp only[bx,h1,h2,h3,h4,if_neg hc,hs,if_neg hm,hl,if_true]
 exact hr
theorem S3 {x y:Operand}{st elem:TypeId}{te:TI}{v:TV}{es:List Tree}(h:L6 C.P st elem te)(hx:eZ C n sp x=some (.pZ []))(hy:eZ C n sp y=some v)(hv:UZ v es)(hu:eP te.agg te.size es)(hne:es≠ [])(hb:es.length*te.bytes<=gI):
 fE C ev f H n sp t d (.call ⟨.builtin .append, #[x,y], #[st,st]⟩) (.ref (.loc [t]) 0 es.length) [(.loc [t],.arr (elem,te.agg) te.size false ((flat es).map .t))]:=by
 refine L4 (vs:=[.pZ [],v]) (by simp only[tB,hx,hy]) ?_
 show lR C.P (.loc [t]) H st st (.pZ []) v=_
 refine uT h (Nu hv hu) (by simpa using hne) hu.Ap ?_
 have e:gH H te.agg te.size (.pZ [])=some (0,[]):=rfl
 simp only[e,Nat.zero_add,if_pos hb,List.nil_append]
theorem S4 {x y:Operand}{st elem:TypeId}{te:TI}{s v:TV}(h:L6 C.P st elem te)(hx:eZ C n sp x=some s)(hy:eZ C n sp y=some v)(hv:UZ v []\/v=.bX)(hs:s=.bX\/(∃es,s=.t (.sl es))\/∃es,s=.pZ es):
 fE C ev f H n sp t d (.call ⟨.builtin .append, #[x,y], #[st,st]⟩) s []:=by
 refine L4 (vs:=[s,v]) (by simp only[tB,hx,hy]) ?_
 obtain⟨⟨ti,h1,h2⟩,h3,z,h4,h5,h6,h7⟩:=h
 have hc:¬(te.size=0\/z.cells.length≠te.size\/te.bytes=0):=by
  rintro (h|h|h)
  ·exact h5 h
  ·exact h h6
  ·exact h7 h
 have hsrc:gH H te.agg te.size v=some (0,[]):=by
  rcases hv with (rfl|rfl)|rfl<;>rfl
 show lR C.P (.loc [t]) H st st s v=some (s,[])
 unfold lR
 simp only[bx,h1,h2,h3,h4,if_neg hc,hsrc,if_true]
 rcases hs with rfl|⟨es,rfl⟩|⟨es,rfl⟩<;>rfl
theorem E0 {ty elem:TypeId}{ti te:TI}{z:TV}(ha:d.any (C.lS f)=false)(ht:C.P.ty ty=some ti)(hd:ti.desc=.slice elem)(hte:C.P.ty elem=some te)(hz:te.zero=some z)(hc:(decide (0<te.size)&&decide (z.cells.length=te.size)&&z.cells.all TV.leaf)=true):
 fE C ev f H n sp t d (.buildSlice ty 0 #[]) (.pZ []) []:=λ_ _ _ _=>by
 simp only[Bool.and_eq_true,decide_eq_true_eq] at hc
 obtain⟨⟨h1,h2⟩,h3⟩:=hc
 have Zi:0<te.size/\0*te.size<=16777216/\z.cells.length=te.size/\z.cells.all TV.leaf=true:=⟨h1,by omega,h2,h3⟩
 simp only[bl,evalOp,s6,uL,bx,ht,hd,hte,hz,if_pos Zi,rG,uK,ha,List.map_nil,allT,Option.bind_some,chunk,List.isEmpty_nil,if_true]
theorem Nv {ty r2:TypeId}{x y:Operand}{k:IntKind}{a:Int}(h:eZ C n sp x=some (.t (.int k a)))(h2:eZ C n sp y=some (.t (.int k a))):fE C ev f H n sp t d (.binOp .neq ty x y r2) (.t (.bool false)) []:=Jb h h2 (by simp[Wm])
theorem E1 {l:List Tree}{i:Nat}{e:Tree}(h:l[i]?=some e):l.take (i+1)=l.take i++[e]:=by
 obtain⟨h1,rfl⟩:=List.getElem?_eq_some_iff.1 h;exact(List.take_append_getElem h1).symm
theorem Zj {fn:Func}{st:St}{vs:List TV}{x:Tree}{ks:List Nm}(hr:lV C st fn.results.toList=some vs)(hf:su st.H jh (Co vs)=some (x,ks)):finish C fn 0 st=some (.ret (.t x) [] []):=by
 unfold finish;simp only[hr,hf,s8,TV.names,List.flatMap_nil,List.append_nil];rfl
theorem W6 {H:Heap}{m:Nat}{k:Nm}{g:TypeId×Bool}{cc:Nat}{fz:Bool}{ts:List Tree}(hk:H.get k=some (.arr g cc fz (ts.map .t))):reach H (m+2) [] [k]=some [k]:=by
 have h1:¬k∈([]:List Nm):=by simp
 simp only[reach,if_neg h1,hk,aO.names,uS,List.append_nil,List.nil_append]
theorem Nw {fn:Func}{st:St}{k:Nm}{o len:Nat}{g:TypeId×Bool}{cc:Nat}{fz:Bool}{ts:List Tree}(hr:lV C st fn.results.toList=some [.ref k o len])(hk:st.H.get k=some (.arr g cc fz (ts.map .t)))(hl:k.jf=true):
 xC C fn 0 st=some (.ret (.ref k o len) [] [(k,.arr g cc fz (ts.map .t))]):=by
 unfold xC
 simp only[hr,s8,Co,TV.names,List.flatMap_nil,List.append_nil]
 rw[show iH=3998+2 from rfl,W6 hk]
 simp only[ow,hl,if_true,hk,Option.map_some]
theorem S5 {g:FuncId}{ts:List Tree}{v v':TV}{news news':Heap}(he:ev g (ts.map .t) []=some (.ret v [] news))(hv:v.rn (nB [] t)=some v')(hn:kj [] t news=some news'):uM ev H g (ts.map .t) t=some (.val v' news'):=by
 unfold uM;simp only[Pb,vE,uS];have h1:reach (H.eY (eO H [])) iH [] []=some []:=rfl;rw[h1];simp only[List.nodup_nil,if_true,sY,jK,he,hv,hn,ki];rfl
theorem CQ {g:FuncId}{args:Array Operand}{ats:Array TypeId}{ts:List Tree}{v v':TV}{news news':Heap}(h:tB C n sp args.toList=some (ts.map .t))(he:ev g (ts.map .t) []=some (.ret v [] news))(hv:v.rn (nB [] t)=some v')(hn:kj [] t news=some news')(hk:C.lS f (d.getD 255)=false:=by rfl):
 fE C ev f H n sp t d (.call ⟨.value (.func g),args,ats⟩) v' news':=
 S1 (y9 h) (S5 he hv hn) hk
theorem zb {p:List Nat}{g:TypeId×Bool}{cc:Nat}{fz:Bool}{ts:List Tree}:kj [] t [(.loc p,.arr g cc fz (ts.map .t))]=some [(.loc (t::p),.arr g cc fz (ts.map .t))]:=by
 simp only[kj,nB,aO.rn,sY,Option.map_some]
theorem kW {σ:Nm->Option Nm}{g:TypeId×Bool}{cc:Nat}{fz:Bool}{ts:List Tree}:aO.rn σ (.arr g cc fz (ts.map .t))=some (.arr g cc fz (ts.map .t)):=by
 simp only[aO.rn,sY,Option.map_some]
theorem PX {H:Heap}{n:Nat}{k:Nm}{g:TypeId}{ag fz:Bool}{sz len:Nat}{es es':List Tree}(hk:H.get k=some (.arr (g,ag) sz fz ((flat es).map .t)))(hu:eP ag sz es)(hz:0<sz)(hl:len=es.length)(he:es=es'):
 su H (n+1) (.ref k 0 len)=some (.sl es',[k]):=by
 subst he
 exact UY hk hu hz hl
theorem Lg {x:Operand}{v:Tree}(h:eZ C n sp x=some (.t v)):tB C n sp [x]=some ([v].map .t):=by
 simp only[tB,h];rfl
theorem rh2 {x y:Operand}{v u:Tree}(h:eZ C n sp x=some (.t v))(h2:eZ C n sp y=some (.t u)):tB C n sp [x,y]=some ([v,u].map .t):=by
 simp only[tB,h,h2];rfl
open Classical in
def ct1 (P:Tree->Prop)(res:Tree->br):List TV->List aO->Option br:=λas' os=>match as',os with
 | [.t x],[]=>if P x then some (res x) else none
 |_,_=>none
open Classical in
def ct2 (P:Tree->Tree->Prop)(res:Tree->Tree->br):List TV->List aO->Option br:=λas' os=>match as',os with
 | [.t x,.t y],[]=>if P x y then some (res x y) else none
 |_,_=>none
theorem aib {g:FuncId}{P:Tree->Prop}{res:Tree->br}(h:∀x,P x->ai C g [.t x] [] (res x)):kN C g (ct1 P res):=by
 intro args bu r hr;unfold ct1 at hr;split at hr
 ·split at hr
  ·rename_i x hp;simp at hr;subst hr;exact h x hp
  ·simp at hr
 ·simp at hr
theorem Zk {g:FuncId}{P:Tree->Tree->Prop}{res:Tree->Tree->br}(h:∀x y,P x y->ai C g [.t x,.t y] [] (res x y)):kN C g (ct2 P res):=by
 intro args bu r hr;unfold ct2 at hr;split at hr
 ·split at hr
  ·rename_i x y hp;simp at hr;subst hr;exact h x y hp
  ·simp at hr
 ·simp at hr
theorem aic {g:FuncId}{P:Tree->Prop}{res:Tree->br}{ev:bt}{x:Tree}(h:P x):qf g (ct1 P res) ev g [.t x] []=some (res x):=by
 simp only[qf,if_true,ct1,if_pos h]
theorem Zl {g:FuncId}{P:Tree->Tree->Prop}{res:Tree->Tree->br}{ev:bt}{x y:Tree}(h:P x y):qf g (ct2 P res) ev g [.t x,.t y] []=some (res x y):=by
 simp only[qf,if_true,ct2,if_pos h]
theorem qZ {g k:FuncId}{s:List TV->List aO->Option br}{ev:bt}{as':List TV}{os:List aO}{r:Option br}(hne:(k==g)=false)(h:ev k as' os=r):qf g s ev k as' os=r:=by
 have:¬k=g:=by simpa using hne
 simp only[qf,if_neg this];exact h
end
end Go.Abs
end
