/- Sparse states: the slots of which something is known; one operation at a time. -/
import Derived.Test.YtacmmaaabfhhoaaGreatDoorF
set_option linter.unusedVariables false
set_option linter.unusedSimpArgs false
noncomputable section
namespace Go.Abs
open Go
def look:List (Nat×TV)->Nat->TV
 | [],_=>.any
 |(j,v)::r,i=>bif Nat.beq i j then v else look r i
def dU (n:Nat)(sp:List (Nat×TV)):List TV:=(List.range n).map (look sp)
theorem fI (n:Nat)(sp:List (Nat×TV)):(dU n sp).length=n:=by simp[dU]
theorem mJ {n:Nat}{sp:List (Nat×TV)}{i:Nat}(h:i<n):(dU n sp)[i]?=some (look sp i):=by
 simp[dU,h]
theorem Qz {n:Nat}{sp:List (Nat×TV)}{i:Nat}(h:i<n):Vd (dU n sp) i=look sp i:=by
 rw[Fi,List.getD_eq_getElem?_getD,mJ h];rfl
theorem nu (i j:Nat)(v:TV)(sp:List (Nat×TV)):look ((j,v)::sp) i=if i=j then v else look sp i:=by
 show(bif Nat.beq i j then v else look sp i)=_;cases hb:Nat.beq i j with
 |true=>rw[if_pos (Nat.eq_of_beq_eq_true hb)];rfl
 |false=>rw[if_neg (Nat.ne_of_beq_eq_false hb)];rfl
theorem QA (n:Nat)(sp:List (Nat×TV))(d:Nat)(v:TV):Ve v (dU n sp) d=dU n ((d,v)::sp):=by
 rw[nH];refine List.ext_getElem? λi=> ?_
 rw[List.getElem?_set,fI];by_cases hi:i<n
 ·have h1:(dU n ((d,v)::sp))[i]?=some (look ((d,v)::sp) i):=mJ hi;rw[h1,nu];by_cases e:d=i
  ·subst e;simp[hi]
  ·rw[if_neg e,if_neg (λh=>e h.symm),mJ hi]
 ·have h1:(dU n ((d,v)::sp))[i]?=none:=by rw[List.getElem?_eq_none_iff,fI];omega
  rw[h1];by_cases e:d=i
  ·subst e;simp[hi]
  ·rw[if_neg e,List.getElem?_eq_none_iff,fI];omega
section
variable {C:cE}
def Y0 (sp:List (Nat×TV))(d:Option Tmp)(v:TV):List (Nat×TV):=match d with
 |some d=>(d,v)::sp
 |none=>sp
theorem eU (n:Nat)(sp:List (Nat×TV))(d:Option Tmp)(v:TV):cI (dU n sp) d v=dU n (Y0 sp d v):=by
 cases d with
 |none=>rfl
 |some d=>exact QA n sp d v
def dM (C:cE)(n:Nat)(sp:List (Nat×TV)):Operand->Option TV
 |.tmp t=>bif Nat.blt t n then some (look sp t) else none
 |.const v=>valOf v
 |.global g=>match C.iC g with
  |some cs=>some (.jC cs 0)
  |none=>none
 |.func f=>some (.t (.fn (.func f)))
theorem ey {n:Nat}{sp:List (Nat×TV)}{x:Operand}{v:TV}(h:dM C n sp x=some v):bU C (dU n sp) x=some v:=by
 cases x with
 | tmp t=>
  simp only[dM] at h
  cases hb:Nat.blt t n with
  |false=>rw[hb] at h;simp at h
  |true=>
   rw[hb] at h
   simp only[cond_true,Option.some.injEq] at h
   have:t<n:=by simpa [Nat.blt,Nat.succ_le_iff] using hb
   simp only[bU,Qz this,h]
 |const v=>exact h
 |global g=>exact h
 |func f=>exact h
def qc (C:cE)(n:Nat)(sp:List (Nat×TV)):List Operand->Option (List TV)
 | []=>some []
 |x::r=>match dM C n sp x,qc C n sp r with
  |some v,some vs=>some (v::vs)
  |_,_=>none
theorem Cf {n:Nat}{sp:List (Nat×TV)}:∀{xs:List Operand} {vs:List TV},qc C n sp xs=some vs->jd C (dU n sp) xs=some vs:=by
 intro xs;induction xs with
 |nil=>intro vs h;exact h
 |cons x r ih=>
  intro vs h
  simp only[qc] at h
  cases h1:dM C n sp x<;>cases h2:qc C n sp r<;>simp only[h1,h2,reduceCtorEq] at h
  simp only[jd,ey h1,ih h2]
  exact h
theorem Em (S:List Nm)(sp sp':List (Nat×TV))(h:∀i,look sp' i=.any\/(look sp i).rn (Ia S)=some (look sp' i)):∀(l:List Nat),NS (Ia S) (l.map (look sp)) (l.map (look sp'))
 | []=>trivial
 |i::l=>⟨h i,Em S sp sp' h l⟩
def fits (S:List Nm)(sp:List (Nat×TV)):List (Nat×TV)->Prop
 | []=>True
 |(i,v)::r=>(look sp i).rn (Ia S)=some v/\fits S sp r
theorem En {S:List Nm}{sp:List (Nat×TV)}:∀{sp':List (Nat×TV)},fits S sp sp'->∀i,look sp' i=.any\/(look sp i).rn (Ia S)=some (look sp' i)
 | [],_,i=>.inl rfl
 |(j,v)::r,h,i=>by
  rw[nu]
  by_cases e:i=j
  · subst e;rw[if_pos rfl];exact .inr h.1
  · rw[if_neg e];exact En h.2 i
theorem Re.sp (S:List Nm){n:Nat}{sp sp':List (Nat×TV)}{H H':Heap}{t t':Nat}(h1:fits S sp sp')(h2:B8 (Ia S) H H')(hn:S.Nodup)(hl:S.all Nm.eR=true)(hS:∀k∈S,(H.get k).isSome=true)(ht:S.length<=t'):
 Re C ⟨dU n sp,H,t⟩ ⟨dU n sp',H',t'⟩:=
 Re.mk S (Em S sp sp' (En h1) _) h2 hn hl hS ht
theorem Re.sq (S:List Nm){n:Nat}{sp sp':List (Nat×TV)}{H H':Heap}{t t':Nat}(h1:fits S sp sp')(h2:B8 (Ia S) H H')(hn:S.Nodup)(hl:S.all Nm.eR=true)(hS:S.all (λk=>(H.get k).isSome)=true)(ht:S.length<=t'):
 Re C ⟨dU n sp,H,t⟩ ⟨dU n sp',H',t'⟩:=Re.sp S h1 h2 hn hl (λk hk=>List.all_eq_true.1 hS k hk) ht
def same (sp:List (Nat×TV)):List (Nat×TV)->Prop
 | []=>True
 |(i,v)::r=>look sp i=v/\same sp r
theorem Eo {sp:List (Nat×TV)}:∀{sp':List (Nat×TV)},same sp sp'->∀i,look sp' i=.any\/look sp i=look sp' i
 | [],_,i=>.inl rfl
 |(j,v)::r,h,i=>by
  rw[nu]
  by_cases e:i=j
  · subst e;rw[if_pos rfl];exact .inr h.1
  · rw[if_neg e];exact Eo h.2 i
theorem cr.less {G:Gh}{xs ys:List TV}{vs:List Value}(h:cr G xs vs)(hl:ys.length=xs.length)(hh:∀(i:Nat) (x y:TV),xs[i]?=some x->ys[i]?=some y->y=.any\/x=y):cr G ys vs:=by
 refine⟨by rw[hl];exact h.1,λj c v hc hv=> ?_⟩;have hj:j<xs.length:=by rw[← hl];exact(List.getElem?_eq_some_iff.1 hc).1
 rcases hh j xs[j] c (List.getElem?_eq_getElem hj) hc with rfl|e
 ·exact .any _
 ·rw[← e];exact h.2 j _ v (List.getElem?_eq_getElem hj) hv
theorem Re.slots {n:Nat}{sp sp':List (Nat×TV)}{H:Heap}{t:Nat}(h:same sp sp'):Re C ⟨dU n sp,H,t⟩ ⟨dU n sp',H,t⟩:=by
 intro G0 w0 G w a h0 hs hst;refine⟨G,hs,hst.wf,hst.iC,cr.less hst.slots (by simp[fI]) λi x y hx hy=> ?_,hst.heap,hst.fresh⟩;have hi:i<n:=by have:=(List.getElem?_eq_some_iff.1 hx).1;simpa [fI] using this
 simp only[mJ hi,Option.some.injEq] at hx hy;subst hx;subst hy;exact Eo h i
theorem Re.heap {sl:List TV}{H H':Heap}{t:Nat}(h:∀k o,H'.get k=some o->H.get k=some o):Re C ⟨sl,H,t⟩ ⟨sl,H',t⟩:=
 λG0 w0 G w a h0 hs hst=>⟨G,hs,hst.wf,hst.iC,hst.slots,λk o hk=>hst.heap k o (h k o hk),hst.fresh⟩
def w9:Nat->List TV->List (Nat×TV)
 |_,[]=>[]
 |i,v::r=>(i,v)::w9 (i+1) r
theorem Cg:∀(l:List TV) (i j:Nat),i<=j->look (w9 i l) j=.any\/l[j - i]?=some (look (w9 i l) j)
 | [],_,_,_=>.inl rfl
 | v ::r,i,j,h=>by
   simp only[w9]
   rw[nu]
   by_cases e:j=i
   · subst e;simp
   · rw[if_neg e]
     have:=Cg r (i+1) j (by omega)
     have e2:j - i=(j - (i+1))+1:=by omega
     rw[e2,List.getElem?_cons_succ]
     exact this
theorem Re.start (args:List TV)(k:Nat)(H:Heap)(t:Nat):Re C ⟨args++List.replicate k bR,H,t⟩ ⟨dU (args.length+k) (w9 0 args),H,t⟩:=by
 intro G0 w0 G w a h0 hs hst;refine⟨G,hs,hst.wf,hst.iC,cr.less hst.slots (by simp[fI]) λi x y hx hy=> ?_,hst.heap,hst.fresh⟩;have hi:i<args.length+k:=by have:=(List.getElem?_eq_some_iff.1 hx).1;simpa using this
 rw[mJ hi,Option.some.injEq] at hy;subst hy;rcases Cg args 0 i (Nat.zero_le _) with h|h
 ·exact .inl h
 ·right;rw[Nat.sub_zero] at h;have hl:=(List.getElem?_eq_some_iff.1 h).1;rw[List.getElem?_append_left hl,h] at hx;exact(Option.some.inj hx).symm
end
end Go.Abs
end
noncomputable section
namespace Go.Abs
open Go
section
variable {C:cE}{ev:aX}{f:FuncId}{ops:Array Oper}{Q:aJ->St->Prop}{n:Nat}{sp:List (Nat×TV)}{H:Heap}{t:Nat}{r:List Oper}
def dS (C:cE)(ev:aX)(f:FuncId)(H:Heap)(n:Nat)(sp:List (Nat×TV))(t:Nat)(d:Option Tmp)(op:Op)(v:TV)(u:Heap):Prop:=
 ∀ty pos af g,aR C ev f H (dU n sp) t ⟨d,op,ty,pos,af,g⟩=some (.val v u)
theorem cD.go {d:Tmp}{op:Op}{ty pos af}{v:TV}{u:Heap}(az:aF C ev)(h:dS C ev f H n sp t (some d) op v u)(k:cD C ops r ⟨dU n ((d,v)::sp),H.dH u,t+1⟩ Q):
 cD C ops (⟨some d,op,ty,pos,af,none⟩::r) ⟨dU n sp,H,t⟩ Q:=by
 refine cD.step az rfl (h _ _ _ _) ?_
 rw[eU]
 exact k
theorem cD.Ch {op:Op}{ty pos af}{v:TV}{u:Heap}(az:aF C ev)(h:dS C ev f H n sp t none op v u)(k:cD C ops r ⟨dU n sp,H.dH u,t+1⟩ Q):
 cD C ops (⟨none,op,ty,pos,af,none⟩::r) ⟨dU n sp,H,t⟩ Q:=by
 refine cD.step az rfl (h _ _ _ _) ?_
 rw[eU]
 exact k
def gv (g:Bool)(v:TV):TV:=bif g then v else bR
theorem kK {j gd:Nat}{w:Bool}{o:Oper}(ho:o.guard=some (j,w))(hj:(ops[j]?).bind (·.dst)=some gd)(hn:Nat.blt gd n=true):
 dL ops (dU n sp) o=match look sp gd with|.t (.bool b)=>some (b==w)|.t (.dr [])=>some false|_=>none:=by
 have:gd<n:=by simpa [Nat.blt,Nat.succ_le_iff] using hn
 unfold dL
 simp only[ho,hj,mJ this]
 generalize look sp gd=x
 cases x with
 |t y=>cases y with
  |dr vs=>cases vs<;>rfl
  |_=>rfl
 |_=>rfl
theorem cD.guarded {d:Tmp}{op:Op}{ty pos af}{j gd:Nat}{w:Bool}{b g:Bool}{v:TV}(az:aF C ev)(hj:(ops[j]?).bind (·.dst)=some gd)(hn:Nat.blt gd n=true)
 (hl:(look sp gd=.t (.bool b)/\g=(b==w))\/∃g1,look sp gd=gv g1 (.t (.bool b))/\g=(g1&&(b==w)))
 (h:g=true->dS C ev f H n sp t (some d) op v [])(k:cD C ops r ⟨dU n ((d,gv g v)::sp),H,t+1⟩ Q):cD C ops (⟨some d,op,ty,pos,af,some (j,w)⟩::r) ⟨dU n sp,H,t⟩ Q:=by
 have hw:dL ops (dU n sp) ⟨some d,op,ty,pos,af,some (j,w)⟩=some g:=by
  rcases hl with ⟨hl,rfl⟩|⟨g1,hl,rfl⟩
  ·rw[kK rfl hj hn,hl]
  ·rw[kK rfl hj hn,hl];cases g1<;>rfl
 cases g with
 | true=>
   refine cD.step az hw (h rfl _ _ _ _) ?_
   rw[eU]
   exact k
 | false=>
   refine cD.unwanted hw ?_
   rw[eU]
   exact k
variable {d:Option Tmp}
theorem au {x:Operand}{v:TV}(h:dM C n sp x=some v):dS C ev f H n sp t d (.move x) v []:=λ_ _ _ _=>by
 simp only[aR,evalOp,ey h,xO,Option.map_some]
theorem aB {x:Operand}{v:TV}(h:dM C n sp x=some v):dS C ev f H n sp t d (.assign x) v []:=λ_ _ _ _=>by
 simp only[aR,evalOp,ey h,xO,Option.map_some]
theorem fh {x:Operand}{v:Tree}(h:dM C n sp x=some (.t v)):dS C ev f H n sp t d (.move x) (.t v) []:=au h
theorem bL {x:Operand}{v:Tree}(h:dM C n sp x=some (.t v)):dS C ev f H n sp t d (.assign x) (.t v) []:=aB h
theorem QB {c x y:Operand}{b:Bool}{u v:TV}(hc:dM C n sp c=some (.t (.bool b)))(hx:dM C n sp x=some u)(hy:dM C n sp y=some v):dS C ev f H n sp t d (.pick c x y) (if b then u else v) []:=λ_ _ _ _=>by
 simp only[aR,evalOp,ey hc,ey hx,ey hy]
theorem ym {ty:TypeId}{x:Operand}{b:Bool}(h:dM C n sp x=some (.t (.bool b))):dS C ev f H n sp t d (.unOp .not ty x) (.t (.bool (!b))) []:=λ_ _ _ _=>by
 simp only[aR,evalOp,ey h];cases b<;>rfl
theorem yo {elem:TypeId}{ti:TI}{z:TV}(ht:C.P.ty elem=some ti)(hz:ti.zero=some z)(hl:z.cells.all TV.leaf=true):dS C ev f H n sp t d (.alloc elem) (.ptr (.loc [t]) 0) [(.loc [t],.cells elem z.cells)]:=λ_ _ _ _=>by
 simp only[aR,evalOp,bh,ht,hz,hl,if_true]
theorem dQ {ty:TypeId}{x:Operand}{a v:TV}(h:dM C n sp x=some a)(hl:loadT C.P H ty a=some v):dS C ev f H n sp t d (.load ty x) v []:=λ_ _ _ _=>by
 simp only[aR,evalOp,ey h,hl,xO,Option.map_some]
theorem dR {ty:TypeId}{x:Operand}{a:TV}{v:Tree}(h:dM C n sp x=some a)(hl:loadT C.P H ty a=some (.t v)):dS C ev f H n sp t d (.load ty x) (.t v) []:=dQ h hl
theorem ld {P:iP}{ty:TypeId}{ti:TI}{a v:TV}{cs:List TV}{off:Nat}(ht:P.ty ty=some ti)(hc:sx H a=some (cs,off))(hp:partT ti.agg ti.size cs off=some v):loadT P H ty a=some v:=by
 simp only[loadT,bh,ht,hc,hp]
theorem Hs {P:iP}{ty:TypeId}{ti:TI}{x:TV}{k:Nm}{off:Nat}{g:TypeId}{cs:List TV}(ht:P.ty ty=some ti)(hc:H.get k=some (.cells g cs))(hl:(decide (x.cells.length=ti.size)&&x.cells.all TV.leaf&&decide (off+ti.size<=cs.length))=true):
 storeT P H ty (.ptr k off) x=some [(k,.cells g (cJ cs off x.cells))]:=by
 simp only[Bool.and_eq_true,decide_eq_true_eq] at hl
 obtain⟨⟨h1,h2⟩,h3⟩:=hl
 simp only[storeT,bh,ht,h1,h2,hc,h3,and_self,if_true]
theorem iu {ty:TypeId}{x y:Operand}{a v:TV}{u:Heap}(h:dM C n sp x=some a)(h2:dM C n sp y=some v)(hl:storeT C.P H ty a v=some u):dS C ev f H n sp t d (.store ty x y) bR u:=λ_ _ _ _=>by
 simp only[aR,evalOp,ey h,ey h2,hl,wC,Option.map_some]
def eH (P:iP)(s i:Nat):Option Nat:=match bh P s with
 | some ti=>match ti.desc with
  | .struct fs=>match fs[i]? with
   |some fd=>match bh P fd.type with
    |some tf=>if tf.size=0 then none else some fd.offset
    |none=>none
   |none=>none
  |_=>none
 |none=>none
theorem aG {s i off:Nat}{x:Operand}{a v:TV}(h:dM C n sp x=some a)(ho:eH C.P s i=some off)(hp:pU H a off=some v):dS C ev f H n sp t d (.fieldAddr s x i) v []:=λ_ _ _ _=>by
 unfold eH at ho;split at ho<;>try (simp at ho;done)
 rename_i ti BV;split at ho<;>try (simp at ho;done)
 rename_i fs hfs;split at ho<;>try (simp at ho;done)
 rename_i fd hfd;split at ho<;>try (simp at ho;done)
 rename_i tf PZ;split at ho<;>try (simp at ho;done)
 rename_i hz;simp at ho;subst ho;simp only[aR,evalOp,ey h,BV,hfs,hfd,PZ,if_neg hz,hp,xO,Option.map_some]
theorem Ap {ty:TypeId}{x i:Operand}{a j v:TV}(h:dM C n sp x=some a)(hi:dM C n sp i=some j)(hv:dW C.P H ty a j=some v):dS C ev f H n sp t d (.indexAddr ty x i) v []:=λ_ _ _ _=>by
 simp only[aR,evalOp,ey h,ey hi,hv,xO,Option.map_some]
theorem VA {ty:TypeId}{x i:Operand}{a j v:TV}(h:dM C n sp x=some a)(hi:dM C n sp i=some j)(hv:pV C.P ty a j=some v):dS C ev f H n sp t d (.index ty x i) v []:=λ_ _ _ _=>by
 simp only[aR,evalOp,ey h,ey hi,hv,xO,Option.map_some]
theorem fX {op:BinOp}{ty r2:TypeId}{x y:Operand}{a b v:TV}(h:dM C n sp x=some a)(h2:dM C n sp y=some b)(hv:qT C.P op ty x y a b=some v):dS C ev f H n sp t d (.binOp op ty x y r2) v []:=λ_ _ _ _=>by
 simp only[aR,evalOp,ey h,ey h2,hv,xO,Option.map_some]
theorem wrap64 {x:Int}(h1:-9223372036854775808<=x)(h2:x<=9223372036854775807):IntKind.i64.wrap x=x:=by
 simp only[IntKind.wrap,IntKind.bits,IntKind.signed];first|omega|(simp;omega)
theorem Ci {op:BinOp}{ty r2:TypeId}{x y:Operand}{k:IntKind}{a b:Int}{v:TV}(h:dM C n sp x=some (.t (.int k a)))(h2:dM C n sp y=some (.t (.int k b)))(hv:Ni op k a b=some v):dS C ev f H n sp t d (.binOp op ty x y r2) v []:=
 fX h h2 (by simp only[qT,if_true,hv])
theorem mZ {ty r2:TypeId}{x y:Operand}{k:IntKind}{a b:Int}(h:dM C n sp x=some (.t (.int k a)))(h2:dM C n sp y=some (.t (.int k b))):dS C ev f H n sp t d (.binOp .eql ty x y r2) (.t (.bool (a==b))) []:=Ci h h2 rfl
theorem mK {ty r2:TypeId}{x y:Operand}{k:IntKind}{a b:Int}(h:dM C n sp x=some (.t (.int k a)))(h2:dM C n sp y=some (.t (.int k b))):dS C ev f H n sp t d (.binOp .lss ty x y r2) (.t (.bool (decide (a<b)))) []:=Ci h h2 rfl
theorem QC {ty r2:TypeId}{x y:Operand}{k:IntKind}{a b:Int}(h:dM C n sp x=some (.t (.int k a)))(h2:dM C n sp y=some (.t (.int k b))):dS C ev f H n sp t d (.binOp .leq ty x y r2) (.t (.bool (decide (a<=b)))) []:=Ci h h2 rfl
theorem Ii {ty r2:TypeId}{x y:Operand}{k:IntKind}{a b:Int}(h:dM C n sp x=some (.t (.int k a)))(h2:dM C n sp y=some (.t (.int k b))):dS C ev f H n sp t d (.binOp .gtr ty x y r2) (.t (.bool (decide (a>b)))) []:=Ci h h2 rfl
theorem Ij {ty r2:TypeId}{x y:Operand}{k:IntKind}{a b:Int}(h:dM C n sp x=some (.t (.int k a)))(h2:dM C n sp y=some (.t (.int k b))):dS C ev f H n sp t d (.binOp .geq ty x y r2) (.t (.bool (decide (a>=b)))) []:=Ci h h2 rfl
theorem FP {ty r2:TypeId}{x y:Operand}{a b:Int}(h:dM C n sp x=some (.t (.int .i64 a)))(h2:dM C n sp y=some (.t (.int .i64 b)))(h3:-9223372036854775808<=a+b)(h4:a+b<=9223372036854775807):dS C ev f H n sp t d (.binOp .add ty x y r2) (.t (.int .i64 (a+b))) []:=
 Ci h h2 (by simp only[Ni,wrap64 h3 h4])
theorem XT {ty r2:TypeId}{x y:Operand}{a b:List UInt8}(h:dM C n sp x=some (.t (.str a)))(h2:dM C n sp y=some (.t (.str b))):dS C ev f H n sp t d (.binOp .eql ty x y r2) (.t (.bool (a==b))) []:=fX h h2 rfl
theorem QD {ty r2:TypeId}{x y:Operand}{a b:List UInt8}(h:dM C n sp x=some (.t (.str a)))(h2:dM C n sp y=some (.t (.str b))):dS C ev f H n sp t d (.binOp .neq ty x y r2) (.t (.bool (!(a==b)))) []:=fX h h2 rfl
theorem sQ {ty:TypeId}{x:Operand}{s:List UInt8}{ti:TI}(h:dM C n sp x=some (.t (.str s)))(ht:C.P.ty ty=some ti)(hd:ti.desc=.string):dS C ev f H n sp t d (.call ⟨.builtin .len, #[x], #[ty]⟩) (.t (.int .i64 s.length)) []:=λ_ _ _ _=>by
 have h1:jd C (dU n sp) (#[x].toList)=some [.t (.str s)]:=by simp only[jd,ey h]
 simp only[aR,evalOp,h1];delta kV;simp only[bh,ht,hd]
theorem FQ {ty e:TypeId}{x:Operand}{v:TV}{m:Nat}{ti:TI}(h:dM C n sp x=some v)(ht:C.P.ty ty=some ti)(hd:ti.desc=.slice e)(hl:wQ H v=some m)(h1:∀s,v≠ .t (.str s))(h2:v≠ .t .iQ)(h3:∀k,v≠ .map k):
 dS C ev f H n sp t d (.call ⟨.builtin .len, #[x], #[ty]⟩) (.t (.int .i64 m)) []:=λ_ _ _ _=>by
 have h4:jd C (dU n sp) (#[x].toList)=some [v]:=by simp only[jd,ey h]
 simp only[aR,evalOp,h4]
 delta kV
 simp only[bh,ht,hd]
 cases v with
 |t x=>cases x with
  |str s=>exact absurd rfl (h1 s)
  |iQ=>exact absurd rfl h2
  |_=>simp only[hl];rfl
 |map k=>exact absurd rfl (h3 k)
 |_=>simp only[hl];rfl
theorem oD {ty e:TypeId}{x:Operand}{es:List Tree}{ti:TI}(h:dM C n sp x=some (.t (.sl es)))(ht:C.P.ty ty=some ti)(hd:ti.desc=.slice e):dS C ev f H n sp t d (.call ⟨.builtin .len, #[x], #[ty]⟩) (.t (.int .i64 es.length)) []:=
 FQ h ht hd rfl (λ_=>by simp) (by simp) (λ_=>by simp)
theorem FT {ty e:TypeId}{x:Operand}{k:Nm}{o l:Nat}{ti:TI}(h:dM C n sp x=some (.ref k o l))(ht:C.P.ty ty=some ti)(hd:ti.desc=.slice e):dS C ev f H n sp t d (.call ⟨.builtin .len, #[x], #[ty]⟩) (.t (.int .i64 l)) []:=
 FQ h ht hd rfl (λ_=>by simp) (by simp) (λ_=>by simp)
theorem Ki {ty e:TypeId}{x:Operand}{ti:TI}(h:dM C n sp x=some .bJ)(ht:C.P.ty ty=some ti)(hd:ti.desc=.slice e):dS C ev f H n sp t d (.call ⟨.builtin .len, #[x], #[ty]⟩) (.t (.int .i64 (0:Nat))) []:=
 FQ h ht hd rfl (λ_=>by simp) (by simp) (λ_=>by simp)
theorem Kj {ty e:TypeId}{x:Operand}{es:List Tree}{ti:TI}(h:dM C n sp x=some (.j4 es))(ht:C.P.ty ty=some ti)(hd:ti.desc=.slice e):dS C ev f H n sp t d (.call ⟨.builtin .len, #[x], #[ty]⟩) (.t (.int .i64 es.length)) []:=
 FQ h ht hd rfl (λ_=>by simp) (by simp) (λ_=>by simp)
theorem Ep {b:Builtin}{args:Array Operand}{ats:Array TypeId}{vs:List TV}{v:TV}{u:Heap}(h:qc C n sp args.toList=some vs)(hv:kV C (.loc [t]) H b ats.toList vs=some (v,u)):dS C ev f H n sp t d (.call ⟨.builtin b,args,ats⟩) v u:=λ_ _ _ _=>by
 simp only[aR,evalOp,Cf h,hv]
theorem Cj {ty elem:TypeId}{ti te:TI}{x i:Operand}{es:List Tree}{k:IntKind}{m:Nat}{e:Tree}(h:dM C n sp x=some (.t (.sl es)))(hi:dM C n sp i=some (.t (.int k (m:Int))))(ht:C.P.ty ty=some ti)(hd:ti.desc=.slice elem)
 (hte:C.P.ty elem=some te)(he:es[m]?=some e)(hc:e.cells.length=te.size):dS C ev f H n sp t d (.indexAddr ty x i) (.jC e.cells 0) []:=
 Ap h hi (by
  have h1:fV (.t (.int k (m:Int)))=some m:=by simp[fV]
  simp only[dW,bh,ht,h1,hd,hte,he,hc,if_true])
theorem iD {ty:TypeId}{ti:TI}{x i:Operand}{s:List UInt8}{k:IntKind}{m:Nat}{b:UInt8}(h:dM C n sp x=some (.t (.str s)))(hi:dM C n sp i=some (.t (.int k (m:Int))))(ht:C.P.ty ty=some ti)(hd:ti.desc=.string)
 (he:s[m]?=some b):dS C ev f H n sp t d (.index ty x i) (.t (.int .u8 b.toNat)) []:=
 VA h hi (by
  have h1:fV (.t (.int k (m:Int)))=some m:=by simp[fV]
  simp only[pV,bh,ht,h1,hd,he])
theorem FU {fo:Operand}{args:Array Operand}{ats:Array TypeId}{g:FuncId}{alA:List TV}{v:TV}{u:Heap}(hc:jv C (dU n sp) ⟨.value fo,args,ats⟩=some (g,alA))(he:pZ ev H g alA t=some (.val v u))(hk:C.jD f (d.getD 255)=false:=by rfl):dS C ev f H n sp t d (.call ⟨.value fo,args,ats⟩) v u:=λ_ _ _ _=>by
 simp only[aR,hc,Hy,hk,he]
theorem lV {g:FuncId}{args:Array Operand}{ats:Array TypeId}{alA:List TV}(h:qc C n sp args.toList=some alA):jv C (dU n sp) ⟨.value (.func g),args,ats⟩=some (g,alA):=by
 simp only[jv,bU,Cf h]
theorem qX (H:Heap):∀(ts:List Tree),lq H (ts.map .t)=(ts.map .t,[])
 | []=>rfl
 |x::r=>by
  simp only[List.map_cons,lq,qX H r]
  rfl
theorem nS:∀(ts:List Tree),TV.iR (ts.map .t)=[]
 | []=>rfl
 |x::r=>by simp only[List.map_cons,TV.iR,TV.names,nS r,List.append_nil]
theorem pR (σ:Nm->Option Nm):∀(ts:List Tree),TV.tU σ (ts.map .t)=some (ts.map .t)
 | []=>rfl
 |x::r=>by simp only[List.map_cons,TV.tU,TV.rn,pR σ r]
theorem Aq {g:FuncId}{ts:List Tree}{x:Tree}(he:ev g (ts.map .t) []=some (.ret (.t x) [] [])):pZ ev H g (ts.map .t) t=some (.val (.t x) []):=by
 unfold pZ;simp only[DZ,qX,nS];have h1:reach (H.dH (cH H [])) eE [] []=some []:=rfl;rw[h1];simp only[List.nodup_nil,if_true,pR,hM,he];rfl
theorem fk {g:FuncId}{args:Array Operand}{ats:Array TypeId}{ts:List Tree}{x:Tree}(h:qc C n sp args.toList=some (ts.map .t))(he:ev g (ts.map .t) []=some (.ret (.t x) [] []))(hk:C.jD f (d.getD 255)=false:=by rfl):dS C ev f H n sp t d (.call ⟨.value (.func g),args,ats⟩) (.t x) []:=
 FU (lV h) (Aq he) hk
end
end Go.Abs
end
noncomputable section
namespace Go.Abs
open Go
section
variable {C:cE}{ev:aX}{f:FuncId}
theorem lW {s s':List TV}:∀{l:List Operand},(∀x∈l,bU C s' x=bU C s x)->jd C s' l=jd C s l
 | [],_=>rfl
 |x::r,h=>by
  simp only[jd,h x List.mem_cons_self,lW (l:=r) λy hy=>h y (List.mem_cons_of_mem _ hy)]
theorem sS {s s':List TV}:∀{l:List (Nat×Operand)},(∀x∈l.map (·.2),bU C s' x=bU C s x)->pX C s' l=pX C s l
 | [],_=>rfl
 |(i,x)::r,h=>by
  simp only[pX,h x (by simp),sS (l:=r) λy hy=>h y (by simp only[List.map_cons,List.mem_cons];exact .inr hy)]
theorem sU {s s':List TV}{o:Option Operand}(h:∀x∈o.toArray.toList,bU C s' x=bU C s x):um C s' o=um C s o:=by
 cases o with
 |none=>rfl
 |some x=>simp only[um,h x (by simp)]
set_option maxHeartbeats 1000000 in
theorem FV {nm:Nm}{H:Heap}{s s':List TV}{o:Oper}(h:∀x∈o.op.operands.toList,bU C s' x=bU C s x):evalOp C f nm H s' o=evalOp C f nm H s o:=by
 obtain⟨d,op,ty,pos,af,g⟩:=o;cases op with
 |move x=>simp only[evalOp,h x (by simp[Op.operands])]
 |assign x=>simp only[evalOp,h x (by simp[Op.operands])]
 |pick c a b=>simp only[evalOp,h c (by simp[Op.operands]),h a (by simp[Op.operands]),h b (by simp[Op.operands])]
 |alloc t=>rfl
 |box t x=>simp only[evalOp,h x (by simp[Op.operands])]
 |build t ps=>
  have:=sS (C:=C) (s:=s) (s':=s') (l:=ps.toList) (λx hx=>h x (by simpa [Op.operands] using hx))
  simp only[evalOp,this]
 |buildSlice t n ps=>
  have:=sS (C:=C) (s:=s) (s':=s') (l:=ps.toList) (λx hx=>h x (by simpa [Op.operands] using hx))
  simp only[evalOp,this]
 |insert t m k v=>simp only[evalOp,h m (by simp[Op.operands]),h k (by simp[Op.operands]),h v (by simp[Op.operands])]
 |load t x=>simp only[evalOp,h x (by simp[Op.operands])]
 |store t a v=>simp only[evalOp,h a (by simp[Op.operands]),h v (by simp[Op.operands])]
 |nilCheck x=>simp only[evalOp,h x (by simp[Op.operands])]
 |binOp o t a v r=>simp only[evalOp,h a (by simp[Op.operands]),h v (by simp[Op.operands])]
 |unOp o t x=>simp only[evalOp,h x (by simp[Op.operands])]
 |convert a b x=>simp only[evalOp,h x (by simp[Op.operands])]
 |makeInterface t x=>simp only[evalOp,h x (by simp[Op.operands])]
 |makeFunc fn a b=>
  have h1:=lW (C:=C) (s:=s) (s':=s') (l:=a.toList) (λx hx=>h x (by simp only[Op.operands,Array.toList_append,List.mem_append];exact .inl hx))
  have h2:=lW (C:=C) (s:=s) (s':=s') (l:=b.toList) (λx hx=>h x (by simp only[Op.operands,Array.toList_append,List.mem_append];exact .inr hx))
  simp only[evalOp,h1,h2]
 |makeMap t r=>
  have:=sU (C:=C) (s:=s) (s':=s') (o:=r) (λx hx=>h x (by simpa [Op.operands] using hx))
  simp only[evalOp,this]
 |makeSlice t a v=>simp only[evalOp,h a (by simp[Op.operands]),h v (by simp[Op.operands])]
 |slice t x l m k=>
  have h1:=sU (C:=C) (s:=s) (s':=s') (o:=l) (λy hy=>h y (by simp only[Op.operands,Array.toList_append,List.mem_append];exact .inl (.inl (.inr hy))))
  have h2:=sU (C:=C) (s:=s) (s':=s') (o:=m) (λy hy=>h y (by simp only[Op.operands,Array.toList_append,List.mem_append];exact .inl (.inr hy)))
  have h3:=sU (C:=C) (s:=s) (s':=s') (o:=k) (λy hy=>h y (by simp only[Op.operands,Array.toList_append,List.mem_append];exact .inr hy))
  simp only[evalOp,h x (by simp[Op.operands]),h1,h2,h3]
 |fieldAddr t x i=>simp only[evalOp,h x (by simp[Op.operands])]
 |field t x i=>simp only[evalOp,h x (by simp[Op.operands])]
 |indexAddr t a v=>simp only[evalOp,h a (by simp[Op.operands]),h v (by simp[Op.operands])]
 |index t a v=>simp only[evalOp,h a (by simp[Op.operands]),h v (by simp[Op.operands])]
 |lookup t a v ok=>simp only[evalOp,h a (by simp[Op.operands]),h v (by simp[Op.operands])]
 |mapUpdate t m k v=>simp only[evalOp,h m (by simp[Op.operands]),h k (by simp[Op.operands]),h v (by simp[Op.operands])]
 |mapEntry t m k=>simp only[evalOp,h m (by simp[Op.operands]),h k (by simp[Op.operands])]
 |entryStore t m k v=>simp only[evalOp,h m (by simp[Op.operands]),h k (by simp[Op.operands]),h v (by simp[Op.operands])]
 |typeAssert x a b ok=>simp only[evalOp,h x (by simp[Op.operands])]
 |extract x i=>simp only[evalOp,h x (by simp[Op.operands])]
 | call c=>
  obtain⟨ce,args,ats⟩:=c
  cases ce with
  |builtin b=>
   have h1:=lW (C:=C) (s:=s) (s':=s') (l:=args.toList) (λx hx=>h x (by simp only[Op.operands,Call.operands,Array.toList_append,List.mem_append];exact .inr hx))
   simp only[evalOp,h1]
  |value fo=>rfl
  |invoke r m=>rfl
 |_=>rfl
theorem Ik {H:Heap}{s s':List TV}{t:Nat}{o:Oper}(h:∀x∈o.op.operands.toList,bU C s' x=bU C s x):aR C ev f H s' t o=aR C ev f H s t o:=by
 have he:=FV (C:=C) (f:=f) (nm:=.loc [t]) (H:=H) h;obtain⟨d,op,ty,pos,af,g⟩:=o;cases op with
 |panic x=>simp only[aR,h x (by simp[Op.operands])]
 | call c=>
  obtain⟨ce,args,ats⟩:=c
  cases ce with
  |value fo=>
   have h1:=lW (C:=C) (s:=s) (s':=s') (l:=args.toList) (λx hx=>h x (by simp only[Op.operands,Call.operands,Array.toList_append,List.mem_append];exact .inr hx))
   have h2:bU C s' fo=bU C s fo:=h fo (by simp[Op.operands,Call.operands])
   simp only[aR,jv,h1,h2]
  |invoke r nm=>
   have h1:=lW (C:=C) (s:=s) (s':=s') (l:=args.toList) (λx hx=>h x (by simp only[Op.operands,Call.operands,Array.toList_append,List.mem_append];exact .inr hx))
   have h2:bU C s' r=bU C s r:=h r (by simp[Op.operands,Call.operands])
   simp only[aR,A9,h1,h2]
  |_=>simp only[aR,he]
 |_=>simp only[aR,he]
theorem QE {L:List Nat}{s:List TV}{x:Operand}(h:∀t,x=.tmp t->t∈L):bU C (jq L 0 s) x=bU C s x:=by
 cases x with
 |tmp t=>
  have ht:=h t rfl
  simp only[bU,Fi,List.getD_eq_getElem?_getD,rF,Nat.zero_add,if_pos ht]
 |_=>rfl
theorem Ck {ops:Array Oper}{H:Heap}{s:List TV}{t:Nat}{o:Oper}:aR C ev f H (jq (o.looksAt ops) 0 s) t o=aR C ev f H s t o:=
 Ik λx hx=>QE λt e=>by
  subst e;unfold Oper.looksAt;refine List.mem_append_left _ (List.mem_filterMap.2 ⟨_,hx,rfl⟩)
theorem sV {ops:Array Oper}{s:List TV}{o:Oper}:dL ops (jq (o.looksAt ops) 0 s) o=dL ops s o:=by
 unfold dL;cases hg:o.guard with
 |none=>rfl
 | some g=>
  obtain⟨j,want⟩:=g
  simp only[]
  cases hd:(ops[j]?).bind (·.dst) with
  |none=>rfl
  | some d=>
   have hm:d∈o.looksAt ops:=by
    unfold Oper.looksAt
    refine List.mem_append_right _ ?_
    rw[hg]
    simp[hd]
   simp only[rF,Nat.zero_add,if_pos hm]
def uf (C:cE)(ev:aX)(f:FuncId)(ops:Array Oper)(bs:List Nat)(t0 i:Nat)(l:List Oper)(n:Nat)(sp:List (Nat×TV))(H:Heap)(K:List Rec->List (Nat×TV)->Heap->Prop):Prop:=
 ∃recs sp' H',AP C ev f ops bs t0 i l ⟨dU n sp,H⟩ none=some recs/\xV l recs ⟨dU n sp,H⟩=⟨dU n sp',H'⟩/\(∀j,jw j recs=none)/\K recs sp' H'
section
variable {ops:Array Oper}{bs:List Nat}{t0 i n:Nat}{r:List Oper}{sp:List (Nat×TV)}{H:Heap}{K:List Rec->List (Nat×TV)->Heap->Prop}
theorem uf.nil (h:K [] sp H):uf C ev f ops bs t0 i [] n sp H K:=⟨[],sp,H,rfl,rfl,λ_=>rfl,h⟩
theorem uf.step {o:Oper}{fp:List Nm}{v:TV}{u:Heap}(hw:dL ops (dU n sp) o=some true)(Md:JT C H (dU n sp) o=some fp)(hx:aR C ev f (l9 H fp) (dU n sp) (t0+i) o=some (.val v u))
 (k:uf C ev f ops bs t0 (i+1) r n (Y0 sp o.dst v) (H.dH u) λrs sp' H'=>K (⟨fp,.val v u⟩::rs) sp' H'):uf C ev f ops bs t0 i (o::r) n sp H K:=by
 obtain⟨rs,sp',H',h1,h2,h3,h4⟩:=k
 refine⟨⟨fp,.val v u⟩::rs,sp',H', ?_, ?_,λj=> ?_,h4⟩
 ·simp only[AP,PG,sV,hw,Md,Ck,hx,Option.isSome_none,Bool.false_eq_true,decide_false,Bool.false_and,if_false,sD.after,eU,j8,h1]
 ·simp only[xV,sD.after,eU,h2]
 ·exact h3 (j+1)
theorem uf.skip {o:Oper}(hw:dL ops (dU n sp) o=some false)(k:uf C ev f ops bs t0 (i+1) r n (Y0 sp o.dst bR) H λrs sp' H'=>K (⟨[],.unwanted⟩::rs) sp' H'):uf C ev f ops bs t0 i (o::r) n sp H K:=by
 obtain⟨rs,sp',H',h1,h2,h3,h4⟩:=k;refine⟨⟨[],.unwanted⟩::rs,sp',H', ?_, ?_,λj=> ?_,h4⟩
 ·simp only[AP,PG,sV,hw,sD.after,eU,j8,h1]
 ·simp only[xV,sD.after,eU,h2]
 ·exact h3 (j+1)
theorem uf.go {d:Tmp}{op:Op}{ty pos af}{fp:List Nm}{v:TV}{u:Heap}(Md:JT C H (dU n sp) ⟨some d,op,ty,pos,af,none⟩=some fp)(h:dS C ev f (l9 H fp) n sp (t0+i) (some d) op v u)
 (k:uf C ev f ops bs t0 (i+1) r n ((d,v)::sp) (H.dH u) λrs sp' H'=>K (⟨fp,.val v u⟩::rs) sp' H'):uf C ev f ops bs t0 i (⟨some d,op,ty,pos,af,none⟩::r) n sp H K:=
 uf.step rfl Md (h _ _ _ _) k
theorem uf.Ch {op:Op}{ty pos af}{fp:List Nm}{v:TV}{u:Heap}(Md:JT C H (dU n sp) ⟨none,op,ty,pos,af,none⟩=some fp)(h:dS C ev f (l9 H fp) n sp (t0+i) none op v u)
 (k:uf C ev f ops bs t0 (i+1) r n sp (H.dH u) λrs sp' H'=>K (⟨fp,.val v u⟩::rs) sp' H'):uf C ev f ops bs t0 i (⟨none,op,ty,pos,af,none⟩::r) n sp H K:=
 uf.step rfl Md (h _ _ _ _) k
theorem uf.yes {d:Tmp}{op:Op}{ty pos af}{j gd:Nat}{w b:Bool}{fp:List Nm}{v:TV}{u:Heap}(hj:(ops[j]?).bind (·.dst)=some gd)(hn:Nat.blt gd n=true)(hl:look sp gd=.t (.bool b))(hb:(b==w)=true)
 (Md:JT C H (dU n sp) ⟨some d,op,ty,pos,af,some (j,w)⟩=some fp)(h:dS C ev f (l9 H fp) n sp (t0+i) (some d) op v u)
 (k:uf C ev f ops bs t0 (i+1) r n ((d,v)::sp) (H.dH u) λrs sp' H'=>K (⟨fp,.val v u⟩::rs) sp' H'):uf C ev f ops bs t0 i (⟨some d,op,ty,pos,af,some (j,w)⟩::r) n sp H K:=
 uf.step (by rw[kK rfl hj hn,hl];simp only[hb]) Md (h _ _ _ _) k
theorem uf.no {d:Tmp}{op:Op}{ty pos af}{j gd:Nat}{w b:Bool}(hj:(ops[j]?).bind (·.dst)=some gd)(hn:Nat.blt gd n=true)(hl:look sp gd=.t (.bool b))(hb:(b==w)=false)
 (k:uf C ev f ops bs t0 (i+1) r n ((d,bR)::sp) H λrs sp' H'=>K (⟨[],.unwanted⟩::rs) sp' H'):uf C ev f ops bs t0 i (⟨some d,op,ty,pos,af,some (j,w)⟩::r) n sp H K:=
 uf.skip (by rw[kK rfl hj hn,hl];simp only[hb]) k
theorem uf.none {d:Tmp}{op:Op}{ty pos af}{j gd:Nat}{w:Bool}(hj:(ops[j]?).bind (·.dst)=some gd)(hn:Nat.blt gd n=true)(hl:look sp gd=bR)
 (k:uf C ev f ops bs t0 (i+1) r n ((d,bR)::sp) H λrs sp' H'=>K (⟨[],.unwanted⟩::rs) sp' H'):uf C ev f ops bs t0 i (⟨some d,op,ty,pos,af,some (j,w)⟩::r) n sp H K:=
 uf.skip (by rw[kK rfl hj hn,hl];rfl) k
end
theorem AW.draw {id:Nat}{ops:Array Oper}{n t:Nat}{sp:List (Nat×TV)}{H:Heap}{Q:aJ->St->Prop}(hm:C.P.prog.follows .mixedOrders=true)(az:aF C ev)
 (h:uf C ev f ops (kX ops.toList []) t 0 ops.toList n sp H λrecs sp' H'=>lT ops ops.toList recs (kX ops.toList []) ops.toList recs 0=true/\sF 0 ops.toList=true/\Q .normal ⟨dU n sp',H',t+ops.size⟩):
 AW C (.region id ops true) ⟨dU n sp,H,t⟩ Q:=by
 obtain⟨recs,sp',H',h1,h2,h3,h4,h5,h6⟩:=h
 refine AW.drawn (ev:=ev) (f:=f) hm az (e:=.normal) (st':=⟨dU n sp',H',t+ops.size⟩) ?_ h6
 unfold vz
 simp only[h1,h4,h5,and_self,if_true,h3,h2]
theorem cD.A1 {ops:Array Oper}{Q:aJ->St->Prop}{n t:Nat}{sp:List (Nat×TV)}{H:Heap}{r:List Oper}{d:Tmp}{ty r2:TypeId}{x y:Operand}{tt pos af}{es:List Tree}{ti:TI}{e:TypeId}
 (hx:dM C n sp x=some (.t (.sl es)))(hy:dM C n sp y=some .bJ)(ht:C.P.ty ty=some ti)(hd:ti.desc=.slice e)
 (k:∀b:Bool,(es≠ []->b=false)->cD C ops r ⟨dU n ((d,.t (.bool b))::sp),H,t+1⟩ Q):cD C ops (⟨some d,.binOp .eql ty x y r2,tt,pos,af,none⟩::r) ⟨dU n sp,H,t⟩ Q:=by
 intro G0 w0 G w a h0 hs hst R hR
 have h1:=bM hst.slots hst.iC (ey hx)
 have h2:=bM hst.slots hst.iC (ey hy)
 obtain⟨_,_,hu,_⟩:=bD (show bh C.P ty=some ti from ht)
 rw[hd] at hu
 obtain⟨ad,len,cap,ep,hne⟩:∃ad len cap,a.eval x=.slice ad len cap/\(es≠ []->ad.isNone=false):=by
  generalize a.eval x=p at h1;cases h1 with|t _ _ h1=>cases h1 with
   |zm ad cap=>exact⟨_,_,_,rfl,λh=>absurd rfl h⟩
   |sl=>exact⟨_,_,_,rfl,λ_=>rfl⟩
 have eq:a.eval y=.slice none 0 0:=by
  generalize a.eval y=q at h2;cases h2;rfl
 have hrun:=(fO (x:=x) (y:=y) (p:=.slice ad len cap) (q:=.slice none 0 0) (C:=C) (w:=w) (t:=ty) (by intro z;simp) (by simp) rfl rfl (xZ hu ad len cap 0 0)).1
 have hop:cF C.P (.loc [t]) ⟨some d,.binOp .eql ty x y r2,tt,pos,af,none⟩ a w G (.t (.bool ad.isNone)) []:=
  cF.quiet hst.wf (by simp only[execOp];rw[ep,eq];simp only[Sem.run_bind] at hrun ⊢;rw[hrun];rfl) (.t _ _ (.bool _))
 have kk:=k ad.isNone hne
 refine wpList_step λK hK=> ?_
 rw[ie (G:=G) (show dL ops (dU n sp) ⟨some d,.binOp .eql ty x y r2,tt,pos,af,none⟩=some true from rfl) hst.slots]
 simp only[if_true]
 refine hop.exec.wp kY.no (λz w' hr=> ?_) (λch w' hr=> ?_)
 ·obtain⟨x',G',e1,hs',j3,hv⟩:=hr;simp at e1;subst e1;have:=hst.op (some d) hs' j3 hv;rw[eU] at this;exact hK _ _ (kk G0 w0 G' w' _ h0 (cx.comp hs hs'.any) this R λe st' _ _ _ h1 h2=>hR _ _ _ _ _ h1 (Good.Ca (put_defers _ _ _) h2))
 ·obtain⟨x',G',e1,_⟩:=hr;simp at e1
def pK (C:cE)(fn:Func)(n:Nat)(st:St):Option bz:=
 match jb C st fn.results.toList with
 |none=>none
 | some vs=>match nh st.H 0 n with
  |none=>none
  |some os=>match reach st.H eE [] ((tJ vs).names++os.flatMap aO.names) with
   |none=>none
   |some R=>(ke st.H R).map λh=>.ret (tJ vs) os h
theorem xb {fn:Func}{n:Nat}{st:St}{a:Act}{r:bz}{G G0:Gh}{w w0:World}(h:pK C fn n st=some r)(hs:cx G0 w0 G w)(hst:tV C G w st a):
 ∃v,(results fn a.tmps).run C.P w=.ok v w/\p9 G0 w0 n r (.returned v) w:=by
 unfold pK at h
 split at h
 ·simp at h
 rename_i vs hvs
 obtain⟨v,hv,hr⟩:=w6 hst hvs
 refine⟨v,hv, ?_⟩
 split at h
 ·simp at h
 rename_i os hos
 split at h
 ·simp at h
 rename_i R hR
 cases J3:ke st.H R with
 |none=>rw[J3] at h;simp at h
 | some nw=>
   rw[J3] at h
   simp only[Option.map_some,Option.some.injEq] at h
   subst h
   obtain⟨e1,e2⟩:=uG hos
   refine⟨v,G,rfl,hs,e1,λi o ho=> ?_,λk o hm=> ?_,hr⟩
   · have:=e2 i o ho
     rw[Nat.zero_add] at this
     exact hst.heap _ _ this
   · obtain⟨e3,e4⟩:=qE J3 k o hm
     exact⟨e3,hst.heap _ _ e4⟩
def wh (C:cE)(fn:Func)(n:Nat)(r:bz):aJ->St->Prop
 |.normal,st=>finish C fn n st=some r\/pK C fn n st=some r
 |.ret,st=>finish C fn n st=some r\/pK C fn n st=some r
 |.panic v,st=>v.names.any Nm.eR=false/\r=.panic v (qA st.H 0 n)
 |_,_=>False
theorem Y1 {f:FuncId}{fn:Func}{body:Code}{args:List TV}{aP:List aO}{r:bz}(zF:C.P.fn f=some fn)(hbody:fn.body=some body)(hname:fn.name≠ "runtime.NumGoroutine")
 (h:AW C body ⟨args++List.replicate (fn.ntmps - args.length) bR,bK 0 aP,0⟩ (wh C fn aP.length r)):ai C f args aP r:=by
 intro G w vs hw hg had hH hv
 have hfn:=C.P.Nh _ _ zF
 have hst:tV C G w ⟨args++List.replicate (fn.ntmps - args.length) bR,bK 0 aP,0⟩ {tmps:=vs.toArray++Array.replicate (fn.ntmps - vs.toArray.size) undef,defers:=[]}:=by
  refine⟨hw,hg, ?_,hH,λp hp=>absurd hp (had.2 p)⟩;have e:(vs.toArray++Array.replicate (fn.ntmps - vs.toArray.size) undef).toList=vs++List.replicate (fn.ntmps - args.length) undef:=by simp[hv.1]
  unfold SR;rw[e];refine cr.append hv ⟨by simp,λj c u hc hu=> ?_⟩;rw[List.getElem?_replicate] at hc hu;by_cases hl:j<fn.ntmps - args.length
  ·rw[if_pos hl] at hc hu;simp at hc hu;subst hc;subst hu;exact mB G
  ·rw[if_neg hl] at hc;simp at hc
 have fin:∀{G':Gh} {w':World} {st:St} {a':Act},(finish C fn aP.length st=some r\/pK C fn aP.length st=some r)->cx G w G' w'->tV C G' w' st a'->∃v,(results fn a'.tmps).run C.P w'=.ok v w'/\p9 G w aP.length r (.returned v) w':=
  λh hs hst=>h.elim (λh=>pQ h hs hst) (λh=>xb h hs hst)
 refine .inl ⟨?_,calls_of_wp hfn hbody ?_⟩
 ·simp[callFunc,hfn,hname,hbody]
 ·refine wp_mono (h G w G w _ had.2 (Step.refl hw _ _) hst) λex a' w' ⟨e,st,hq,hgd⟩=> ?_
  cases e with
  | normal=>
    obtain⟨G',hs,hd,rfl,lK⟩:=hgd
    exact⟨hd,fin hq hs lK⟩
  | ret=>
    obtain⟨G',hs,hd,rfl,lK⟩:=hgd
    exact⟨hd,fin hq hs lK⟩
  |exit id=>exact hq.elim
  | panic v=>
    obtain⟨_,rfl⟩:=hq
    obtain⟨G',hs,hd,x,rfl,hx,Vw,_⟩:=hgd
    refine⟨hd,x,G',rfl,hs,λi o ho=> ?_,hx⟩
    have:=sN ho
    rw[Nat.zero_add] at this
    exact Vw _ _ this
theorem gY {f:FuncId}{fn:Func}{body:Code}{args:List TV}{aP:List aO}{r:bz}(n k:Nat)(zF:C.P.fn f=some fn)(hbody:fn.body=some body)(hname:fn.name≠ "runtime.NumGoroutine")
 (hn:fn.ntmps=n)(ha:args.length=k)(hk:k<=n)(h:AW C body ⟨dU n (w9 0 args),bK 0 aP,0⟩ (wh C fn aP.length r)):ai C f args aP r:=by
 refine Y1 zF hbody hname (AW.re (Re.start args (fn.ntmps - args.length) _ _) ?_)
 rw[show args.length+(fn.ntmps - args.length)=n by omega]
 exact h
end
end Go.Abs
end
noncomputable section
namespace Go.Abs
open Go
def uI:Tree->Bool
 |.agg _=>true
 |_=>false
def EOk (ag:Bool)(sz:Nat)(e:Tree):Prop:=e.cells.length=sz/\e.cells.all Tree.leaf=true/\uI e=ag
def gP (ag:Bool)(sz:Nat)(es:List Tree):Prop:=∀e∈es,EOk ag sz e
theorem gP.nil {ag:Bool}{sz:Nat}:gP ag sz []:=λ_ h=>by simp at h
theorem gP.cons {ag:Bool}{sz:Nat}{e:Tree}{es:List Tree}(h:EOk ag sz e)(hs:gP ag sz es):gP ag sz (e::es):=λx hx=>by
 rcases List.mem_cons.1 hx with rfl|hx
 ·exact h
 ·exact hs x hx
theorem gP.append {ag:Bool}{sz:Nat}{a b:List Tree}(h:gP ag sz a)(k:gP ag sz b):gP ag sz (a++b):=λx hx=>(List.mem_append.1 hx).elim (h x) (k x)
theorem gP.take {ag:Bool}{sz:Nat}{a:List Tree}(h:gP ag sz a)(n:Nat):gP ag sz (a.take n):=λx hx=>h x (List.mem_of_mem_take hx)
theorem gP.lens {ag:Bool}{sz:Nat}{es:List Tree}(h:gP ag sz es):∀e∈es,e.cells.length=sz:=λe he=>(h e he).1
theorem gP.nv {ag:Bool}{sz:Nat}{es:List Tree}(h:gP ag sz es):((flat es).map TV.t).all TV.leaf=true:=by
 rw[List.all_eq_true];intro v hv;obtain⟨x,hx,rfl⟩:=List.mem_map.1 hv;obtain⟨e,he,hxe⟩:=List.mem_flatMap.1 hx;exact List.all_eq_true.1 (h e he).2.1 x hxe
theorem gP.length {ag:Bool}{sz:Nat}{es:List Tree}(h:gP ag sz es):((flat es).map TV.t).length=es.length*sz:=by
 rw[List.length_map,iK h.lens]
theorem NV {e:Tree}(h:uI e=true):e=.agg e.cells:=by
 cases e<;>simp_all [uI,Tree.cells]
theorem one_cell {e:Tree}(h:uI e=false):e.cells=[e]:=by
 cases e<;>simp_all [uI,Tree.cells]
theorem Cm {ag:Bool}{sz:Nat}(hz:0<sz):∀{es:List Tree},gP ag sz es->chunk ag sz es.length (flat es)=some es
 | [],_=>rfl
 | e::r,h=>by
  obtain⟨h1,h2,h3⟩:=h e List.mem_cons_self
  have ih:=Cm hz (es:=r) λx hx=>h x (List.mem_cons_of_mem _ hx)
  have hd:(flat (e::r)).drop sz=flat r:=by
   simp only[flat,List.flatMap_cons]
   rw[← h1,List.drop_left]
  have ht:(flat (e::r)).take sz=e.cells:=by
   simp only[flat,List.flatMap_cons]
   rw[← h1,List.take_left]
  have hl:sz<=(flat (e::r)).length:=by
   simp only[flat,List.flatMap_cons,List.length_append]
   omega
  simp only[List.length_cons,chunk,if_pos hl,hd,ih,ht]
  cases ag with
  |true=>simp only[if_true];rw[← NV h3]
  |false=>
   have hc:=one_cell h3
   have e1:sz=1:=by rw[← h1,hc];rfl
   have hlf:e.leaf=true:=by rw[hc] at h2;simpa using h2
   have ef:flat (e::r)=e::flat r:=by simp only[flat,List.flatMap_cons,hc,List.singleton_append]
   simp only[Bool.false_eq_true,if_false,ef,e1,hlf,and_self,if_true]
theorem Cn (g:TV->Option (Tree×List Nm))(hg:∀x,g (.t x)=some (x,[])):∀(ts:List Tree),xT g (ts.map .t)=some (ts,[])
 | []=>rfl
 |x::r=>by simp only[List.map_cons,xT,hg,Cn g hg r,List.nil_append]
theorem QF (H:Heap)(n:Nat)(x:Tree):pq H n (.t x)=some (x,[]):=by cases n<;>rfl
theorem Mh {H:Heap}{n:Nat}{k:Nm}{g:TypeId}{ag fz:Bool}{sz len:Nat}{es:List Tree}(hk:H.get k=some (.arr (g,ag) sz fz ((flat es).map .t)))(hu:gP ag sz es)(hz:0<sz)(hl:len=es.length):
 pq H (n+1) (.ref k 0 len)=some (.sl es,[k]):=by
 subst hl
 have hc:0<sz/\(0+es.length) *sz=((flat es).map TV.t).length:=⟨hz,by rw[hu.length,Nat.zero_add]⟩
 have e1:(((flat es).map TV.t).drop (0*sz)).take (es.length*sz)=(flat es).map .t:=by
  rw[Nat.zero_mul,List.drop_zero,List.take_of_length_le (by rw[hu.length];exact Nat.le_refl _)]
 simp only[pq,hk,if_pos hc,e1,Cn _ (QF H n),Cm hz hu]
section
variable {C:cE}{ev:aX}{f:FuncId}{n:Nat}{sp:List (Nat×TV)}{H:Heap}{t:Nat}{d:Option Tmp}
theorem sta {P:iP}{ty:TypeId}{ti:TI}{x:TV}{k:Nm}{off:Nat}{g:TypeId×Bool}{bE:Nat}{cs:List TV}(ht:P.ty ty=some ti)(hk:H.get k=some (.arr g bE false cs))(hl:(decide (x.cells.length=ti.size)&&x.cells.all TV.leaf)=true)(ho:off+ti.size<=cs.length):
 storeT P H ty (.jB k cs.length off) x=some [(k,.arr g bE false (cJ cs off x.cells))]:=by
 simp only[Bool.and_eq_true,decide_eq_true_eq] at hl
 simp only[storeT,bh,ht,hl.1,hl.2,hk,ho,and_self,if_true]
theorem Er {sz:Nat}{es:List Tree}{i j m:Nat}{e:Tree}(hu:∀e∈es,e.cells.length=sz)(he:es[i]?=some e)(hj:j+m<=sz):((flat es).drop (i*sz+j)).take m=(e.cells.drop j).take m:=by
 refine List.ext_getElem? λq=> ?_
 by_cases hq:q<m
 ·rw[List.getElem?_take_of_lt hq,List.getElem?_take_of_lt hq,List.getElem?_drop,List.getElem?_drop,Nat.add_assoc,x6 hu he (by omega)]
 ·rw[List.getElem?_eq_none (by rw[List.length_take];omega),List.getElem?_eq_none (by rw[List.length_take];omega)]
theorem Il:∀(ts:List Tree),allT (ts.map .t)=some ts
 | []=>rfl
 |x::r=>by simp only[List.map_cons,allT,Il r]
theorem NW (ts:List Tree):wA (ts.map .t)=.t (.agg ts):=by simp only[wA,Il]
theorem rI {sz:Nat}{es:List Tree}{i j m:Nat}{e:Tree}(hu:∀e∈es,e.cells.length=sz)(he:es[i]?=some e)(hj:j+m<=sz):partT true m ((flat es).map .t) (i*sz+j)=some (.t (.agg ((e.cells.drop j).take m))):=by
 have hi:i<es.length:=(List.getElem?_eq_some_iff.1 he).1;have hle:i*sz+j+m<=((flat es).map TV.t).length:=by
  rw[List.length_map,iK hu];have:(i+1) *sz<=es.length*sz:=Nat.mul_le_mul_right _ hi;rw[Nat.succ_mul] at this;omega
 simp only[partT,if_true,if_pos hle];rw[← List.map_drop,← List.map_take,Er hu he hj,NW]
theorem QG {cs:List TV}{off:Nat}{vs:List TV}(h:(cs.drop off).take vs.length=vs):cJ cs off vs=cs:=by
 unfold cJ;conv=>rhs;rw[← List.take_append_drop off cs,← List.take_append_drop vs.length (cs.drop off),h,List.drop_drop]
 rw[List.append_assoc]
theorem vH {sz:Nat}{es:List Tree}{i j m:Nat}{e:Tree}(hu:∀e∈es,e.cells.length=sz)(he:es[i]?=some e)(hj:j+m<=sz):cJ ((flat es).map .t) (i*sz+j) (((e.cells.drop j).take m).map .t)=(flat es).map .t:=by
 refine QG ?_;have hl:e.cells.length=sz:=hu e (List.mem_of_getElem? he);rw[List.length_map,List.length_take,List.length_drop,hl,Nat.min_eq_left (by omega),← List.map_drop,← List.map_take,Er hu he hj]
theorem Y2 {ag:Bool}{sz:Nat}{es:List Tree}(hu:gP ag sz es):fD H ag sz (.t (.sl es))=some (es.length,(flat es).map .t):=by
 have:j7 sz es=true:=by
  cases es with
  |nil=>rfl
  |cons e r=>simp only[j7,(hu e List.mem_cons_self).1,BEq.rfl]
 simp only[fD,this,if_true]
theorem VB {ag:Bool}{sz:Nat}{es:List Tree}(hu:gP ag sz es):fD H ag sz (.j4 es)=some (es.length,(flat es).map .t):=by
 have:j7 sz es=true:=by
  cases es with
  |nil=>rfl
  |cons e r=>simp only[j7,(hu e List.mem_cons_self).1,BEq.rfl]
 simp only[fD,this,if_true]
def Mi (y:TV)(es:List Tree):Prop:=y=.t (.sl es)\/y=.j4 es
theorem FW {ag:Bool}{sz:Nat}{y:TV}{es:List Tree}(h:Mi y es)(hu:gP ag sz es):fD H ag sz y=some (es.length,(flat es).map .t):=by
 rcases h with rfl|rfl
 ·exact Y2 hu
 ·exact VB hu
structure wI (P:iP)(st elem:TypeId)(te:TI):Prop where
 sl:∃ti,P.ty st=some ti/\ti.desc=.slice elem
 el:P.ty elem=some te
 ze:∃z,te.zero=some z/\te.size≠0/\z.cells.length=te.size/\te.bytes≠0
theorem qF {nm:Nm}{s x:TV}{st elem:TypeId}{te:TI}(h:wI C.P st elem te){m:Nat}{cs:List TV}(hs:fD H te.agg te.size x=some (m,cs))(hm:m≠0)(hl:cs.all TV.leaf=true){r:Option (TV×Heap)}
 (hr:  (match s with
  |.bJ=>if m*te.bytes<=fE then some (.ref nm 0 m,[(nm,.arr (elem,te.agg) te.size false cs)]) else none
  |.j4 es=>match fD H te.agg te.size (.j4 es) with
   |some (n,old)=>if(n+m) *te.bytes<=fE then some (.ref nm 0 (n+m),[(nm,.arr (elem,te.agg) te.size false (old++cs))]) else none
   |none=>none
  |.ref k 0 len=>match jc H k 0 len with
   |some (g,e,fz,old)=>if e=te.size/\g.1=elem/\(len+m) *te.bytes<=fE then some (.ref k 0 (len+m),[(k,.arr g e fz (old++cs))]) else none
   |none=>none
  |_=>none:Option (TV×Heap))=r):jV C.P nm H st st s x=r:=by
 obtain⟨⟨ti,h1,h2⟩,h3,z,h4,h5,h6,h7⟩:=h
 have hc:¬(te.size=0\/z.cells.length≠te.size\/te.bytes=0):=by
  rintro (h|h|h)
  ·exact h5 h
  ·exact h h6
  ·exact h7 h
 unfold jV
 simp only[bh,h1,h2,h3,h4,if_neg hc,hs,if_neg hm,hl,if_true]
 exact hr
theorem Co {x y:Operand}{st elem:TypeId}{te:TI}{v:TV}{es:List Tree}(h:wI C.P st elem te)(hx:dM C n sp x=some (.j4 []))(hy:dM C n sp y=some v)(hv:Mi v es)(hu:gP te.agg te.size es)(hne:es≠ [])(hb:es.length*te.bytes<=fE):
 dS C ev f H n sp t d (.call ⟨.builtin .append, #[x,y], #[st,st]⟩) (.ref (.loc [t]) 0 es.length) [(.loc [t],.arr (elem,te.agg) te.size false ((flat es).map .t))]:=by
 refine Ep (vs:=[.j4 [],v]) (by simp only[qc,hx,hy]) ?_
 show jV C.P (.loc [t]) H st st (.j4 []) v=_
 refine qF h (FW hv hu) (by simpa using hne) hu.nv ?_
 have e:fD H te.agg te.size (.j4 [])=some (0,[]):=rfl
 simp only[e,Nat.zero_add,if_pos hb,List.nil_append]
theorem xd {x y:Operand}{st elem:TypeId}{te:TI}{s v:TV}(h:wI C.P st elem te)(hx:dM C n sp x=some s)(hy:dM C n sp y=some v)(hv:Mi v []\/v=.bJ)(hs:s=.bJ\/(∃es,s=.t (.sl es))\/∃es,s=.j4 es):
 dS C ev f H n sp t d (.call ⟨.builtin .append, #[x,y], #[st,st]⟩) s []:=by
 refine Ep (vs:=[s,v]) (by simp only[qc,hx,hy]) ?_
 obtain⟨⟨ti,h1,h2⟩,h3,z,h4,h5,h6,h7⟩:=h
 have hc:¬(te.size=0\/z.cells.length≠te.size\/te.bytes=0):=by
  rintro (h|h|h)
  ·exact h5 h
  ·exact h h6
  ·exact h7 h
 have hsrc:fD H te.agg te.size v=some (0,[]):=by
  rcases hv with (rfl|rfl)|rfl<;>rfl
 show jV C.P (.loc [t]) H st st s v=some (s,[])
 unfold jV
 simp only[bh,h1,h2,h3,h4,if_neg hc,hsrc,if_true]
 rcases hs with rfl|⟨es,rfl⟩|⟨es,rfl⟩<;>rfl
theorem oJ {ty elem:TypeId}{ti te:TI}{z:TV}(ha:d.any (C.jD f)=false)(ht:C.P.ty ty=some ti)(hd:ti.desc=.slice elem)(hte:C.P.ty elem=some te)(hz:te.zero=some z)(hc:(decide (0<te.size)&&decide (z.cells.length=te.size)&&z.cells.all TV.leaf)=true):
 dS C ev f H n sp t d (.buildSlice ty 0 #[]) (.j4 []) []:=λ_ _ _ _=>by
 simp only[Bool.and_eq_true,decide_eq_true_eq] at hc
 obtain⟨⟨h1,h2⟩,h3⟩:=hc
 have QH:0<te.size/\0*te.size<=16777216/\z.cells.length=te.size/\z.cells.all TV.leaf=true:=⟨h1,by omega,h2,h3⟩
 simp only[aR,evalOp,pX,qz,bh,ht,hd,hte,hz,if_pos QH,qR,qy,ha,List.map_nil,allT,Option.bind_some,chunk,List.isEmpty_nil,if_true]
theorem xe {ty r2:TypeId}{x y:Operand}{k:IntKind}{a:Int}(h:dM C n sp x=some (.t (.int k a)))(h2:dM C n sp y=some (.t (.int k a))):dS C ev f H n sp t d (.binOp .neq ty x y r2) (.t (.bool false)) []:=Ci h h2 (by simp[Ni])
theorem Es {l:List Tree}{i:Nat}{e:Tree}(h:l[i]?=some e):l.take (i+1)=l.take i++[e]:=by
 obtain⟨h1,rfl⟩:=List.getElem?_eq_some_iff.1 h;exact(List.take_append_getElem h1).symm
theorem QI {fn:Func}{st:St}{vs:List TV}{x:Tree}{ks:List Nm}(hr:jb C st fn.results.toList=some vs)(hf:pq st.H gl (tJ vs)=some (x,ks)):finish C fn 0 st=some (.ret (.t x) [] []):=by
 unfold finish;simp only[hr,hf,nh,TV.names,List.flatMap_nil,List.append_nil];rfl
theorem Et {H:Heap}{m:Nat}{k:Nm}{g:TypeId×Bool}{bE:Nat}{fz:Bool}{ts:List Tree}(hk:H.get k=some (.arr g bE fz (ts.map .t))):reach H (m+2) [] [k]=some [k]:=by
 have h1:¬k∈([]:List Nm):=by simp
 simp only[reach,if_neg h1,hk,aO.names,nS,List.append_nil,List.nil_append]
theorem yp {fn:Func}{st:St}{k:Nm}{o len:Nat}{g:TypeId×Bool}{bE:Nat}{fz:Bool}{ts:List Tree}(hr:jb C st fn.results.toList=some [.ref k o len])(hk:st.H.get k=some (.arr g bE fz (ts.map .t)))(hl:k.eR=true):
 pK C fn 0 st=some (.ret (.ref k o len) [] [(k,.arr g bE fz (ts.map .t))]):=by
 unfold pK
 simp only[hr,nh,tJ,TV.names,List.flatMap_nil,List.append_nil]
 rw[show eE=3998+2 from rfl,Et hk]
 simp only[ke,hl,if_true,hk,Option.map_some]
theorem Kk {g:FuncId}{ts:List Tree}{v v':TV}{news news':Heap}(he:ev g (ts.map .t) []=some (.ret v [] news))(hv:v.rn (kW [] t)=some v')(hn:iI [] t news=some news'):pZ ev H g (ts.map .t) t=some (.val v' news'):=by
 unfold pZ;simp only[DZ,qX,nS];have h1:reach (H.dH (cH H [])) eE [] []=some []:=rfl;rw[h1];simp only[List.nodup_nil,if_true,pR,hM,he,hv,hn,iH];rfl
theorem nK {g:FuncId}{args:Array Operand}{ats:Array TypeId}{ts:List Tree}{v v':TV}{news news':Heap}(h:qc C n sp args.toList=some (ts.map .t))(he:ev g (ts.map .t) []=some (.ret v [] news))(hv:v.rn (kW [] t)=some v')(hn:iI [] t news=some news')(hk:C.jD f (d.getD 255)=false:=by rfl):
 dS C ev f H n sp t d (.call ⟨.value (.func g),args,ats⟩) v' news':=
 FU (lV h) (Kk he hv hn) hk
theorem k5 {p:List Nat}{g:TypeId×Bool}{bE:Nat}{fz:Bool}{ts:List Tree}:iI [] t [(.loc p,.arr g bE fz (ts.map .t))]=some [(.loc (t::p),.arr g bE fz (ts.map .t))]:=by
 simp only[iI,kW,aO.rn,pR,Option.map_some]
theorem xg {σ:Nm->Option Nm}{g:TypeId×Bool}{bE:Nat}{fz:Bool}{ts:List Tree}:aO.rn σ (.arr g bE fz (ts.map .t))=some (.arr g bE fz (ts.map .t)):=by
 simp only[aO.rn,pR,Option.map_some]
theorem Im {H:Heap}{n:Nat}{k:Nm}{g:TypeId}{ag fz:Bool}{sz len:Nat}{es es':List Tree}(hk:H.get k=some (.arr (g,ag) sz fz ((flat es).map .t)))(hu:gP ag sz es)(hz:0<sz)(hl:len=es.length)(he:es=es'):
 pq H (n+1) (.ref k 0 len)=some (.sl es',[k]):=by
 subst he
 exact Mh hk hu hz hl
theorem zn {x:Operand}{v:Tree}(h:dM C n sp x=some (.t v)):qc C n sp [x]=some ([v].map .t):=by
 simp only[qc,h];rfl
theorem XU {x y:Operand}{v u:Tree}(h:dM C n sp x=some (.t v))(h2:dM C n sp y=some (.t u)):qc C n sp [x,y]=some ([v,u].map .t):=by
 simp only[qc,h,h2];rfl
open Classical in
def ct1 (P:Tree->Prop)(res:Tree->bz):List TV->List aO->Option bz:=λas' os=>match as',os with
 | [.t x],[]=>if P x then some (res x) else none
 |_,_=>none
open Classical in
def ct2 (P:Tree->Tree->Prop)(res:Tree->Tree->bz):List TV->List aO->Option bz:=λas' os=>match as',os with
 | [.t x,.t y],[]=>if P x y then some (res x y) else none
 |_,_=>none
theorem Y3 {g:FuncId}{P:Tree->Prop}{res:Tree->bz}(h:∀x,P x->ai C g [.t x] [] (res x)):mX C g (ct1 P res):=by
 intro args aP r hr;unfold ct1 at hr;split at hr
 ·split at hr
  ·rename_i x hp;simp at hr;subst hr;exact h x hp
  ·simp at hr
 ·simp at hr
theorem QJ {g:FuncId}{P:Tree->Tree->Prop}{res:Tree->Tree->bz}(h:∀x y,P x y->ai C g [.t x,.t y] [] (res x y)):mX C g (ct2 P res):=by
 intro args aP r hr;unfold ct2 at hr;split at hr
 ·split at hr
  ·rename_i x y hp;simp at hr;subst hr;exact h x y hp
  ·simp at hr
 ·simp at hr
theorem Y4 {g:FuncId}{P:Tree->Prop}{res:Tree->bz}{ev:aX}{x:Tree}(h:P x):mY g (ct1 P res) ev g [.t x] []=some (res x):=by
 simp only[mY,if_true,ct1,if_pos h]
theorem QK {g:FuncId}{P:Tree->Tree->Prop}{res:Tree->Tree->bz}{ev:aX}{x y:Tree}(h:P x y):mY g (ct2 P res) ev g [.t x,.t y] []=some (res x y):=by
 simp only[mY,if_true,ct2,if_pos h]
theorem nT {g k:FuncId}{s:List TV->List aO->Option bz}{ev:aX}{as':List TV}{os:List aO}{r:Option bz}(hne:(k==g)=false)(h:ev k as' os=r):mY g s ev k as' os=r:=by
 have:¬k=g:=by simpa using hne
 simp only[mY,if_neg this];exact h
end
end Go.Abs
end
