/- Sparse states: the slots of which something is known; one operation at a time. -/
import Derived.Test.YtfdnciimclnncaaGreatDoorF
set_option linter.unusedVariables false
set_option linter.unusedSimpArgs false
noncomputable section
namespace Go.Abs
open Go
def look:List (Nat×TV)->Nat->TV
 | [],_=>.any
 |(j,v)::r,i=>bif Nat.beq i j then v else look r i
def eA (n:Nat)(sp:List (Nat×TV)):List TV:=(List.range n).map (look sp)
theorem jc (n:Nat)(sp:List (Nat×TV)):(eA n sp).length=n:=by simp[eA]
theorem rY {n:Nat}{sp:List (Nat×TV)}{i:Nat}(h:i<n):(eA n sp)[i]?=some (look sp i):=by
 simp[eA,h]
theorem Zk {n:Nat}{sp:List (Nat×TV)}{i:Nat}(h:i<n):adZ (eA n sp) i=look sp i:=by
 rw[M3,List.getD_eq_getElem?_getD,rY h];rfl
theorem qI (i j:Nat)(v:TV)(sp:List (Nat×TV)):look ((j,v)::sp) i=if i=j then v else look sp i:=by
 show(bif Nat.beq i j then v else look sp i)=_;cases hb:Nat.beq i j with
 |true=>rw[if_pos (Nat.eq_of_beq_eq_true hb)];rfl
 |false=>rw[if_neg (Nat.ne_of_beq_eq_false hb)];rfl
theorem Zl (n:Nat)(sp:List (Nat×TV))(d:Nat)(v:TV):ad0 v (eA n sp) d=eA n ((d,v)::sp):=by
 rw[qY];refine List.ext_getElem? λi=> ?_
 rw[List.getElem?_set,jc];by_cases hi:i<n
 ·have h1:(eA n ((d,v)::sp))[i]?=some (look ((d,v)::sp) i):=rY hi;rw[h1,qI];by_cases e:d=i
  ·subst e;simp[hi]
  ·rw[if_neg e,if_neg (λh=>e h.symm),rY hi]
 ·have h1:(eA n ((d,v)::sp))[i]?=none:=by rw[List.getElem?_eq_none_iff,jc];omega
  rw[h1];by_cases e:d=i
  ·subst e;simp[hi]
  ·rw[if_neg e,List.getElem?_eq_none_iff,jc];omega
section
variable {C:ew}
def aip (sp:List (Nat×TV))(d:Option Tmp)(v:TV):List (Nat×TV):=match d with
 |some d=>(d,v)::sp
 |none=>sp
theorem gp (n:Nat)(sp:List (Nat×TV))(d:Option Tmp)(v:TV):eu (eA n sp) d v=eA n (aip sp d v):=by
 cases d with
 |none=>rfl
 |some d=>exact Zl n sp d v
def fq (C:ew)(n:Nat)(sp:List (Nat×TV)):Operand->Option TV
 |.tmp t=>bif Nat.blt t n then some (look sp t) else none
 |.const v=>valOf v
 |.global g=>match C.ku g with
  |some cs=>some (.lS cs 0)
  |none=>none
 |.func f=>some (.t (.fn (.func f)))
theorem fL {n:Nat}{sp:List (Nat×TV)}{x:Operand}{v:TV}(h:fq C n sp x=some v):dr C (eA n sp) x=some v:=by
 cases x with
 | tmp t=>
  simp only[fq] at h
  cases hb:Nat.blt t n with
  |false=>rw[hb] at h;simp at h
  |true=>
   rw[hb] at h
   simp only[cond_true,Option.some.injEq] at h
   have:t<n:=by simpa [Nat.blt,Nat.succ_le_iff] using hb
   simp only[dr,Zk this,h]
 |const v=>exact h
 |global g=>exact h
 |func f=>exact h
def tI (C:ew)(n:Nat)(sp:List (Nat×TV)):List Operand->Option (List TV)
 | []=>some []
 |x::r=>match fq C n sp x,tI C n sp r with
  |some v,some vs=>some (v::vs)
  |_,_=>none
theorem Jy {n:Nat}{sp:List (Nat×TV)}:∀{xs:List Operand} {vs:List TV},tI C n sp xs=some vs->kT C (eA n sp) xs=some vs:=by
 intro xs;induction xs with
 |nil=>intro vs h;exact h
 |cons x r ih=>
  intro vs h
  simp only[tI] at h
  cases h1:fq C n sp x<;>cases h2:tI C n sp r<;>simp only[h1,h2,reduceCtorEq] at h
  simp only[kT,fL h1,ih h2]
  exact h
theorem L9 (S:List Nm)(sp sp':List (Nat×TV))(h:∀i,look sp' i=.any\/(look sp i).rn (P4 S)=some (look sp' i)):∀(l:List Nat),uI (P4 S) (l.map (look sp)) (l.map (look sp'))
 | []=>trivial
 |i::l=>⟨h i,L9 S sp sp' h l⟩
def fits (S:List Nm)(sp:List (Nat×TV)):List (Nat×TV)->Prop
 | []=>True
 |(i,v)::r=>(look sp i).rn (P4 S)=some v/\fits S sp r
theorem Ma {S:List Nm}{sp:List (Nat×TV)}:∀{sp':List (Nat×TV)},fits S sp sp'->∀i,look sp' i=.any\/(look sp i).rn (P4 S)=some (look sp' i)
 | [],_,i=>.inl rfl
 |(j,v)::r,h,i=>by
  rw[qI]
  by_cases e:i=j
  · subst e;rw[if_pos rfl];exact .inr h.1
  · rw[if_neg e];exact Ma h.2 i
theorem Re.sp (S:List Nm){n:Nat}{sp sp':List (Nat×TV)}{H H':Heap}{t t':Nat}(h1:fits S sp sp')(h2:Jp (P4 S) H H')(hn:S.Nodup)(hl:S.all Nm.jf=true)(hS:∀k∈S,(H.get k).isSome=true)(ht:S.length<=t'):
 Re C ⟨eA n sp,H,t⟩ ⟨eA n sp',H',t'⟩:=
 Re.mk S (L9 S sp sp' (Ma h1) _) h2 hn hl hS ht
theorem Re.sq (S:List Nm){n:Nat}{sp sp':List (Nat×TV)}{H H':Heap}{t t':Nat}(h1:fits S sp sp')(h2:Jp (P4 S) H H')(hn:S.Nodup)(hl:S.all Nm.jf=true)(hS:S.all (λk=>(H.get k).isSome)=true)(ht:S.length<=t'):
 Re C ⟨eA n sp,H,t⟩ ⟨eA n sp',H',t'⟩:=Re.sp S h1 h2 hn hl (λk hk=>List.all_eq_true.1 hS k hk) ht
def same (sp:List (Nat×TV)):List (Nat×TV)->Prop
 | []=>True
 |(i,v)::r=>look sp i=v/\same sp r
theorem Mb {sp:List (Nat×TV)}:∀{sp':List (Nat×TV)},same sp sp'->∀i,look sp' i=.any\/look sp i=look sp' i
 | [],_,i=>.inl rfl
 |(j,v)::r,h,i=>by
  rw[qI]
  by_cases e:i=j
  · subst e;rw[if_pos rfl];exact .inr h.1
  · rw[if_neg e];exact Mb h.2 i
theorem dU.less {G:Gh}{xs ys:List TV}{vs:List Value}(h:dU G xs vs)(hl:ys.length=xs.length)(hh:∀(i:Nat) (x y:TV),xs[i]?=some x->ys[i]?=some y->y=.any\/x=y):dU G ys vs:=by
 refine⟨by rw[hl];exact h.1,λj c v hc hv=> ?_⟩;have hj:j<xs.length:=by rw[← hl];exact(List.getElem?_eq_some_iff.1 hc).1
 rcases hh j xs[j] c (List.getElem?_eq_getElem hj) hc with rfl|e
 ·exact .any _
 ·rw[← e];exact h.2 j _ v (List.getElem?_eq_getElem hj) hv
theorem Re.slots {n:Nat}{sp sp':List (Nat×TV)}{H:Heap}{t:Nat}(h:same sp sp'):Re C ⟨eA n sp,H,t⟩ ⟨eA n sp',H,t⟩:=by
 intro G0 w0 G w a h0 hs hst;refine⟨G,hs,hst.wf,hst.ku,dU.less hst.slots (by simp[jc]) λi x y hx hy=> ?_,hst.heap,hst.fresh⟩;have hi:i<n:=by have:=(List.getElem?_eq_some_iff.1 hx).1;simpa [jc] using this
 simp only[rY hi,Option.some.injEq] at hx hy;subst hx;subst hy;exact Mb h i
theorem Re.heap {sl:List TV}{H H':Heap}{t:Nat}(h:∀k o,H'.get k=some o->H.get k=some o):Re C ⟨sl,H,t⟩ ⟨sl,H',t⟩:=
 λG0 w0 G w a h0 hs hst=>⟨G,hs,hst.wf,hst.ku,hst.slots,λk o hk=>hst.heap k o (h k o hk),hst.fresh⟩
def BR:Nat->List TV->List (Nat×TV)
 |_,[]=>[]
 |i,v::r=>(i,v)::BR (i+1) r
theorem Jz:∀(l:List TV) (i j:Nat),i<=j->look (BR i l) j=.any\/l[j - i]?=some (look (BR i l) j)
 | [],_,_,_=>.inl rfl
 | v ::r,i,j,h=>by
   simp only[BR]
   rw[qI]
   by_cases e:j=i
   · subst e;simp
   · rw[if_neg e]
     have:=Jz r (i+1) j (by omega)
     have e2:j - i=(j - (i+1))+1:=by omega
     rw[e2,List.getElem?_cons_succ]
     exact this
theorem Re.start (args:List TV)(k:Nat)(H:Heap)(t:Nat):Re C ⟨args++List.replicate k dc,H,t⟩ ⟨eA (args.length+k) (BR 0 args),H,t⟩:=by
 intro G0 w0 G w a h0 hs hst;refine⟨G,hs,hst.wf,hst.ku,dU.less hst.slots (by simp[jc]) λi x y hx hy=> ?_,hst.heap,hst.fresh⟩;have hi:i<args.length+k:=by have:=(List.getElem?_eq_some_iff.1 hx).1;simpa using this
 rw[rY hi,Option.some.injEq] at hy;subst hy;rcases Jz args 0 i (Nat.zero_le _) with h|h
 ·exact .inl h
 ·right;rw[Nat.sub_zero] at h;have hl:=(List.getElem?_eq_some_iff.1 h).1;rw[List.getElem?_append_left hl,h] at hx;exact(Option.some.inj hx).symm
end
end Go.Abs
end
noncomputable section
namespace Go.Abs
open Go
section
variable {C:ew}{ev:bp}{f:FuncId}{ops:Array Oper}{Q:aR->St->Prop}{n:Nat}{sp:List (Nat×TV)}{H:Heap}{t:Nat}{r:List Oper}
def fH (C:ew)(ev:bp)(f:FuncId)(H:Heap)(n:Nat)(sp:List (Nat×TV))(t:Nat)(d:Option Tmp)(op:Op)(v:TV)(u:Heap):Prop:=
 ∀ty pos af g,bk C ev f H (eA n sp) t ⟨d,op,ty,pos,af,g⟩=some (.val v u)
theorem iP.go {d:Tmp}{op:Op}{ty pos af}{v:TV}{u:Heap}(aI:aC C ev)(h:fH C ev f H n sp t (some d) op v u)(k:iP C ops r ⟨eA n ((d,v)::sp),H.fk u,t+1⟩ Q):
 iP C ops (⟨some d,op,ty,pos,af,none⟩::r) ⟨eA n sp,H,t⟩ Q:=by
 refine iP.step aI rfl (h _ _ _ _) ?_
 rw[gp]
 exact k
theorem iP.SA {op:Op}{ty pos af}{v:TV}{u:Heap}(aI:aC C ev)(h:fH C ev f H n sp t none op v u)(k:iP C ops r ⟨eA n sp,H.fk u,t+1⟩ Q):
 iP C ops (⟨none,op,ty,pos,af,none⟩::r) ⟨eA n sp,H,t⟩ Q:=by
 refine iP.step aI rfl (h _ _ _ _) ?_
 rw[gp]
 exact k
def gv (g:Bool)(v:TV):TV:=bif g then v else dc
theorem mN {j gd:Nat}{w:Bool}{o:Oper}(ho:o.guard=some (j,w))(hj:(ops[j]?).bind (·.dst)=some gd)(hn:Nat.blt gd n=true):
 eX ops (eA n sp) o=match look sp gd with|.t (.bool b)=>some (b==w)|.t (.cG [])=>some false|_=>none:=by
 have:gd<n:=by simpa [Nat.blt,Nat.succ_le_iff] using hn
 unfold eX
 simp only[ho,hj,rY this]
 generalize look sp gd=x
 cases x with
 |t y=>cases y with
  |cG vs=>cases vs<;>rfl
  |_=>rfl
 |_=>rfl
theorem iP.guarded {d:Tmp}{op:Op}{ty pos af}{j gd:Nat}{w:Bool}{b g:Bool}{v:TV}(aI:aC C ev)(hj:(ops[j]?).bind (·.dst)=some gd)(hn:Nat.blt gd n=true)
 (hl:(look sp gd=.t (.bool b)/\g=(b==w))\/∃g1,look sp gd=gv g1 (.t (.bool b))/\g=(g1&&(b==w)))
 (h:g=true->fH C ev f H n sp t (some d) op v [])(k:iP C ops r ⟨eA n ((d,gv g v)::sp),H,t+1⟩ Q):iP C ops (⟨some d,op,ty,pos,af,some (j,w)⟩::r) ⟨eA n sp,H,t⟩ Q:=by
 have hw:eX ops (eA n sp) ⟨some d,op,ty,pos,af,some (j,w)⟩=some g:=by
  rcases hl with ⟨hl,rfl⟩|⟨g1,hl,rfl⟩
  ·rw[mN rfl hj hn,hl]
  ·rw[mN rfl hj hn,hl];cases g1<;>rfl
 cases g with
 | true=>
   refine iP.step aI hw (h rfl _ _ _ _) ?_
   rw[gp]
   exact k
 | false=>
   refine iP.unwanted hw ?_
   rw[gp]
   exact k
variable {d:Option Tmp}
theorem aH {x:Operand}{v:TV}(h:fq C n sp x=some v):fH C ev f H n sp t d (.move x) v []:=λ_ _ _ _=>by
 simp only[bk,evalOp,fL h,CH,Option.map_some]
theorem aJ {x:Operand}{v:TV}(h:fq C n sp x=some v):fH C ev f H n sp t d (.assign x) v []:=λ_ _ _ _=>by
 simp only[bk,evalOp,fL h,CH,Option.map_some]
theorem nF {x:Operand}{v:Tree}(h:fq C n sp x=some (.t v)):fH C ev f H n sp t d (.move x) (.t v) []:=aH h
theorem iL {x:Operand}{v:Tree}(h:fq C n sp x=some (.t v)):fH C ev f H n sp t d (.assign x) (.t v) []:=aJ h
theorem Zm {c x y:Operand}{b:Bool}{u v:TV}(hc:fq C n sp c=some (.t (.bool b)))(hx:fq C n sp x=some u)(hy:fq C n sp y=some v):fH C ev f H n sp t d (.pick c x y) (if b then u else v) []:=λ_ _ _ _=>by
 simp only[bk,evalOp,fL hc,fL hx,fL hy]
theorem Mc {ty:TypeId}{x:Operand}{b:Bool}(h:fq C n sp x=some (.t (.bool b))):fH C ev f H n sp t d (.unOp .not ty x) (.t (.bool (!b))) []:=λ_ _ _ _=>by
 simp only[bk,evalOp,fL h];cases b<;>rfl
theorem Da {elem:TypeId}{ti:TI}{z:TV}(ht:C.P.ty elem=some ti)(hz:ti.zero=some z)(hl:z.cells.all TV.leaf=true):fH C ev f H n sp t d (.alloc elem) (.ptr (.loc [t]) 0) [(.loc [t],.cells elem z.cells)]:=λ_ _ _ _=>by
 simp only[bk,evalOp,bw,ht,hz,hl,if_true]
theorem mV {ty:TypeId}{x:Operand}{a v:TV}(h:fq C n sp x=some a)(hl:loadT C.P H ty a=some v):fH C ev f H n sp t d (.load ty x) v []:=λ_ _ _ _=>by
 simp only[bk,evalOp,fL h,hl,CH,Option.map_some]
theorem k6 {ty:TypeId}{x:Operand}{a:TV}{v:Tree}(h:fq C n sp x=some a)(hl:loadT C.P H ty a=some (.t v)):fH C ev f H n sp t d (.load ty x) (.t v) []:=mV h hl
theorem ld {P:jZ}{ty:TypeId}{ti:TI}{a v:TV}{cs:List TV}{off:Nat}(ht:P.ty ty=some ti)(hc:xB H a=some (cs,off))(hp:partT ti.agg ti.size cs off=some v):loadT P H ty a=some v:=by
 simp only[loadT,bw,ht,hc,hp]
theorem Zn {P:jZ}{ty:TypeId}{ti:TI}{x:TV}{k:Nm}{off:Nat}{g:TypeId}{cs:List TV}(ht:P.ty ty=some ti)(hc:H.get k=some (.cells g cs))(hl:(decide (x.cells.length=ti.size)&&x.cells.all TV.leaf&&decide (off+ti.size<=cs.length))=true):
 storeT P H ty (.ptr k off) x=some [(k,.cells g (dH cs off x.cells))]:=by
 simp only[Bool.and_eq_true,decide_eq_true_eq] at hl
 obtain⟨⟨h1,h2⟩,h3⟩:=hl
 simp only[storeT,bw,ht,h1,h2,hc,h3,and_self,if_true]
theorem pP {ty:TypeId}{x y:Operand}{a v:TV}{u:Heap}(h:fq C n sp x=some a)(h2:fq C n sp y=some v)(hl:storeT C.P H ty a v=some u):fH C ev f H n sp t d (.store ty x y) dc u:=λ_ _ _ _=>by
 simp only[bk,evalOp,fL h,fL h2,hl,Bg,Option.map_some]
def pQ (P:jZ)(s i:Nat):Option Nat:=match bw P s with
 | some ti=>match ti.desc with
  | .struct fs=>match fs[i]? with
   |some fd=>match bw P fd.type with
    |some tf=>if tf.size=0 then none else some fd.offset
    |none=>none
   |none=>none
  |_=>none
 |none=>none
theorem eB {s i off:Nat}{x:Operand}{a v:TV}(h:fq C n sp x=some a)(ho:pQ C.P s i=some off)(hp:th H a off=some v):fH C ev f H n sp t d (.fieldAddr s x i) v []:=λ_ _ _ _=>by
 unfold pQ at ho;split at ho<;>try (simp at ho;done)
 rename_i ti LX;split at ho<;>try (simp at ho;done)
 rename_i fs hfs;split at ho<;>try (simp at ho;done)
 rename_i fd hfd;split at ho<;>try (simp at ho;done)
 rename_i tf YN;split at ho<;>try (simp at ho;done)
 rename_i hz;simp at ho;subst ho;simp only[bk,evalOp,fL h,LX,hfs,hfd,YN,if_neg hz,hp,CH,Option.map_some]
theorem GK {ty:TypeId}{x i:Operand}{a j v:TV}(h:fq C n sp x=some a)(hi:fq C n sp i=some j)(hv:fE C.P H ty a j=some v):fH C ev f H n sp t d (.indexAddr ty x i) v []:=λ_ _ _ _=>by
 simp only[bk,evalOp,fL h,fL hi,hv,CH,Option.map_some]
theorem aec {ty:TypeId}{x i:Operand}{a j v:TV}(h:fq C n sp x=some a)(hi:fq C n sp i=some j)(hv:tj C.P ty a j=some v):fH C ev f H n sp t d (.index ty x i) v []:=λ_ _ _ _=>by
 simp only[bk,evalOp,fL h,fL hi,hv,CH,Option.map_some]
theorem iV {op:BinOp}{ty r2:TypeId}{x y:Operand}{a b v:TV}(h:fq C n sp x=some a)(h2:fq C n sp y=some b)(hv:vD C.P op ty x y a b=some v):fH C ev f H n sp t d (.binOp op ty x y r2) v []:=λ_ _ _ _=>by
 simp only[bk,evalOp,fL h,fL h2,hv,CH,Option.map_some]
theorem wrap64 {x:Int}(h1:-9223372036854775808<=x)(h2:x<=9223372036854775807):IntKind.i64.wrap x=x:=by
 simp only[IntKind.wrap,IntKind.bits,IntKind.signed];first|omega|(simp;omega)
theorem JA {op:BinOp}{ty r2:TypeId}{x y:Operand}{k:IntKind}{a b:Int}{v:TV}(h:fq C n sp x=some (.t (.int k a)))(h2:fq C n sp y=some (.t (.int k b)))(hv:Wx op k a b=some v):fH C ev f H n sp t d (.binOp op ty x y r2) v []:=
 iV h h2 (by simp only[vD,if_true,hv])
theorem pR {ty r2:TypeId}{x y:Operand}{k:IntKind}{a b:Int}(h:fq C n sp x=some (.t (.int k a)))(h2:fq C n sp y=some (.t (.int k b))):fH C ev f H n sp t d (.binOp .eql ty x y r2) (.t (.bool (a==b))) []:=JA h h2 rfl
theorem pT {ty r2:TypeId}{x y:Operand}{k:IntKind}{a b:Int}(h:fq C n sp x=some (.t (.int k a)))(h2:fq C n sp y=some (.t (.int k b))):fH C ev f H n sp t d (.binOp .lss ty x y r2) (.t (.bool (decide (a<b)))) []:=JA h h2 rfl
theorem Zo {ty r2:TypeId}{x y:Operand}{k:IntKind}{a b:Int}(h:fq C n sp x=some (.t (.int k a)))(h2:fq C n sp y=some (.t (.int k b))):fH C ev f H n sp t d (.binOp .leq ty x y r2) (.t (.bool (decide (a<=b)))) []:=JA h h2 rfl
theorem P7 {ty r2:TypeId}{x y:Operand}{k:IntKind}{a b:Int}(h:fq C n sp x=some (.t (.int k a)))(h2:fq C n sp y=some (.t (.int k b))):fH C ev f H n sp t d (.binOp .gtr ty x y r2) (.t (.bool (decide (a>b)))) []:=JA h h2 rfl
theorem P8 {ty r2:TypeId}{x y:Operand}{k:IntKind}{a b:Int}(h:fq C n sp x=some (.t (.int k a)))(h2:fq C n sp y=some (.t (.int k b))):fH C ev f H n sp t d (.binOp .geq ty x y r2) (.t (.bool (decide (a>=b)))) []:=JA h h2 rfl
theorem Nw {ty r2:TypeId}{x y:Operand}{a b:Int}(h:fq C n sp x=some (.t (.int .i64 a)))(h2:fq C n sp y=some (.t (.int .i64 b)))(h3:-9223372036854775808<=a+b)(h4:a+b<=9223372036854775807):fH C ev f H n sp t d (.binOp .add ty x y r2) (.t (.int .i64 (a+b))) []:=
 JA h h2 (by simp only[Wx,wrap64 h3 h4])
theorem ahf {ty r2:TypeId}{x y:Operand}{a b:List UInt8}(h:fq C n sp x=some (.t (.str a)))(h2:fq C n sp y=some (.t (.str b))):fH C ev f H n sp t d (.binOp .eql ty x y r2) (.t (.bool (a==b))) []:=iV h h2 rfl
theorem xQ {ty:TypeId}{x:Operand}{s:List UInt8}{ti:TI}(h:fq C n sp x=some (.t (.str s)))(ht:C.P.ty ty=some ti)(hd:ti.desc=.string):fH C ev f H n sp t d (.call ⟨.builtin .len, #[x], #[ty]⟩) (.t (.int .i64 s.length)) []:=λ_ _ _ _=>by
 have h1:kT C (eA n sp) (#[x].toList)=some [.t (.str s)]:=by simp only[kT,fL h]
 simp only[bk,evalOp,h1];delta nr;simp only[bw,ht,hd]
theorem Nx {ty e:TypeId}{x:Operand}{v:TV}{m:Nat}{ti:TI}(h:fq C n sp x=some v)(ht:C.P.ty ty=some ti)(hd:ti.desc=.slice e)(hl:BE H v=some m)(h1:∀s,v≠ .t (.str s))(h2:v≠ .t .j4)(h3:∀k,v≠ .map k):
 fH C ev f H n sp t d (.call ⟨.builtin .len, #[x], #[ty]⟩) (.t (.int .i64 m)) []:=λ_ _ _ _=>by
 have h4:kT C (eA n sp) (#[x].toList)=some [v]:=by simp only[kT,fL h]
 simp only[bk,evalOp,h4]
 delta nr
 simp only[bw,ht,hd]
 cases v with
 |t x=>cases x with
  |str s=>exact absurd rfl (h1 s)
  |j4=>exact absurd rfl h2
  |_=>simp only[hl];rfl
 |map k=>exact absurd rfl (h3 k)
 |_=>simp only[hl];rfl
theorem JB {ty e:TypeId}{x:Operand}{es:List Tree}{ti:TI}(h:fq C n sp x=some (.t (.sl es)))(ht:C.P.ty ty=some ti)(hd:ti.desc=.slice e):fH C ev f H n sp t d (.call ⟨.builtin .len, #[x], #[ty]⟩) (.t (.int .i64 es.length)) []:=
 Nx h ht hd rfl (λ_=>by simp) (by simp) (λ_=>by simp)
theorem Ny {ty e:TypeId}{x:Operand}{k:Nm}{o l:Nat}{ti:TI}(h:fq C n sp x=some (.ref k o l))(ht:C.P.ty ty=some ti)(hd:ti.desc=.slice e):fH C ev f H n sp t d (.call ⟨.builtin .len, #[x], #[ty]⟩) (.t (.int .i64 l)) []:=
 Nx h ht hd rfl (λ_=>by simp) (by simp) (λ_=>by simp)
theorem Tc {ty e:TypeId}{x:Operand}{ti:TI}(h:fq C n sp x=some .bX)(ht:C.P.ty ty=some ti)(hd:ti.desc=.slice e):fH C ev f H n sp t d (.call ⟨.builtin .len, #[x], #[ty]⟩) (.t (.int .i64 (0:Nat))) []:=
 Nx h ht hd rfl (λ_=>by simp) (by simp) (λ_=>by simp)
theorem Td {ty e:TypeId}{x:Operand}{es:List Tree}{ti:TI}(h:fq C n sp x=some (.qp es))(ht:C.P.ty ty=some ti)(hd:ti.desc=.slice e):fH C ev f H n sp t d (.call ⟨.builtin .len, #[x], #[ty]⟩) (.t (.int .i64 es.length)) []:=
 Nx h ht hd rfl (λ_=>by simp) (by simp) (λ_=>by simp)
theorem Md {b:Builtin}{args:Array Operand}{ats:Array TypeId}{vs:List TV}{v:TV}{u:Heap}(h:tI C n sp args.toList=some vs)(hv:nr C (.loc [t]) H b ats.toList vs=some (v,u)):fH C ev f H n sp t d (.call ⟨.builtin b,args,ats⟩) v u:=λ_ _ _ _=>by
 simp only[bk,evalOp,Jy h,hv]
theorem JC {ty elem:TypeId}{ti te:TI}{x i:Operand}{es:List Tree}{k:IntKind}{m:Nat}{e:Tree}(h:fq C n sp x=some (.t (.sl es)))(hi:fq C n sp i=some (.t (.int k (m:Int))))(ht:C.P.ty ty=some ti)(hd:ti.desc=.slice elem)
 (hte:C.P.ty elem=some te)(he:es[m]?=some e)(hc:e.cells.length=te.size):fH C ev f H n sp t d (.indexAddr ty x i) (.lS e.cells 0) []:=
 GK h hi (by
  have h1:iB (.t (.int k (m:Int)))=some m:=by simp[iB]
  simp only[fE,bw,ht,h1,hd,hte,he,hc,if_true])
theorem jN {ty:TypeId}{ti:TI}{x i:Operand}{s:List UInt8}{k:IntKind}{m:Nat}{b:UInt8}(h:fq C n sp x=some (.t (.str s)))(hi:fq C n sp i=some (.t (.int k (m:Int))))(ht:C.P.ty ty=some ti)(hd:ti.desc=.string)
 (he:s[m]?=some b):fH C ev f H n sp t d (.index ty x i) (.t (.int .u8 b.toNat)) []:=
 aec h hi (by
  have h1:iB (.t (.int k (m:Int)))=some m:=by simp[iB]
  simp only[tj,bw,ht,h1,hd,he])
theorem Te {fo:Operand}{args:Array Operand}{ats:Array TypeId}{g:FuncId}{aua:List TV}{v:TV}{u:Heap}(hc:lX C (eA n sp) ⟨.value fo,args,ats⟩=some (g,aua))(he:uP ev H g aua t=some (.val v u))(hk:C.lW f (d.getD 255)=false:=by rfl):fH C ev f H n sp t d (.call ⟨.value fo,args,ats⟩) v u:=λ_ _ _ _=>by
 simp only[bk,hc,Pr,hk,he]
theorem zy {g:FuncId}{args:Array Operand}{ats:Array TypeId}{aua:List TV}(h:tI C n sp args.toList=some aua):lX C (eA n sp) ⟨.value (.func g),args,ats⟩=some (g,aua):=by
 simp only[lX,dr,Jy h]
theorem vI (H:Heap):∀(ts:List Tree),o8 H (ts.map .t)=(ts.map .t,[])
 | []=>rfl
 |x::r=>by
  simp only[List.map_cons,o8,vI H r]
  rfl
theorem uV:∀(ts:List Tree),TV.k4 (ts.map .t)=[]
 | []=>rfl
 |x::r=>by simp only[List.map_cons,TV.k4,TV.names,uV r,List.append_nil]
theorem s8 (σ:Nm->Option Nm):∀(ts:List Tree),TV.yZ σ (ts.map .t)=some (ts.map .t)
 | []=>rfl
 |x::r=>by simp only[List.map_cons,TV.yZ,TV.rn,s8 σ r]
theorem GN {g:FuncId}{ts:List Tree}{x:Tree}(he:ev g (ts.map .t) []=some (.ret (.t x) [] [])):uP ev H g (ts.map .t) t=some (.val (.t x) []):=by
 unfold uP;simp only[Pq,vI,uV];have h1:reach (H.fk (eU H [])) iK [] []=some []:=rfl;rw[h1];simp only[List.nodup_nil,if_true,s8,jM,he];rfl
theorem iC {g:FuncId}{args:Array Operand}{ats:Array TypeId}{ts:List Tree}{x:Tree}(h:tI C n sp args.toList=some (ts.map .t))(he:ev g (ts.map .t) []=some (.ret (.t x) [] []))(hk:C.lW f (d.getD 255)=false:=by rfl):fH C ev f H n sp t d (.call ⟨.value (.func g),args,ats⟩) (.t x) []:=
 Te (zy h) (GN he) hk
end
end Go.Abs
end
noncomputable section
namespace Go.Abs
open Go
section
variable {C:ew}{ev:bp}{f:FuncId}
theorem oq {s s':List TV}:∀{l:List Operand},(∀x∈l,dr C s' x=dr C s x)->kT C s' l=kT C s l
 | [],_=>rfl
 |x::r,h=>by
  simp only[kT,h x List.mem_cons_self,oq (l:=r) λy hy=>h y (List.mem_cons_of_mem _ hy)]
theorem xR {s s':List TV}:∀{l:List (Nat×Operand)},(∀x∈l.map (·.2),dr C s' x=dr C s x)->tu C s' l=tu C s l
 | [],_=>rfl
 |(i,x)::r,h=>by
  simp only[tu,h x (by simp),xR (l:=r) λy hy=>h y (by simp only[List.map_cons,List.mem_cons];exact .inr hy)]
theorem xS {s s':List TV}{o:Option Operand}(h:∀x∈o.toArray.toList,dr C s' x=dr C s x):za C s' o=za C s o:=by
 cases o with
 |none=>rfl
 |some x=>simp only[za,h x (by simp)]
set_option maxHeartbeats 1000000 in
theorem Nz {nm:Nm}{H:Heap}{s s':List TV}{o:Oper}(h:∀x∈o.op.operands.toList,dr C s' x=dr C s x):evalOp C f nm H s' o=evalOp C f nm H s o:=by
 obtain⟨d,op,ty,pos,af,g⟩:=o;cases op with
 |move x=>simp only[evalOp,h x (by simp[Op.operands])]
 |assign x=>simp only[evalOp,h x (by simp[Op.operands])]
 |pick c a b=>simp only[evalOp,h c (by simp[Op.operands]),h a (by simp[Op.operands]),h b (by simp[Op.operands])]
 |alloc t=>rfl
 |box t x=>simp only[evalOp,h x (by simp[Op.operands])]
 |build t ps=>
  have:=xR (C:=C) (s:=s) (s':=s') (l:=ps.toList) (λx hx=>h x (by simpa [Op.operands] using hx))
  simp only[evalOp,this]
 |buildSlice t n ps=>
  have:=xR (C:=C) (s:=s) (s':=s') (l:=ps.toList) (λx hx=>h x (by simpa [Op.operands] using hx))
  simp only[evalOp,this]
 |insert t m k v=>simp only[evalOp,h m (by simp[Op.operands]),h k (by simp[Op.operands]),h v (by simp[Op.operands])]
 |load t x=>simp only[evalOp,h x (by simp[Op.operands])]
 |store t a v=>simp only[evalOp,h a (by simp[Op.operands]),h v (by simp[Op.operands])]
 |nilCheck x=>simp only[evalOp,h x (by simp[Op.operands])]
 |binOp o t a v r=>simp only[evalOp,h a (by simp[Op.operands]),h v (by simp[Op.operands])]
 |unOp o t x=>simp only[evalOp,h x (by simp[Op.operands])]
 |convert a b x=>simp only[evalOp,h x (by simp[Op.operands])]
 |makeInterface t x=>simp only[evalOp,h x (by simp[Op.operands])]
 |makeFunc fn a b=>
  have h1:=oq (C:=C) (s:=s) (s':=s') (l:=a.toList) (λx hx=>h x (by simp only[Op.operands,Array.toList_append,List.mem_append];exact .inl hx))
  have h2:=oq (C:=C) (s:=s) (s':=s') (l:=b.toList) (λx hx=>h x (by simp only[Op.operands,Array.toList_append,List.mem_append];exact .inr hx))
  simp only[evalOp,h1,h2]
 |makeMap t r=>
  have:=xS (C:=C) (s:=s) (s':=s') (o:=r) (λx hx=>h x (by simpa [Op.operands] using hx))
  simp only[evalOp,this]
 |makeSlice t a v=>simp only[evalOp,h a (by simp[Op.operands]),h v (by simp[Op.operands])]
 |slice t x l m k=>
  have h1:=xS (C:=C) (s:=s) (s':=s') (o:=l) (λy hy=>h y (by simp only[Op.operands,Array.toList_append,List.mem_append];exact .inl (.inl (.inr hy))))
  have h2:=xS (C:=C) (s:=s) (s':=s') (o:=m) (λy hy=>h y (by simp only[Op.operands,Array.toList_append,List.mem_append];exact .inl (.inr hy)))
  have h3:=xS (C:=C) (s:=s) (s':=s') (o:=k) (λy hy=>h y (by simp only[Op.operands,Array.toList_append,List.mem_append];exact .inr hy))
  simp only[evalOp,h x (by simp[Op.operands]),h1,h2,h3]
 |fieldAddr t x i=>simp only[evalOp,h x (by simp[Op.operands])]
 |field t x i=>simp only[evalOp,h x (by simp[Op.operands])]
 |indexAddr t a v=>simp only[evalOp,h a (by simp[Op.operands]),h v (by simp[Op.operands])]
 |index t a v=>simp only[evalOp,h a (by simp[Op.operands]),h v (by simp[Op.operands])]
 |lookup t a v ok=>simp only[evalOp,h a (by simp[Op.operands]),h v (by simp[Op.operands])]
 |mapUpdate t m k v=>simp only[evalOp,h m (by simp[Op.operands]),h k (by simp[Op.operands]),h v (by simp[Op.operands])]
 |mapEntry t m k=>simp only[evalOp,h m (by simp[Op.operands]),h k (by simp[Op.operands])]
 |entryStore t m k v=>simp only[evalOp,h m (by simp[Op.operands]),h k (by simp[Op.operands]),h v (by simp[Op.operands])]
 |typeAssert x a b ok=>simp only[evalOp,h x (by simp[Op.operands])]
 |extract x i=>simp only[evalOp,h x (by simp[Op.operands])]
 | call c=>
  obtain⟨ce,args,ats⟩:=c
  cases ce with
  |builtin b=>
   have h1:=oq (C:=C) (s:=s) (s':=s') (l:=args.toList) (λx hx=>h x (by simp only[Op.operands,Call.operands,Array.toList_append,List.mem_append];exact .inr hx))
   simp only[evalOp,h1]
  |value fo=>rfl
  |invoke r m=>rfl
 |_=>rfl
theorem P9 {H:Heap}{s s':List TV}{t:Nat}{o:Oper}(h:∀x∈o.op.operands.toList,dr C s' x=dr C s x):bk C ev f H s' t o=bk C ev f H s t o:=by
 have he:=Nz (C:=C) (f:=f) (nm:=.loc [t]) (H:=H) h;obtain⟨d,op,ty,pos,af,g⟩:=o;cases op with
 |panic x=>simp only[bk,h x (by simp[Op.operands])]
 | call c=>
  obtain⟨ce,args,ats⟩:=c
  cases ce with
  |value fo=>
   have h1:=oq (C:=C) (s:=s) (s':=s') (l:=args.toList) (λx hx=>h x (by simp only[Op.operands,Call.operands,Array.toList_append,List.mem_append];exact .inr hx))
   have h2:dr C s' fo=dr C s fo:=h fo (by simp[Op.operands,Call.operands])
   simp only[bk,lX,h1,h2]
  |invoke r nm=>
   have h1:=oq (C:=C) (s:=s) (s':=s') (l:=args.toList) (λx hx=>h x (by simp only[Op.operands,Call.operands,Array.toList_append,List.mem_append];exact .inr hx))
   have h2:dr C s' r=dr C s r:=h r (by simp[Op.operands,Call.operands])
   simp only[bk,H6,h1,h2]
  |_=>simp only[bk,he]
 |_=>simp only[bk,he]
theorem Zp {L:List Nat}{s:List TV}{x:Operand}(h:∀t,x=.tmp t->t∈L):dr C (kU L 0 s) x=dr C s x:=by
 cases x with
 |tmp t=>
  have ht:=h t rfl
  simp only[dr,M3,List.getD_eq_getElem?_getD,wC,Nat.zero_add,if_pos ht]
 |_=>rfl
theorem JD {ops:Array Oper}{H:Heap}{s:List TV}{t:Nat}{o:Oper}:bk C ev f H (kU (o.looksAt ops) 0 s) t o=bk C ev f H s t o:=
 P9 λx hx=>Zp λt e=>by
  subst e;unfold Oper.looksAt;refine List.mem_append_left _ (List.mem_filterMap.2 ⟨_,hx,rfl⟩)
theorem xT {ops:Array Oper}{s:List TV}{o:Oper}:eX ops (kU (o.looksAt ops) 0 s) o=eX ops s o:=by
 unfold eX;cases hg:o.guard with
 |none=>rfl
 | some g=>
  obtain⟨j,want⟩:=g
  simp only[]
  cases hd:(ops[j]?).bind (·.dst) with
  |none=>rfl
  | some d=>
   have hm:d∈o.looksAt ops:=by
    unfold Oper.looksAt
    refine List.mem_append_right _ ?_
    rw[hg]
    simp[hd]
   simp only[wC,Nat.zero_add,if_pos hm]
def y7 (C:ew)(ev:bp)(f:FuncId)(ops:Array Oper)(bs:List Nat)(t0 i:Nat)(l:List Oper)(n:Nat)(sp:List (Nat×TV))(H:Heap)(K:List Rec->List (Nat×TV)->Heap->Prop):Prop:=
 ∃recs sp' H',HF C ev f ops bs t0 i l ⟨eA n sp,H⟩ none=some recs/\CM l recs ⟨eA n sp,H⟩=⟨eA n sp',H'⟩/\(∀j,lY j recs=none)/\K recs sp' H'
section
variable {ops:Array Oper}{bs:List Nat}{t0 i n:Nat}{r:List Oper}{sp:List (Nat×TV)}{H:Heap}{K:List Rec->List (Nat×TV)->Heap->Prop}
theorem y7.nil (h:K [] sp H):y7 C ev f ops bs t0 i [] n sp H K:=⟨[],sp,H,rfl,rfl,λ_=>rfl,h⟩
theorem y7.step {o:Oper}{fp:List Nm}{v:TV}{u:Heap}(hw:eX ops (eA n sp) o=some true)(Va:SK C H (eA n sp) o=some fp)(hx:bk C ev f (pg H fp) (eA n sp) (t0+i) o=some (.val v u))
 (k:y7 C ev f ops bs t0 (i+1) r n (aip sp o.dst v) (H.fk u) λrs sp' H'=>K (⟨fp,.val v u⟩::rs) sp' H'):y7 C ev f ops bs t0 i (o::r) n sp H K:=by
 obtain⟨rs,sp',H',h1,h2,h3,h4⟩:=k
 refine⟨⟨fp,.val v u⟩::rs,sp',H', ?_, ?_,λj=> ?_,h4⟩
 ·simp only[HF,YA,xT,hw,Va,JD,hx,Option.isSome_none,Bool.false_eq_true,decide_false,Bool.false_and,if_false,xE.after,gp,mg,h1]
 ·simp only[CM,xE.after,gp,h2]
 ·exact h3 (j+1)
theorem y7.skip {o:Oper}(hw:eX ops (eA n sp) o=some false)(k:y7 C ev f ops bs t0 (i+1) r n (aip sp o.dst dc) H λrs sp' H'=>K (⟨[],.unwanted⟩::rs) sp' H'):y7 C ev f ops bs t0 i (o::r) n sp H K:=by
 obtain⟨rs,sp',H',h1,h2,h3,h4⟩:=k;refine⟨⟨[],.unwanted⟩::rs,sp',H', ?_, ?_,λj=> ?_,h4⟩
 ·simp only[HF,YA,xT,hw,xE.after,gp,mg,h1]
 ·simp only[CM,xE.after,gp,h2]
 ·exact h3 (j+1)
theorem y7.go {d:Tmp}{op:Op}{ty pos af}{fp:List Nm}{v:TV}{u:Heap}(Va:SK C H (eA n sp) ⟨some d,op,ty,pos,af,none⟩=some fp)(h:fH C ev f (pg H fp) n sp (t0+i) (some d) op v u)
 (k:y7 C ev f ops bs t0 (i+1) r n ((d,v)::sp) (H.fk u) λrs sp' H'=>K (⟨fp,.val v u⟩::rs) sp' H'):y7 C ev f ops bs t0 i (⟨some d,op,ty,pos,af,none⟩::r) n sp H K:=
 y7.step rfl Va (h _ _ _ _) k
theorem y7.SA {op:Op}{ty pos af}{fp:List Nm}{v:TV}{u:Heap}(Va:SK C H (eA n sp) ⟨none,op,ty,pos,af,none⟩=some fp)(h:fH C ev f (pg H fp) n sp (t0+i) none op v u)
 (k:y7 C ev f ops bs t0 (i+1) r n sp (H.fk u) λrs sp' H'=>K (⟨fp,.val v u⟩::rs) sp' H'):y7 C ev f ops bs t0 i (⟨none,op,ty,pos,af,none⟩::r) n sp H K:=
 y7.step rfl Va (h _ _ _ _) k
theorem y7.yes {d:Tmp}{op:Op}{ty pos af}{j gd:Nat}{w b:Bool}{fp:List Nm}{v:TV}{u:Heap}(hj:(ops[j]?).bind (·.dst)=some gd)(hn:Nat.blt gd n=true)(hl:look sp gd=.t (.bool b))(hb:(b==w)=true)
 (Va:SK C H (eA n sp) ⟨some d,op,ty,pos,af,some (j,w)⟩=some fp)(h:fH C ev f (pg H fp) n sp (t0+i) (some d) op v u)
 (k:y7 C ev f ops bs t0 (i+1) r n ((d,v)::sp) (H.fk u) λrs sp' H'=>K (⟨fp,.val v u⟩::rs) sp' H'):y7 C ev f ops bs t0 i (⟨some d,op,ty,pos,af,some (j,w)⟩::r) n sp H K:=
 y7.step (by rw[mN rfl hj hn,hl];simp only[hb]) Va (h _ _ _ _) k
theorem y7.no {d:Tmp}{op:Op}{ty pos af}{j gd:Nat}{w b:Bool}(hj:(ops[j]?).bind (·.dst)=some gd)(hn:Nat.blt gd n=true)(hl:look sp gd=.t (.bool b))(hb:(b==w)=false)
 (k:y7 C ev f ops bs t0 (i+1) r n ((d,dc)::sp) H λrs sp' H'=>K (⟨[],.unwanted⟩::rs) sp' H'):y7 C ev f ops bs t0 i (⟨some d,op,ty,pos,af,some (j,w)⟩::r) n sp H K:=
 y7.skip (by rw[mN rfl hj hn,hl];simp only[hb]) k
theorem y7.none {d:Tmp}{op:Op}{ty pos af}{j gd:Nat}{w:Bool}(hj:(ops[j]?).bind (·.dst)=some gd)(hn:Nat.blt gd n=true)(hl:look sp gd=dc)
 (k:y7 C ev f ops bs t0 (i+1) r n ((d,dc)::sp) H λrs sp' H'=>K (⟨[],.unwanted⟩::rs) sp' H'):y7 C ev f ops bs t0 i (⟨some d,op,ty,pos,af,some (j,w)⟩::r) n sp H K:=
 y7.skip (by rw[mN rfl hj hn,hl];rfl) k
end
theorem AW.draw {id:Nat}{ops:Array Oper}{n t:Nat}{sp:List (Nat×TV)}{H:Heap}{Q:aR->St->Prop}(hm:C.P.prog.follows .mixedOrders=true)(aI:aC C ev)
 (h:y7 C ev f ops (nO ops.toList []) t 0 ops.toList n sp H λrecs sp' H'=>oh ops ops.toList recs (nO ops.toList []) ops.toList recs 0=true/\xF 0 ops.toList=true/\Q .normal ⟨eA n sp',H',t+ops.size⟩):
 AW C (.region id ops true) ⟨eA n sp,H,t⟩ Q:=by
 obtain⟨recs,sp',H',h1,h2,h3,h4,h5,h6⟩:=h
 refine AW.drawn (ev:=ev) (f:=f) hm aI (e:=.normal) (st':=⟨eA n sp',H',t+ops.size⟩) ?_ h6
 unfold Ax
 simp only[h1,h4,h5,and_self,if_true,h3,h2]
theorem iP.Xe {ops:Array Oper}{Q:aR->St->Prop}{n t:Nat}{sp:List (Nat×TV)}{H:Heap}{r:List Oper}{d:Tmp}{ty r2:TypeId}{x y:Operand}{tt pos af}{es:List Tree}{ti:TI}{e:TypeId}
 (hx:fq C n sp x=some (.t (.sl es)))(hy:fq C n sp y=some .bX)(ht:C.P.ty ty=some ti)(hd:ti.desc=.slice e)
 (k:∀b:Bool,(es≠ []->b=false)->iP C ops r ⟨eA n ((d,.t (.bool b))::sp),H,t+1⟩ Q):iP C ops (⟨some d,.binOp .eql ty x y r2,tt,pos,af,none⟩::r) ⟨eA n sp,H,t⟩ Q:=by
 intro G0 w0 G w a h0 hs hst R hR
 have h1:=cH hst.slots hst.ku (fL hx)
 have h2:=cH hst.slots hst.ku (fL hy)
 obtain⟨_,_,hu,_⟩:=bW (show bw C.P ty=some ti from ht)
 rw[hd] at hu
 obtain⟨ad,len,cap,ep,hne⟩:∃ad len cap,a.eval x=.slice ad len cap/\(es≠ []->ad.isNone=false):=by
  generalize a.eval x=p at h1;cases h1 with|t _ _ h1=>cases h1 with
   |Fg ad cap=>exact⟨_,_,_,rfl,λh=>absurd rfl h⟩
   |sl=>exact⟨_,_,_,rfl,λ_=>rfl⟩
 have eq:a.eval y=.slice none 0 0:=by
  generalize a.eval y=q at h2;cases h2;rfl
 have hrun:=(iw (x:=x) (y:=y) (p:=.slice ad len cap) (q:=.slice none 0 0) (C:=C) (w:=w) (t:=ty) (by intro z;simp) (by simp) rfl rfl (CR hu ad len cap 0 0)).1
 have hop:ec C.P (.loc [t]) ⟨some d,.binOp .eql ty x y r2,tt,pos,af,none⟩ a w G (.t (.bool ad.isNone)) []:=
  ec.quiet hst.wf (by simp only[execOp];rw[ep,eq];simp only[Sem.run_bind] at hrun ⊢;rw[hrun];rfl) (.t _ _ (.bool _))
 have kk:=k ad.isNone hne
 refine wpList_step λK hK=> ?_
 rw[jA (G:=G) (show eX ops (eA n sp) ⟨some d,.binOp .eql ty x y r2,tt,pos,af,none⟩=some true from rfl) hst.slots]
 simp only[if_true]
 refine hop.exec.wp nu.no (λz w' hr=> ?_) (λch w' hr=> ?_)
 ·obtain⟨x',G',e1,hs',nj,hv⟩:=hr;simp at e1;subst e1;have:=hst.op (some d) hs' nj hv;rw[gp] at this;exact hK _ _ (kk G0 w0 G' w' _ h0 (dW.comp hs hs'.any) this R λe st' _ _ _ h1 h2=>hR _ _ _ _ _ h1 (Good.Jr (put_defers _ _ _) h2))
 ·obtain⟨x',G',e1,_⟩:=hr;simp at e1
def xU (C:ew)(fn:Func)(n:Nat)(st:St):Option br:=
 match l5 C st fn.results.toList with
 |none=>none
 | some vs=>match tA st.H 0 n with
  |none=>none
  |some os=>match reach st.H iK [] ((CN vs).names++os.flatMap aP.names) with
   |none=>none
   |some R=>(pn st.H R).map λh=>.ret (CN vs) os h
theorem BS {fn:Func}{n:Nat}{st:St}{a:Act}{r:br}{G G0:Gh}{w w0:World}(h:xU C fn n st=some r)(hs:dW G0 w0 G w)(hst:y5 C G w st a):
 ∃v,(results fn a.tmps).run C.P w=.ok v w/\yV G0 w0 n r (.returned v) w:=by
 unfold xU at h
 split at h
 ·simp at h
 rename_i vs hvs
 obtain⟨v,hv,hr⟩:=Jn hst hvs
 refine⟨v,hv, ?_⟩
 split at h
 ·simp at h
 rename_i os hos
 split at h
 ·simp at h
 rename_i R hR
 cases Y5:pn st.H R with
 |none=>rw[Y5] at h;simp at h
 | some nw=>
   rw[Y5] at h
   simp only[Option.map_some,Option.some.injEq] at h
   subst h
   obtain⟨e1,e2⟩:=GI hos
   refine⟨v,G,rfl,hs,e1,λi o ho=> ?_,λk o hm=> ?_,hr⟩
   · have:=e2 i o ho
     rw[Nat.zero_add] at this
     exact hst.heap _ _ this
   · obtain⟨e3,e4⟩:=zw Y5 k o hm
     exact⟨e3,hst.heap _ _ e4⟩
def wE (C:ew)(fn:Func)(n:Nat)(r:br):aR->St->Prop
 |.normal,st=>finish C fn n st=some r\/xU C fn n st=some r
 |.ret,st=>finish C fn n st=some r\/xU C fn n st=some r
 |.panic v,st=>v.names.any Nm.jf=false/\r=.panic v (uQ st.H 0 n)
 |_,_=>False
theorem aiq {f:FuncId}{fn:Func}{body:Code}{args:List TV}{bq:List aP}{r:br}(Nu:C.P.fn f=some fn)(hbody:fn.body=some body)(hname:fn.name≠ "runtime.NumGoroutine")
 (h:AW C body ⟨args++List.replicate (fn.ntmps - args.length) dc,dw 0 bq,0⟩ (wE C fn bq.length r)):ai C f args bq r:=by
 intro G w vs hw hg had hH hv
 have hfn:=C.P.Yw _ _ Nu
 have hst:y5 C G w ⟨args++List.replicate (fn.ntmps - args.length) dc,dw 0 bq,0⟩ {tmps:=vs.toArray++Array.replicate (fn.ntmps - vs.toArray.size) undef,defers:=[]}:=by
  refine⟨hw,hg, ?_,hH,λp hp=>absurd hp (had.2 p)⟩;have e:(vs.toArray++Array.replicate (fn.ntmps - vs.toArray.size) undef).toList=vs++List.replicate (fn.ntmps - args.length) undef:=by simp[hv.1]
  unfold SR;rw[e];refine dU.append hv ⟨by simp,λj c u hc hu=> ?_⟩;rw[List.getElem?_replicate] at hc hu;by_cases hl:j<fn.ntmps - args.length
  ·rw[if_pos hl] at hc hu;simp at hc hu;subst hc;subst hu;exact rA G
  ·rw[if_neg hl] at hc;simp at hc
 have fin:∀{G':Gh} {w':World} {st:St} {a':Act},(finish C fn bq.length st=some r\/xU C fn bq.length st=some r)->dW G w G' w'->y5 C G' w' st a'->∃v,(results fn a'.tmps).run C.P w'=.ok v w'/\yV G w bq.length r (.returned v) w':=
  λh hs hst=>h.elim (λh=>s7 h hs hst) (λh=>BS h hs hst)
 refine .inl ⟨?_,calls_of_wp hfn hbody ?_⟩
 ·simp[callFunc,hfn,hname,hbody]
 ·refine wp_mono (h G w G w _ had.2 (Step.refl hw _ _) hst) λex a' w' ⟨e,st,hq,hgd⟩=> ?_
  cases e with
  | normal=>
    obtain⟨G',hs,hd,rfl,qF⟩:=hgd
    exact⟨hd,fin hq hs qF⟩
  | ret=>
    obtain⟨G',hs,hd,rfl,qF⟩:=hgd
    exact⟨hd,fin hq hs qF⟩
  |exit id=>exact hq.elim
  | panic v=>
    obtain⟨_,rfl⟩:=hq
    obtain⟨G',hs,hd,x,rfl,hx,hH',_⟩:=hgd
    refine⟨hd,x,G',rfl,hs,λi o ho=> ?_,hx⟩
    have:=xN ho
    rw[Nat.zero_add] at this
    exact hH' _ _ this
theorem qJ {f:FuncId}{fn:Func}{body:Code}{args:List TV}{bq:List aP}{r:br}(n k:Nat)(Nu:C.P.fn f=some fn)(hbody:fn.body=some body)(hname:fn.name≠ "runtime.NumGoroutine")
 (hn:fn.ntmps=n)(ha:args.length=k)(hk:k<=n)(h:AW C body ⟨eA n (BR 0 args),dw 0 bq,0⟩ (wE C fn bq.length r)):ai C f args bq r:=by
 refine aiq Nu hbody hname (AW.re (Re.start args (fn.ntmps - args.length) _ _) ?_)
 rw[show args.length+(fn.ntmps - args.length)=n by omega]
 exact h
end
end Go.Abs
end
noncomputable section
namespace Go.Abs
open Go
def zz:Tree->Bool
 |.agg _=>true
 |_=>false
def EOk (ag:Bool)(sz:Nat)(e:Tree):Prop:=e.cells.length=sz/\e.cells.all Tree.leaf=true/\zz e=ag
def eV (ag:Bool)(sz:Nat)(es:List Tree):Prop:=∀e∈es,EOk ag sz e
theorem eV.nil {ag:Bool}{sz:Nat}:eV ag sz []:=λ_ h=>by simp at h
theorem eV.cons {ag:Bool}{sz:Nat}{e:Tree}{es:List Tree}(h:EOk ag sz e)(hs:eV ag sz es):eV ag sz (e::es):=λx hx=>by
 rcases List.mem_cons.1 hx with rfl|hx
 ·exact h
 ·exact hs x hx
theorem eV.append {ag:Bool}{sz:Nat}{a b:List Tree}(h:eV ag sz a)(k:eV ag sz b):eV ag sz (a++b):=λx hx=>(List.mem_append.1 hx).elim (h x) (k x)
theorem eV.take {ag:Bool}{sz:Nat}{a:List Tree}(h:eV ag sz a)(n:Nat):eV ag sz (a.take n):=λx hx=>h x (List.mem_of_mem_take hx)
theorem eV.lens {ag:Bool}{sz:Nat}{es:List Tree}(h:eV ag sz es):∀e∈es,e.cells.length=sz:=λe he=>(h e he).1
theorem eV.AI {ag:Bool}{sz:Nat}{es:List Tree}(h:eV ag sz es):((flat es).map TV.t).all TV.leaf=true:=by
 rw[List.all_eq_true];intro v hv;obtain⟨x,hx,rfl⟩:=List.mem_map.1 hv;obtain⟨e,he,hxe⟩:=List.mem_flatMap.1 hx;exact List.all_eq_true.1 (h e he).2.1 x hxe
theorem eV.length {ag:Bool}{sz:Nat}{es:List Tree}(h:eV ag sz es):((flat es).map TV.t).length=es.length*sz:=by
 rw[List.length_map,fF h.lens]
theorem Xf {e:Tree}(h:zz e=true):e=.agg e.cells:=by
 cases e<;>simp_all [zz,Tree.cells]
theorem one_cell {e:Tree}(h:zz e=false):e.cells=[e]:=by
 cases e<;>simp_all [zz,Tree.cells]
theorem JE {ag:Bool}{sz:Nat}(hz:0<sz):∀{es:List Tree},eV ag sz es->chunk ag sz es.length (flat es)=some es
 | [],_=>rfl
 | e::r,h=>by
  obtain⟨h1,h2,h3⟩:=h e List.mem_cons_self
  have ih:=JE hz (es:=r) λx hx=>h x (List.mem_cons_of_mem _ hx)
  have hd:(flat (e::r)).drop sz=flat r:=by
   simp only[flat,List.flatMap_cons]
   rw[← h1,List.drop_left]
  have ht:(flat (e::r)).take sz=e.cells:=by
   simp only[flat,List.flatMap_cons]
   rw[← h1,List.take_left]
  have hl:sz<=(flat (e::r)).length:=by
   simp only[flat,List.flatMap_cons,List.length_append]
   omega
  simp only[List.length_cons,chunk,if_pos hl,hd,ih,ht]
  cases ag with
  |true=>simp only[if_true];rw[← Xf h3]
  |false=>
   have hc:=one_cell h3
   have e1:sz=1:=by rw[← h1,hc];rfl
   have hlf:e.leaf=true:=by rw[hc] at h2;simpa using h2
   have ef:flat (e::r)=e::flat r:=by simp only[flat,List.flatMap_cons,hc,List.singleton_append]
   simp only[Bool.false_eq_true,if_false,ef,e1,hlf,and_self,if_true]
theorem JF (g:TV->Option (Tree×List Nm))(hg:∀x,g (.t x)=some (x,[])):∀(ts:List Tree),CK g (ts.map .t)=some (ts,[])
 | []=>rfl
 |x::r=>by simp only[List.map_cons,CK,hg,JF g hg r,List.nil_append]
theorem Zq (H:Heap)(n:Nat)(x:Tree):sG H n (.t x)=some (x,[]):=by cases n<;>rfl
theorem Vf {H:Heap}{n:Nat}{k:Nm}{g:TypeId}{ag fz:Bool}{sz len:Nat}{es:List Tree}(hk:H.get k=some (.arr (g,ag) sz fz ((flat es).map .t)))(hu:eV ag sz es)(hz:0<sz)(hl:len=es.length):
 sG H (n+1) (.ref k 0 len)=some (.sl es,[k]):=by
 subst hl
 have hc:0<sz/\(0+es.length) *sz=((flat es).map TV.t).length:=⟨hz,by rw[hu.length,Nat.zero_add]⟩
 have e1:(((flat es).map TV.t).drop (0*sz)).take (es.length*sz)=(flat es).map .t:=by
  rw[Nat.zero_mul,List.drop_zero,List.take_of_length_le (by rw[hu.length];exact Nat.le_refl _)]
 simp only[sG,hk,if_pos hc,e1,JF _ (Zq H n),JE hz hu]
section
variable {C:ew}{ev:bp}{f:FuncId}{n:Nat}{sp:List (Nat×TV)}{H:Heap}{t:Nat}{d:Option Tmp}
theorem sta {P:jZ}{ty:TypeId}{ti:TI}{x:TV}{k:Nm}{off:Nat}{g:TypeId×Bool}{cc:Nat}{cs:List TV}(ht:P.ty ty=some ti)(hk:H.get k=some (.arr g cc false cs))(hl:(decide (x.cells.length=ti.size)&&x.cells.all TV.leaf)=true)(ho:off+ti.size<=cs.length):
 storeT P H ty (.lR k cs.length off) x=some [(k,.arr g cc false (dH cs off x.cells))]:=by
 simp only[Bool.and_eq_true,decide_eq_true_eq] at hl
 simp only[storeT,bw,ht,hl.1,hl.2,hk,ho,and_self,if_true]
theorem Me {sz:Nat}{es:List Tree}{i j m:Nat}{e:Tree}(hu:∀e∈es,e.cells.length=sz)(he:es[i]?=some e)(hj:j+m<=sz):((flat es).drop (i*sz+j)).take m=(e.cells.drop j).take m:=by
 refine List.ext_getElem? λq=> ?_
 by_cases hq:q<m
 ·rw[List.getElem?_take_of_lt hq,List.getElem?_take_of_lt hq,List.getElem?_drop,List.getElem?_drop,Nat.add_assoc,zl hu he (by omega)]
 ·rw[List.getElem?_eq_none (by rw[List.length_take];omega),List.getElem?_eq_none (by rw[List.length_take];omega)]
theorem Qa:∀(ts:List Tree),allT (ts.map .t)=some ts
 | []=>rfl
 |x::r=>by simp only[List.map_cons,allT,Qa r]
theorem Xg (ts:List Tree):Be (ts.map .t)=.t (.agg ts):=by simp only[Be,Qa]
theorem kI {sz:Nat}{es:List Tree}{i j m:Nat}{e:Tree}(hu:∀e∈es,e.cells.length=sz)(he:es[i]?=some e)(hj:j+m<=sz):partT true m ((flat es).map .t) (i*sz+j)=some (.t (.agg ((e.cells.drop j).take m))):=by
 have hi:i<es.length:=(List.getElem?_eq_some_iff.1 he).1;have hle:i*sz+j+m<=((flat es).map TV.t).length:=by
  rw[List.length_map,fF hu];have:(i+1) *sz<=es.length*sz:=Nat.mul_le_mul_right _ hi;rw[Nat.succ_mul] at this;omega
 simp only[partT,if_true,if_pos hle];rw[← List.map_drop,← List.map_take,Me hu he hj,Xg]
theorem ot {sz:Nat}{es:List Tree}{i j:Nat}{e c:Tree}(hu:∀e∈es,e.cells.length=sz)(he:es[i]?=some e)(hc:e.cells[j]?=some c):partT false 1 ((flat es).map .t) (i*sz+j)=some (.t c):=by
 have hj:j<sz:=by rw[← hu e (List.mem_of_getElem? he)];exact(List.getElem?_eq_some_iff.1 hc).1
 simp only[partT,Bool.false_eq_true,if_false,List.getElem?_map,zl hu he hj,hc,Option.map_some]
theorem Zr {cs:List TV}{off:Nat}{vs:List TV}(h:(cs.drop off).take vs.length=vs):dH cs off vs=cs:=by
 unfold dH;conv=>rhs;rw[← List.take_append_drop off cs,← List.take_append_drop vs.length (cs.drop off),h,List.drop_drop]
 rw[List.append_assoc]
theorem Ie {sz:Nat}{es:List Tree}{i j m:Nat}{e:Tree}(hu:∀e∈es,e.cells.length=sz)(he:es[i]?=some e)(hj:j+m<=sz):dH ((flat es).map .t) (i*sz+j) (((e.cells.drop j).take m).map .t)=(flat es).map .t:=by
 refine Zr ?_;have hl:e.cells.length=sz:=hu e (List.mem_of_getElem? he);rw[List.length_map,List.length_take,List.length_drop,hl,Nat.min_eq_left (by omega),← List.map_drop,← List.map_take,Me hu he hj]
theorem air {ag:Bool}{sz:Nat}{es:List Tree}(hu:eV ag sz es):gK H ag sz (.t (.sl es))=some (es.length,(flat es).map .t):=by
 have:kZ sz es=true:=by
  cases es with
  |nil=>rfl
  |cons e r=>simp only[kZ,(hu e List.mem_cons_self).1,BEq.rfl]
 simp only[gK,this,if_true]
theorem aed {ag:Bool}{sz:Nat}{es:List Tree}(hu:eV ag sz es):gK H ag sz (.qp es)=some (es.length,(flat es).map .t):=by
 have:kZ sz es=true:=by
  cases es with
  |nil=>rfl
  |cons e r=>simp only[kZ,(hu e List.mem_cons_self).1,BEq.rfl]
 simp only[gK,this,if_true]
def Vg (y:TV)(es:List Tree):Prop:=y=.t (.sl es)\/y=.qp es
theorem ND {ag:Bool}{sz:Nat}{y:TV}{es:List Tree}(h:Vg y es)(hu:eV ag sz es):gK H ag sz y=some (es.length,(flat es).map .t):=by
 rcases h with rfl|rfl
 ·exact air hu
 ·exact aed hu
structure Mf (P:jZ)(st elem:TypeId)(te:TI):Prop where
 sl:∃ti,P.ty st=some ti/\ti.desc=.slice elem
 el:P.ty elem=some te
 ze:∃z,te.zero=some z/\te.size≠0/\z.cells.length=te.size/\te.bytes≠0
theorem uW {nm:Nm}{s x:TV}{st elem:TypeId}{te:TI}(h:Mf C.P st elem te){m:Nat}{cs:List TV}(hs:gK H te.agg te.size x=some (m,cs))(hm:m≠0)(hl:cs.all TV.leaf=true){r:Option (TV×Heap)}
 (hr:  (match s with
  |.bX=>if m*te.bytes<=gL then some (.ref nm 0 m,[(nm,.arr (elem,te.agg) te.size false cs)]) else none
  |.qp es=>match gK H te.agg te.size (.qp es) with
   |some (n,old)=>if(n+m) *te.bytes<=gL then some (.ref nm 0 (n+m),[(nm,.arr (elem,te.agg) te.size false (old++cs))]) else none
   |none=>none
  |.ref k 0 len=>match kH H k 0 len with
   |some (g,e,fz,old)=>if e=te.size/\g.1=elem/\(len+m) *te.bytes<=gL then some (.ref k 0 (len+m),[(k,.arr g e fz (old++cs))]) else none
   |none=>none
  |_=>none:Option (TV×Heap))=r):lV C.P nm H st st s x=r:=by
 obtain⟨⟨ti,h1,h2⟩,h3,z,h4,h5,h6,h7⟩:=h
 have hc:¬(te.size=0\/z.cells.length≠te.size\/te.bytes=0):=by
  rintro (h|h|h)
  ·exact h5 h
  ·exact h h6
  ·exact h7 h
 unfold lV
 simp only[bw,h1,h2,h3,h4,if_neg hc,hs,if_neg hm,hl,if_true]
 exact hr
theorem Tf {x y:Operand}{st elem:TypeId}{te:TI}{v:TV}{es:List Tree}(h:Mf C.P st elem te)(hx:fq C n sp x=some (.qp []))(hy:fq C n sp y=some v)(hv:Vg v es)(hu:eV te.agg te.size es)(hne:es≠ [])(hb:es.length*te.bytes<=gL):
 fH C ev f H n sp t d (.call ⟨.builtin .append, #[x,y], #[st,st]⟩) (.ref (.loc [t]) 0 es.length) [(.loc [t],.arr (elem,te.agg) te.size false ((flat es).map .t))]:=by
 refine Md (vs:=[.qp [],v]) (by simp only[tI,hx,hy]) ?_
 show lV C.P (.loc [t]) H st st (.qp []) v=_
 refine uW h (ND hv hu) (by simpa using hne) hu.AI ?_
 have e:gK H te.agg te.size (.qp [])=some (0,[]):=rfl
 simp only[e,Nat.zero_add,if_pos hb,List.nil_append]
theorem Tg {x y:Operand}{st elem:TypeId}{te:TI}{s v:TV}(h:Mf C.P st elem te)(hx:fq C n sp x=some s)(hy:fq C n sp y=some v)(hv:Vg v []\/v=.bX)(hs:s=.bX\/(∃es,s=.t (.sl es))\/∃es,s=.qp es):
 fH C ev f H n sp t d (.call ⟨.builtin .append, #[x,y], #[st,st]⟩) s []:=by
 refine Md (vs:=[s,v]) (by simp only[tI,hx,hy]) ?_
 obtain⟨⟨ti,h1,h2⟩,h3,z,h4,h5,h6,h7⟩:=h
 have hc:¬(te.size=0\/z.cells.length≠te.size\/te.bytes=0):=by
  rintro (h|h|h)
  ·exact h5 h
  ·exact h h6
  ·exact h7 h
 have hsrc:gK H te.agg te.size v=some (0,[]):=by
  rcases hv with (rfl|rfl)|rfl<;>rfl
 show lV C.P (.loc [t]) H st st s v=some (s,[])
 unfold lV
 simp only[bw,h1,h2,h3,h4,if_neg hc,hsrc,if_true]
 rcases hs with rfl|⟨es,rfl⟩|⟨es,rfl⟩<;>rfl
theorem Fx {ty elem:TypeId}{ti te:TI}{z:TV}(ha:d.any (C.lW f)=false)(ht:C.P.ty ty=some ti)(hd:ti.desc=.slice elem)(hte:C.P.ty elem=some te)(hz:te.zero=some z)(hc:(decide (0<te.size)&&decide (z.cells.length=te.size)&&z.cells.all TV.leaf)=true):
 fH C ev f H n sp t d (.buildSlice ty 0 #[]) (.qp []) []:=λ_ _ _ _=>by
 simp only[Bool.and_eq_true,decide_eq_true_eq] at hc
 obtain⟨⟨h1,h2⟩,h3⟩:=hc
 have Zs:0<te.size/\0*te.size<=16777216/\z.cells.length=te.size/\z.cells.all TV.leaf=true:=⟨h1,by omega,h2,h3⟩
 simp only[bk,evalOp,tu,uO,bw,ht,hd,hte,hz,if_pos Zs,rR,uN,ha,List.map_nil,allT,Option.bind_some,chunk,List.isEmpty_nil,if_true]
theorem NF {ty r2:TypeId}{x y:Operand}{k:IntKind}{a:Int}(h:fq C n sp x=some (.t (.int k a)))(h2:fq C n sp y=some (.t (.int k a))):fH C ev f H n sp t d (.binOp .neq ty x y r2) (.t (.bool false)) []:=JA h h2 (by simp[Wx])
theorem mO {l:List Tree}{i:Nat}{e:Tree}(h:l[i]?=some e):l.take (i+1)=l.take i++[e]:=by
 obtain⟨h1,rfl⟩:=List.getElem?_eq_some_iff.1 h;exact(List.take_append_getElem h1).symm
theorem Zt {fn:Func}{st:St}{vs:List TV}{x:Tree}{ks:List Nm}(hr:l5 C st fn.results.toList=some vs)(hf:sG st.H ji (CN vs)=some (x,ks)):finish C fn 0 st=some (.ret (.t x) [] []):=by
 unfold finish;simp only[hr,hf,tA,TV.names,List.flatMap_nil,List.append_nil];rfl
theorem Xh {H:Heap}{m:Nat}{k:Nm}{g:TypeId×Bool}{cc:Nat}{fz:Bool}{ts:List Tree}(hk:H.get k=some (.arr g cc fz (ts.map .t))):reach H (m+2) [] [k]=some [k]:=by
 have h1:¬k∈([]:List Nm):=by simp
 simp only[reach,if_neg h1,hk,aP.names,uV,List.append_nil,List.nil_append]
theorem NG {fn:Func}{st:St}{k:Nm}{o len:Nat}{g:TypeId×Bool}{cc:Nat}{fz:Bool}{ts:List Tree}(hr:l5 C st fn.results.toList=some [.ref k o len])(hk:st.H.get k=some (.arr g cc fz (ts.map .t)))(hl:k.jf=true):
 xU C fn 0 st=some (.ret (.ref k o len) [] [(k,.arr g cc fz (ts.map .t))]):=by
 unfold xU
 simp only[hr,tA,CN,TV.names,List.flatMap_nil,List.append_nil]
 rw[show iK=3998+2 from rfl,Xh hk]
 simp only[pn,hl,if_true,hk,Option.map_some]
theorem Ti {g:FuncId}{ts:List Tree}{v v':TV}{news news':Heap}(he:ev g (ts.map .t) []=some (.ret v [] news))(hv:v.rn (nN [] t)=some v')(hn:kC [] t news=some news'):uP ev H g (ts.map .t) t=some (.val v' news'):=by
 unfold uP;simp only[Pq,vI,uV];have h1:reach (H.fk (eU H [])) iK [] []=some []:=rfl;rw[h1];simp only[List.nodup_nil,if_true,s8,jM,he,hv,hn,kB];rfl
theorem Db {g:FuncId}{args:Array Operand}{ats:Array TypeId}{ts:List Tree}{v v':TV}{news news':Heap}(h:tI C n sp args.toList=some (ts.map .t))(he:ev g (ts.map .t) []=some (.ret v [] news))(hv:v.rn (nN [] t)=some v')(hn:kC [] t news=some news')(hk:C.lW f (d.getD 255)=false:=by rfl):
 fH C ev f H n sp t d (.call ⟨.value (.func g),args,ats⟩) v' news':=
 Te (zy h) (Ti he hv hn) hk
theorem zA {p:List Nat}{g:TypeId×Bool}{cc:Nat}{fz:Bool}{ts:List Tree}:kC [] t [(.loc p,.arr g cc fz (ts.map .t))]=some [(.loc (t::p),.arr g cc fz (ts.map .t))]:=by
 simp only[kC,nN,aP.rn,s8,Option.map_some]
theorem k7 {σ:Nm->Option Nm}{g:TypeId×Bool}{cc:Nat}{fz:Bool}{ts:List Tree}:aP.rn σ (.arr g cc fz (ts.map .t))=some (.arr g cc fz (ts.map .t)):=by
 simp only[aP.rn,s8,Option.map_some]
theorem Qb {H:Heap}{n:Nat}{k:Nm}{g:TypeId}{ag fz:Bool}{sz len:Nat}{es es':List Tree}(hk:H.get k=some (.arr (g,ag) sz fz ((flat es).map .t)))(hu:eV ag sz es)(hz:0<sz)(hl:len=es.length)(he:es=es'):
 sG H (n+1) (.ref k 0 len)=some (.sl es',[k]):=by
 subst he
 exact Vf hk hu hz hl
theorem Ls {x:Operand}{v:Tree}(h:fq C n sp x=some (.t v)):tI C n sp [x]=some ([v].map .t):=by
 simp only[tI,h];rfl
theorem rh2 {x y:Operand}{v u:Tree}(h:fq C n sp x=some (.t v))(h2:fq C n sp y=some (.t u)):tI C n sp [x,y]=some ([v,u].map .t):=by
 simp only[tI,h,h2];rfl
open Classical in
def ct1 (P:Tree->Prop)(res:Tree->br):List TV->List aP->Option br:=λas' os=>match as',os with
 | [.t x],[]=>if P x then some (res x) else none
 |_,_=>none
open Classical in
def ct2 (P:Tree->Tree->Prop)(res:Tree->Tree->br):List TV->List aP->Option br:=λas' os=>match as',os with
 | [.t x,.t y],[]=>if P x y then some (res x y) else none
 |_,_=>none
theorem ais {g:FuncId}{P:Tree->Prop}{res:Tree->br}(h:∀x,P x->ai C g [.t x] [] (res x)):ko C g (ct1 P res):=by
 intro args bq r hr;unfold ct1 at hr;split at hr
 ·split at hr
  ·rename_i x hp;simp at hr;subst hr;exact h x hp
  ·simp at hr
 ·simp at hr
theorem Zu {g:FuncId}{P:Tree->Tree->Prop}{res:Tree->Tree->br}(h:∀x y,P x y->ai C g [.t x,.t y] [] (res x y)):ko C g (ct2 P res):=by
 intro args bq r hr;unfold ct2 at hr;split at hr
 ·split at hr
  ·rename_i x y hp;simp at hr;subst hr;exact h x y hp
  ·simp at hr
 ·simp at hr
theorem ait {g:FuncId}{P:Tree->Prop}{res:Tree->br}{ev:bp}{x:Tree}(h:P x):qz g (ct1 P res) ev g [.t x] []=some (res x):=by
 simp only[qz,if_true,ct1,if_pos h]
theorem Zv {g:FuncId}{P:Tree->Tree->Prop}{res:Tree->Tree->br}{ev:bp}{x y:Tree}(h:P x y):qz g (ct2 P res) ev g [.t x,.t y] []=some (res x y):=by
 simp only[qz,if_true,ct2,if_pos h]
theorem rD {g k:FuncId}{s:List TV->List aP->Option br}{ev:bp}{as':List TV}{os:List aP}{r:Option br}(hne:(k==g)=false)(h:ev k as' os=r):qz g s ev k as' os=r:=by
 have:¬k=g:=by simpa using hne
 simp only[qz,if_neg this];exact h
end
end Go.Abs
end
