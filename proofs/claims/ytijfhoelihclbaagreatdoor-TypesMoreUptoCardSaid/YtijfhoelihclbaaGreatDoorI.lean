/- Sparse states: the slots of which something is known; one operation at a time. -/
import Derived.Test.YtijfhoelihclbaaGreatDoorF
noncomputable section
namespace Go.Abs
open Go
def look:List (Nat×TV)→Nat→TV
 | [],_=>.any
 |(j,v)::r,i=>bif Nat.beq i j then v else look r i
def bH (n:Nat)(sp:List (Nat×TV)):List TV:=(List.range n).map (look sp)
theorem fI (n:Nat)(sp:List (Nat×TV)):(bH n sp).length=n:=by simp[bH]
theorem lz {n:Nat}{sp:List (Nat×TV)}{i:Nat}(h:i<n):(bH n sp)[i]?=some (look sp i):=by
 simp[bH,h]
theorem SK {n:Nat}{sp:List (Nat×TV)}{i:Nat}(h:i<n):XB (bH n sp) i=look sp i:=by
 rw[GN,List.getD_eq_getElem?_getD,lz h]
 rfl
theorem lN (i j:Nat)(v:TV)(sp:List (Nat×TV)):look ((j,v)::sp) i=if i=j then v else look sp i:=by
 show(bif Nat.beq i j then v else look sp i)=_
 cases hb:Nat.beq i j with
 |true=>rw[if_pos (Nat.eq_of_beq_eq_true hb)];rfl
 |false=>rw[if_neg (Nat.ne_of_beq_eq_false hb)];rfl
theorem SL (n:Nat)(sp:List (Nat×TV))(d:Nat)(v:TV):XD v (bH n sp) d=bH n ((d,v)::sp):=by
  rw[wo]
  refine List.ext_getElem? fun i=> ?_
  rw[List.getElem?_set,fI]
  by_cases hi:i<n
  · have h1:(bH n ((d,v)::sp))[i]?=some (look ((d,v)::sp) i):=lz hi
    rw[h1,lN]
    by_cases e:d=i
    · subst e;simp[hi]
    · rw[if_neg e,if_neg (fun h=>e h.symm),lz hi]
  · have h1:(bH n ((d,v)::sp))[i]?=none:=by rw[List.getElem?_eq_none_iff,fI];omega
    rw[h1]
    by_cases e:d=i
    · subst e;simp[hi]
    · rw[if_neg e,List.getElem?_eq_none_iff,fI];omega
section
variable {C:dI}
def abn (sp:List (Nat×TV))(d:Option Tmp)(v:TV):List (Nat×TV):=match d with
 |some d=>(d,v)::sp
 |none=>sp
theorem fk (n:Nat)(sp:List (Nat×TV))(d:Option Tmp)(v:TV):fB (bH n sp) d v=bH n (abn sp d v):=by
 cases d with
 |none=>rfl
 |some d=>exact SL n sp d v
def bL (C:dI)(n:Nat)(sp:List (Nat×TV)):Operand→Option TV
 |.tmp t=>bif Nat.blt t n then some (look sp t) else none
 |.const v=>valOf v
 |.global g=>match C.jA g with
  |some cs=>some (.kD cs 0)
  |none=>none
 |.func f=>some (.t (.fn (.func f)))
theorem bT {n:Nat}{sp:List (Nat×TV)}{x:Operand}{v:TV}(h:bL C n sp x=some v):dB C (bH n sp) x=some v:=by
 cases x with
 | tmp t=>
  simp only[bL] at h
  cases hb:Nat.blt t n with
  |false=>rw[hb] at h;simp at h
  |true=>
   rw[hb] at h
   simp only[cond_true,Option.some.injEq] at h
   have:t<n:=by simpa [Nat.blt,Nat.succ_le_iff] using hb
   simp only[dB,SK this,h]
 |const v=>exact h
 |global g=>exact h
 |func f=>exact h
def kn (C:dI)(n:Nat)(sp:List (Nat×TV)):List Operand→Option (List TV)
 | []=>some []
 |x::r=>match bL C n sp x,kn C n sp r with
  |some v,some vs=>some (v::vs)
  |_,_=>none
theorem vv {n:Nat}{sp:List (Nat×TV)}:∀{xs:List Operand} {vs:List TV},kn C n sp xs=some vs→j4 C (bH n sp) xs=some vs:=by
 intro xs
 induction xs with
 |nil=>intro vs h;exact h
 |cons x r ih=>
  intro vs h
  simp only[kn] at h
  cases h1:bL C n sp x<;>cases h2:kn C n sp r<;>simp only[h1,h2,reduceCtorEq] at h
  simp only[j4,bT h1,ih h2]
  exact h
theorem FT (S:List Nm)(sp sp':List (Nat×TV))(h:∀i,look sp' i=.any∨(look sp i).rn (JI S)=some (look sp' i)):∀(l:List Nat),into (JI S) (l.map (look sp)) (l.map (look sp'))
 | []=>trivial
 |i::l=>⟨h i,FT S sp sp' h l⟩
def fits (S:List Nm)(sp:List (Nat×TV)):List (Nat×TV)→Prop
 | []=>True
 |(i,v)::r=>(look sp i).rn (JI S)=some v∧fits S sp r
theorem FU {S:List Nm}{sp:List (Nat×TV)}:∀{sp':List (Nat×TV)},fits S sp sp'→∀i,look sp' i=.any∨(look sp i).rn (JI S)=some (look sp' i)
 | [],_,i=>.inl rfl
 |(j,v)::r,h,i=>by
  rw[lN]
  by_cases e:i=j
  · subst e;rw[if_pos rfl];exact .inr h.1
  · rw[if_neg e];exact FU h.2 i
theorem Re.sp (S:List Nm){n:Nat}{sp sp':List (Nat×TV)}{H H':Heap}{t t':Nat}(h1:fits S sp sp')(h2:Dh (JI S) H H')(hn:S.Nodup)(hl:S.all Nm.gZ=true)(hS:∀k∈S,(H.get k).isSome=true)(ht:S.length≤t'):
  Re C ⟨bH n sp,H,t⟩ ⟨bH n sp',H',t'⟩:=
 Re.mk S (FT S sp sp' (FU h1) _) h2 hn hl hS ht
theorem Re.sq (S:List Nm){n:Nat}{sp sp':List (Nat×TV)}{H H':Heap}{t t':Nat}(h1:fits S sp sp')(h2:Dh (JI S) H H')(hn:S.Nodup)(hl:S.all Nm.gZ=true)(hS:S.all (fun k=>(H.get k).isSome)=true)(ht:S.length≤t'):
  Re C ⟨bH n sp,H,t⟩ ⟨bH n sp',H',t'⟩:=Re.sp S h1 h2 hn hl (fun k hk=>List.all_eq_true.1 hS k hk) ht
def same (sp:List (Nat×TV)):List (Nat×TV)→Prop
 | []=>True
 |(i,v)::r=>look sp i=v∧same sp r
theorem FV {sp:List (Nat×TV)}:∀{sp':List (Nat×TV)},same sp sp'→∀i,look sp' i=.any∨look sp i=look sp' i
 | [],_,i=>.inl rfl
 |(j,v)::r,h,i=>by
  rw[lN]
  by_cases e:i=j
  · subst e;rw[if_pos rfl];exact .inr h.1
  · rw[if_neg e];exact FV h.2 i
theorem cZ.less {G:Gh}{xs ys:List TV}{vs:List Value}(h:cZ G xs vs)(hl:ys.length=xs.length)(hh:∀(i:Nat) (x y:TV),xs[i]?=some x→ys[i]?=some y→y=.any∨x=y):cZ G ys vs:=by
 refine⟨by rw[hl];exact h.1,fun j c v hc hv=> ?_⟩
 have hj:j<xs.length:=by rw[← hl];exact(List.getElem?_eq_some_iff.1 hc).1
 rcases hh j xs[j] c (List.getElem?_eq_getElem hj) hc with rfl|e
 · exact .any _
 · rw[← e];exact h.2 j _ v (List.getElem?_eq_getElem hj) hv
theorem Re.slots {n:Nat}{sp sp':List (Nat×TV)}{H:Heap}{t:Nat}(h:same sp sp'):Re C ⟨bH n sp,H,t⟩ ⟨bH n sp',H,t⟩:=by
 intro G0 w0 G w a h0 hs hst
 refine⟨G,hs,hst.wf,hst.jA,cZ.less hst.slots (by simp[fI]) fun i x y hx hy=> ?_,hst.heap,hst.fresh⟩
 have hi:i<n:=by have:=(List.getElem?_eq_some_iff.1 hx).1;simpa [fI] using this
 simp only[lz hi,Option.some.injEq] at hx hy
 subst hx;subst hy
 exact FV h i
theorem Re.heap {sl:List TV}{H H':Heap}{t:Nat}(h:∀k o,H'.get k=some o→H.get k=some o):Re C ⟨sl,H,t⟩ ⟨sl,H',t⟩:=
 fun G0 w0 G w a h0 hs hst=>⟨G,hs,hst.wf,hst.jA,hst.slots,fun k o hk=>hst.heap k o (h k o hk),hst.fresh⟩
def xI:Nat→List TV→List (Nat×TV)
 |_,[]=>[]
 |i,v::r=>(i,v)::xI (i+1) r
theorem Dr:∀(l:List TV) (i j:Nat),i≤j→look (xI i l) j=.any∨l[j - i]?=some (look (xI i l) j)
  | [],_,_,_=>.inl rfl
  | v ::r,i,j,h=>by
    simp only[xI]
    rw[lN]
    by_cases e:j=i
    · subst e;simp
    · rw[if_neg e]
      have:=Dr r (i+1) j (by omega)
      have e2:j - i=(j - (i+1))+1:=by omega
      rw[e2,List.getElem?_cons_succ]
      exact this
theorem Re.start (args:List TV)(k:Nat)(H:Heap)(t:Nat):Re C ⟨args++List.replicate k cz,H,t⟩ ⟨bH (args.length+k) (xI 0 args),H,t⟩:=by
  intro G0 w0 G w a h0 hs hst
  refine⟨G,hs,hst.wf,hst.jA,cZ.less hst.slots (by simp[fI]) fun i x y hx hy=> ?_,hst.heap,hst.fresh⟩
  have hi:i<args.length+k:=by have:=(List.getElem?_eq_some_iff.1 hx).1;simpa using this
  rw[lz hi,Option.some.injEq] at hy
  subst hy
  rcases Dr args 0 i (Nat.zero_le _) with h|h
  · exact .inl h
  · right
    rw[Nat.sub_zero] at h
    have hl:=(List.getElem?_eq_some_iff.1 h).1
    rw[List.getElem?_append_left hl,h] at hx
    exact(Option.some.inj hx).symm
end
end Go.Abs
end

noncomputable section
namespace Go.Abs
open Go
section
variable {C:dI}{ev:aW}{f:FuncId}{ops:Array Oper}{Q:aP→St→Prop}{n:Nat}{sp:List (Nat×TV)}{H:Heap}{t:Nat}{r:List Oper}
def cF (C:dI)(ev:aW)(f:FuncId)(H:Heap)(n:Nat)(sp:List (Nat×TV))(t:Nat)(d:Option Tmp)(op:Op)(v:TV)(u:Heap):Prop:=
 ∀ty pos af g,bk C ev f H (bH n sp) t ⟨d,op,ty,pos,af,g⟩=some (.val v u)
theorem fC.go {d:Tmp}{op:Op}{ty pos af}{v:TV}{u:Heap}(ai:aF C ev)(h:cF C ev f H n sp t (some d) op v u)(k:fC C ops r ⟨bH n ((d,v)::sp),H.ei u,t+1⟩ Q):
  fC C ops (⟨some d,op,ty,pos,af,none⟩::r) ⟨bH n sp,H,t⟩ Q:=by
 refine fC.step ai rfl (h _ _ _ _) ?_
 rw[fk]
 exact k
theorem fC.lQ {op:Op}{ty pos af}{v:TV}{u:Heap}(ai:aF C ev)(h:cF C ev f H n sp t none op v u)(k:fC C ops r ⟨bH n sp,H.ei u,t+1⟩ Q):
  fC C ops (⟨none,op,ty,pos,af,none⟩::r) ⟨bH n sp,H,t⟩ Q:=by
 refine fC.step ai rfl (h _ _ _ _) ?_
 rw[fk]
 exact k
def gv (g:Bool)(v:TV):TV:=bif g then v else cz
theorem cK {g:Bool}{x:Operand}{v:TV}(hg:g=true)(h:bL C n sp x=some (gv g v)):bL C n sp x=some v:=by
 subst hg;exact h
theorem kH {j gd:Nat}{w:Bool}{o:Oper}(ho:o.guard=some (j,w))(hj:(ops[j]?).bind (·.dst)=some gd)(hn:Nat.blt gd n=true):
  dR ops (bH n sp) o=match look sp gd with|.t (.bool b)=>some (b==w)|.t (.bX [])=>some false|_=>none:=by
 have:gd<n:=by simpa [Nat.blt,Nat.succ_le_iff] using hn
 unfold dR
 simp only[ho,hj,lz this]
 generalize look sp gd=x
 cases x with
 |t y=>cases y with
  |bX vs=>cases vs<;>rfl
  |_=>rfl
 |_=>rfl
theorem fC.guarded {d:Tmp}{op:Op}{ty pos af}{j gd:Nat}{w:Bool}{b g:Bool}{v:TV}(ai:aF C ev)(hj:(ops[j]?).bind (·.dst)=some gd)(hn:Nat.blt gd n=true)
    (hl:(look sp gd=.t (.bool b)∧g=(b==w))∨∃g1,look sp gd=gv g1 (.t (.bool b))∧g=(g1&&(b==w)))
    (h:g=true→cF C ev f H n sp t (some d) op v [])(k:fC C ops r ⟨bH n ((d,gv g v)::sp),H,t+1⟩ Q):fC C ops (⟨some d,op,ty,pos,af,some (j,w)⟩::r) ⟨bH n sp,H,t⟩ Q:=by
  have hw:dR ops (bH n sp) ⟨some d,op,ty,pos,af,some (j,w)⟩=some g:=by
    rcases hl with ⟨hl,rfl⟩|⟨g1,hl,rfl⟩
    · rw[kH rfl hj hn,hl]
    · rw[kH rfl hj hn,hl]
      cases g1<;>rfl
  cases g with
  | true=>
    refine fC.step ai hw (h rfl _ _ _ _) ?_
    rw[fk]
    exact k
  | false=>
    refine fC.unwanted hw ?_
    rw[fk]
    exact k
theorem fC.gT {d:Tmp}{op:Op}{ty pos af}{j gd:Nat}{b:Bool}{v:TV}(ai:aF C ev)(hj:(ops[j]?).bind (·.dst)=some gd)(hn:Nat.blt gd n=true)(hl:look sp gd=.t (.bool b))
  (h:b=true→cF C ev f H n sp t (some d) op v [])(k:fC C ops r ⟨bH n ((d,gv b v)::sp),H,t+1⟩ Q):fC C ops (⟨some d,op,ty,pos,af,some (j,true)⟩::r) ⟨bH n sp,H,t⟩ Q:=
 fC.guarded ai hj hn (.inl ⟨hl,by cases b<;>rfl⟩) h k
theorem fC.gF {d:Tmp}{op:Op}{ty pos af}{j gd:Nat}{b:Bool}{v:TV}(ai:aF C ev)(hj:(ops[j]?).bind (·.dst)=some gd)(hn:Nat.blt gd n=true)(hl:look sp gd=.t (.bool b))
  (h:(!b)=true→cF C ev f H n sp t (some d) op v [])(k:fC C ops r ⟨bH n ((d,gv (!b) v)::sp),H,t+1⟩ Q):fC C ops (⟨some d,op,ty,pos,af,some (j,false)⟩::r) ⟨bH n sp,H,t⟩ Q:=
 fC.guarded ai hj hn (.inl ⟨hl,by cases b<;>rfl⟩) h k
theorem fC.nF {d:Tmp}{op:Op}{ty pos af}{j gd:Nat}{b g:Bool}{v:TV}(ai:aF C ev)(hj:(ops[j]?).bind (·.dst)=some gd)(hn:Nat.blt gd n=true)(hl:look sp gd=gv g (.t (.bool b)))
  (h:(g&& !b)=true→cF C ev f H n sp t (some d) op v [])(k:fC C ops r ⟨bH n ((d,gv (g&& !b) v)::sp),H,t+1⟩ Q):fC C ops (⟨some d,op,ty,pos,af,some (j,false)⟩::r) ⟨bH n sp,H,t⟩ Q:=
 fC.guarded ai hj hn (.inr ⟨g,hl,by cases b<;>rfl⟩) h k
variable {d:Option Tmp}
theorem av {x:Operand}{v:TV}(h:bL C n sp x=some v):cF C ev f H n sp t d (.move x) v []:=fun _ _ _ _=>by
 simp only[bk,evalOp,bT h,xq,Option.map_some]
theorem au {x:Operand}{v:TV}(h:bL C n sp x=some v):cF C ev f H n sp t d (.assign x) v []:=fun _ _ _ _=>by
 simp only[bk,evalOp,bT h,xq,Option.map_some]
theorem lp {x:Operand}{v:Tree}(h:bL C n sp x=some (.t v)):cF C ev f H n sp t d (.move x) (.t v) []:=av h
theorem gj {x:Operand}{v:Tree}(h:bL C n sp x=some (.t v)):cF C ev f H n sp t d (.assign x) (.t v) []:=au h
theorem iK {c x y:Operand}{b:Bool}{u v:TV}(hc:bL C n sp c=some (.t (.bool b)))(hx:bL C n sp x=some u)(hy:bL C n sp y=some v):cF C ev f H n sp t d (.pick c x y) (if b then u else v) []:=fun _ _ _ _=>by
 simp only[bk,evalOp,bT hc,bT hx,bT hy]
theorem nr {c x:Operand}{b y g:Bool}(hc:bL C n sp c=some (.t (.bool b)))(hx:bL C n sp x=some (gv g (.t (.bool y))))(hg:b=true→g=true):cF C ev f H n sp t d (.pick c x (.const (.bool false))) (.t (.bool (b&&y))) []:=fun _ _ _ _=>by
 simp only[bk,evalOp,bT hc,bT hx]
 cases b with
 |true=>have:=hg rfl;subst this;rfl
 |false=>rfl
theorem aeQ {c x:Operand}{b y g:Bool}(hc:bL C n sp c=some (.t (.bool b)))(hx:bL C n sp x=some (gv g (.t (.bool y))))(hg:b=false→g=true):cF C ev f H n sp t d (.pick c (.const (.bool true)) x) (.t (.bool (b||y))) []:=fun _ _ _ _=>by
 simp only[bk,evalOp,bT hc,bT hx]
 cases b with
 |false=>have:=hg rfl;subst this;rfl
 |true=>rfl
theorem w6 {ty:TypeId}{x:Operand}{b:Bool}(h:bL C n sp x=some (.t (.bool b))):cF C ev f H n sp t d (.unOp .not ty x) (.t (.bool (!b))) []:=fun _ _ _ _=>by
 simp only[bk,evalOp,bT h]
 cases b<;>rfl
theorem FW {elem:TypeId}{x:Operand}{v:TV}(h:bL C n sp x=some v)(hl:v.cells.all TV.leaf=true):cF C ev f H n sp t d (.box elem x) (.ptr (.loc [t]) 0) [(.loc [t],.cells elem v.cells)]:=fun _ _ _ _=>by
 simp only[bk,evalOp,bT h,hl,if_true]
theorem gQ {elem:TypeId}{ti:TI}{z:TV}(ht:C.P.ty elem=some ti)(hz:ti.zero=some z)(hl:z.cells.all TV.leaf=true):cF C ev f H n sp t d (.alloc elem) (.ptr (.loc [t]) 0) [(.loc [t],.cells elem z.cells)]:=fun _ _ _ _=>by
 simp only[bk,evalOp,bn,ht,hz,hl,if_true]
theorem aS {ty:TypeId}{x:Operand}{a v:TV}(h:bL C n sp x=some a)(hl:loadT C.P H ty a=some v):cF C ev f H n sp t d (.load ty x) v []:=fun _ _ _ _=>by
 simp only[bk,evalOp,bT h,hl,xq,Option.map_some]
theorem cN {ty:TypeId}{x:Operand}{a:TV}{v:Tree}(h:bL C n sp x=some a)(hl:loadT C.P H ty a=some (.t v)):cF C ev f H n sp t d (.load ty x) (.t v) []:=aS h hl
theorem ld {P:lI}{ty:TypeId}{ti:TI}{a v:TV}{cs:List TV}{off:Nat}(ht:P.ty ty=some ti)(hc:s6 H a=some (cs,off))(hp:partT ti.agg ti.size cs off=some v):loadT P H ty a=some v:=by
 simp only[loadT,bn,ht,hc,hp]
theorem mX {P:lI}{ty:TypeId}{ti:TI}{x:TV}{k:Nm}{off:Nat}{g:TypeId}{cs:List TV}(ht:P.ty ty=some ti)(hc:H.get k=some (.cells g cs))(hl:(decide (x.cells.length=ti.size)&&x.cells.all TV.leaf&&decide (off+ti.size≤cs.length))=true):
  storeT P H ty (.ptr k off) x=some [(k,.cells g (ez cs off x.cells))]:=by
 simp only[Bool.and_eq_true,decide_eq_true_eq] at hl
 obtain⟨⟨h1,h2⟩,h3⟩:=hl
 simp only[storeT,bn,ht,h1,h2,hc,h3,and_self,if_true]
theorem br {ty:TypeId}{x y:Operand}{a v:TV}{u:Heap}(h:bL C n sp x=some a)(h2:bL C n sp y=some v)(hl:storeT C.P H ty a v=some u):cF C ev f H n sp t d (.store ty x y) cz u:=fun _ _ _ _=>by
 simp only[bk,evalOp,bT h,bT h2,hl,yp,Option.map_some]
def eX (P:lI)(s i:Nat):Option Nat:=match bn P s with
 | some ti=>match ti.desc with
  | .struct fs=>match fs[i]? with
   |some fd=>match bn P fd.type with
    |some tf=>if tf.size=0 then none else some fd.offset
    |none=>none
   |none=>none
  |_=>none
 |none=>none
theorem aB {s i off:Nat}{x:Operand}{a v:TV}(h:bL C n sp x=some a)(ho:eX C.P s i=some off)(hp:p8 H a off=some v):cF C ev f H n sp t d (.fieldAddr s x i) v []:=fun _ _ _ _=>by
 unfold eX at ho
 split at ho<;>try (simp at ho;done)
 rename_i ti GV
 split at ho<;>try (simp at ho;done)
 rename_i fs hfs
 split at ho<;>try (simp at ho;done)
 rename_i fd XT
 split at ho<;>try (simp at ho;done)
 rename_i tf R8
 split at ho<;>try (simp at ho;done)
 rename_i hz
 simp at ho
 subst ho
 simp only[bk,evalOp,bT h,GV,hfs,XT,R8,if_neg hz,hp,xq,Option.map_some]
theorem BK {ty:TypeId}{x i:Operand}{a j v:TV}(h:bL C n sp x=some a)(hi:bL C n sp i=some j)(hv:fE C.P H ty a j=some v):cF C ev f H n sp t d (.indexAddr ty x i) v []:=fun _ _ _ _=>by
 simp only[bk,evalOp,bT h,bT hi,hv,xq,Option.map_some]
theorem XU {ty:TypeId}{x i:Operand}{a j v:TV}(h:bL C n sp x=some a)(hi:bL C n sp i=some j)(hv:p9 C.P ty a j=some v):cF C ev f H n sp t d (.index ty x i) v []:=fun _ _ _ _=>by
 simp only[bk,evalOp,bT h,bT hi,hv,xq,Option.map_some]
theorem cW {x:Operand}{i:Nat}{a v:TV}(h:bL C n sp x=some a)(hv:yo a i=some v):cF C ev f H n sp t d (.extract x i) v []:=fun _ _ _ _=>by
 simp only[bk,evalOp,bT h,hv,xq,Option.map_some]
theorem fZ {op:BinOp}{ty r2:TypeId}{x y:Operand}{a b v:TV}(h:bL C n sp x=some a)(h2:bL C n sp y=some b)(hv:GL C.P op ty x y a b=some v):cF C ev f H n sp t d (.binOp op ty x y r2) v []:=fun _ _ _ _=>by
 simp only[bk,evalOp,bT h,bT h2,hv,xq,Option.map_some]
theorem wrap64 {x:Int}(h1:-9223372036854775808≤x)(h2:x≤9223372036854775807):IntKind.i64.wrap x=x:=by
 simp only[IntKind.wrap,IntKind.bits,IntKind.signed]
 first|omega|(simp;omega)
theorem rC {op:BinOp}{ty r2:TypeId}{x y:Operand}{k:IntKind}{a b:Int}{v:TV}(h:bL C n sp x=some (.t (.int k a)))(h2:bL C n sp y=some (.t (.int k b)))(hv:PV op k a b=some v):cF C ev f H n sp t d (.binOp op ty x y r2) v []:=
 fZ h h2 (by simp only[GL,if_true,hv])
theorem gR {ty r2:TypeId}{x y:Operand}{k:IntKind}{a b:Int}(h:bL C n sp x=some (.t (.int k a)))(h2:bL C n sp y=some (.t (.int k b))):cF C ev f H n sp t d (.binOp .eql ty x y r2) (.t (.bool (a==b))) []:=rC h h2 rfl
theorem SN {ty r2:TypeId}{x y:Operand}{k:IntKind}{a b:Int}(h:bL C n sp x=some (.t (.int k a)))(h2:bL C n sp y=some (.t (.int k b))):cF C ev f H n sp t d (.binOp .neq ty x y r2) (.t (.bool (a != b))) []:=rC h h2 rfl
theorem ia {ty r2:TypeId}{x y:Operand}{k:IntKind}{a b:Int}(h:bL C n sp x=some (.t (.int k a)))(h2:bL C n sp y=some (.t (.int k b))):cF C ev f H n sp t d (.binOp .lss ty x y r2) (.t (.bool (decide (a<b)))) []:=rC h h2 rfl
theorem JO {ty r2:TypeId}{x y:Operand}{k:IntKind}{a b:Int}(h:bL C n sp x=some (.t (.int k a)))(h2:bL C n sp y=some (.t (.int k b))):cF C ev f H n sp t d (.binOp .leq ty x y r2) (.t (.bool (decide (a≤b)))) []:=rC h h2 rfl
theorem FX {ty r2:TypeId}{x y:Operand}{k:IntKind}{a b:Int}(h:bL C n sp x=some (.t (.int k a)))(h2:bL C n sp y=some (.t (.int k b))):cF C ev f H n sp t d (.binOp .gtr ty x y r2) (.t (.bool (decide (a>b)))) []:=rC h h2 rfl
theorem FY {ty r2:TypeId}{x y:Operand}{k:IntKind}{a b:Int}(h:bL C n sp x=some (.t (.int k a)))(h2:bL C n sp y=some (.t (.int k b))):cF C ev f H n sp t d (.binOp .geq ty x y r2) (.t (.bool (decide (a≥b)))) []:=rC h h2 rfl
theorem kI {ty r2:TypeId}{x y:Operand}{a b:Int}(h:bL C n sp x=some (.t (.int .i64 a)))(h2:bL C n sp y=some (.t (.int .i64 b)))(h3:-9223372036854775808≤a+b)(h4:a+b≤9223372036854775807):cF C ev f H n sp t d (.binOp .add ty x y r2) (.t (.int .i64 (a+b))) []:=
 rC h h2 (by simp only[PV,wrap64 h3 h4])
theorem XV {ty r2:TypeId}{x y:Operand}{a b:Int}(h:bL C n sp x=some (.t (.int .i64 a)))(h2:bL C n sp y=some (.t (.int .i64 b)))(h3:-9223372036854775808≤a - b)(h4:a - b≤9223372036854775807):cF C ev f H n sp t d (.binOp .sub ty x y r2) (.t (.int .i64 (a - b))) []:=
 rC h h2 (by simp only[PV,wrap64 h3 h4])
theorem SP {ty r2:TypeId}{x y:Operand}{a b:List UInt8}(h:bL C n sp x=some (.t (.str a)))(h2:bL C n sp y=some (.t (.str b))):cF C ev f H n sp t d (.binOp .eql ty x y r2) (.t (.bool (a==b))) []:=fZ h h2 rfl
theorem ZW {ty r2:TypeId}{x y:Operand}{a b:List UInt8}(h:bL C n sp x=some (.t (.str a)))(h2:bL C n sp y=some (.t (.str b))):cF C ev f H n sp t d (.binOp .neq ty x y r2) (.t (.bool (!(a==b)))) []:=fZ h h2 rfl
theorem aeR {ty r2:TypeId}{x y:Operand}{a b:List UInt8}(h:bL C n sp x=some (.t (.str a)))(h2:bL C n sp y=some (.t (.str b))):cF C ev f H n sp t d (.binOp .geq ty x y r2) (.t (.bool (!(jw a b)))) []:=fZ h h2 rfl
theorem rW {ty:TypeId}{x:Operand}{s:List UInt8}{ti:TI}(h:bL C n sp x=some (.t (.str s)))(ht:C.P.ty ty=some ti)(hd:ti.desc=.string):cF C ev f H n sp t d (.call ⟨.builtin .len, #[x], #[ty]⟩) (.t (.int .i64 s.length)) []:=fun _ _ _ _=>by
 have h1:j4 C (bH n sp) (#[x].toList)=some [.t (.str s)]:=by simp only[j4,bT h]
 simp only[bk,evalOp,h1]
 delta od
 simp only[bn,ht,hd]
theorem Hj {ty e:TypeId}{x:Operand}{v:TV}{m:Nat}{ti:TI}(h:bL C n sp x=some v)(ht:C.P.ty ty=some ti)(hd:ti.desc=.slice e)(hl:yl H v=some m)(h1:∀s,v≠ .t (.str s))(h2:v≠ .t .iJ)(h3:∀k,v≠ .map k):
  cF C ev f H n sp t d (.call ⟨.builtin .len, #[x], #[ty]⟩) (.t (.int .i64 m)) []:=fun _ _ _ _=>by
 have h4:j4 C (bH n sp) (#[x].toList)=some [v]:=by simp only[j4,bT h]
 simp only[bk,evalOp,h4]
 delta od
 simp only[bn,ht,hd]
 cases v with
 |t x=>cases x with
  |str s=>exact absurd rfl (h1 s)
  |iJ=>exact absurd rfl h2
  |_=>simp only[hl];rfl
 |map k=>exact absurd rfl (h3 k)
 |_=>simp only[hl];rfl
theorem gX {ty e:TypeId}{x:Operand}{es:List Tree}{ti:TI}(h:bL C n sp x=some (.t (.sl es)))(ht:C.P.ty ty=some ti)(hd:ti.desc=.slice e):cF C ev f H n sp t d (.call ⟨.builtin .len, #[x], #[ty]⟩) (.t (.int .i64 es.length)) []:=
 Hj h ht hd rfl (fun _=>by simp) (by simp) (fun _=>by simp)
theorem xJ {ty e:TypeId}{x:Operand}{k:Nm}{o l:Nat}{ti:TI}(h:bL C n sp x=some (.ref k o l))(ht:C.P.ty ty=some ti)(hd:ti.desc=.slice e):cF C ev f H n sp t d (.call ⟨.builtin .len, #[x], #[ty]⟩) (.t (.int .i64 l)) []:=
 Hj h ht hd rfl (fun _=>by simp) (by simp) (fun _=>by simp)
theorem Ds {ty e:TypeId}{x:Operand}{ti:TI}(h:bL C n sp x=some .aL)(ht:C.P.ty ty=some ti)(hd:ti.desc=.slice e):cF C ev f H n sp t d (.call ⟨.builtin .len, #[x], #[ty]⟩) (.t (.int .i64 (0:Nat))) []:=
 Hj h ht hd rfl (fun _=>by simp) (by simp) (fun _=>by simp)
theorem Dt {ty e:TypeId}{x:Operand}{es:List Tree}{ti:TI}(h:bL C n sp x=some (.l7 es))(ht:C.P.ty ty=some ti)(hd:ti.desc=.slice e):cF C ev f H n sp t d (.call ⟨.builtin .len, #[x], #[ty]⟩) (.t (.int .i64 es.length)) []:=
 Hj h ht hd rfl (fun _=>by simp) (by simp) (fun _=>by simp)
theorem pY {b:Builtin}{args:Array Operand}{ats:Array TypeId}{vs:List TV}{v:TV}{u:Heap}(h:kn C n sp args.toList=some vs)(hv:od C (.loc [t]) H b ats.toList vs=some (v,u)):cF C ev f H n sp t d (.call ⟨.builtin b,args,ats⟩) v u:=fun _ _ _ _=>by
 simp only[bk,evalOp,vv h,hv]
theorem F0 {k:IntKind}{x y:Operand}{a b:Int}{ats:Array TypeId}(h:bL C n sp x=some (.t (.int k a)))(h2:bL C n sp y=some (.t (.int k b))):cF C ev f H n sp t d (.call ⟨.builtin .max, #[x,y],ats⟩) (.t (.int k (max a b))) []:=by
 refine pY (vs:=[.t (.int k a),.t (.int k b)]) (by simp only[kn,h,h2]) ?_
 show xq (jB true [.t (.int k a),.t (.int k b)])=_
 simp only[jB,jB.j5,if_true,xq,List.foldl_cons,List.foldl_nil,Option.map_some]
 rw[show(if b>a then b else a)=max a b from by rw[Int.max_def];split<;>split<;>omega]
theorem gL {ty elem:TypeId}{ti te:TI}{x i:Operand}{es:List Tree}{k:IntKind}{m:Nat}{e:Tree}(h:bL C n sp x=some (.t (.sl es)))(hi:bL C n sp i=some (.t (.int k (m:Int))))(ht:C.P.ty ty=some ti)(hd:ti.desc=.slice elem)
  (hte:C.P.ty elem=some te)(he:es[m]?=some e)(hc:e.cells.length=te.size):cF C ev f H n sp t d (.indexAddr ty x i) (.kD e.cells 0) []:=
 BK h hi (by
  have h1:fU (.t (.int k (m:Int)))=some m:=by simp[fU]
  simp only[fE,bn,ht,h1,hd,hte,he,hc,if_true])
theorem iL {ty:TypeId}{ti:TI}{x i:Operand}{s:List UInt8}{k:IntKind}{m:Nat}{b:UInt8}(h:bL C n sp x=some (.t (.str s)))(hi:bL C n sp i=some (.t (.int k (m:Int))))(ht:C.P.ty ty=some ti)(hd:ti.desc=.string)
  (he:s[m]?=some b):cF C ev f H n sp t d (.index ty x i) (.t (.int .u8 b.toNat)) []:=
 XU h hi (by
  have h1:fU (.t (.int k (m:Int)))=some m:=by simp[fU]
  simp only[p9,bn,ht,h1,hd,he])
theorem Hl {fo:Operand}{args:Array Operand}{ats:Array TypeId}{g:FuncId}{amC:List TV}{v:TV}{u:Heap}(hc:jT C (bH n sp) ⟨.value fo,args,ats⟩=some (g,amC))(he:qc ev H g amC t=some (.val v u)):cF C ev f H n sp t d (.call ⟨.value fo,args,ats⟩) v u:=fun _ _ _ _=>by
 simp only[bk,hc,he]
theorem eU {g:FuncId}{args:Array Operand}{ats:Array TypeId}{amC:List TV}(h:kn C n sp args.toList=some amC):jT C (bH n sp) ⟨.value (.func g),args,ats⟩=some (g,amC):=by
 simp only[jT,dB,vv h]
theorem rX (H:Heap):∀(ts:List Tree),jC H (ts.map .t)=(ts.map .t,[])
 | []=>rfl
 |x::r=>by
  simp only[List.map_cons,jC,rX H r]
  rfl
theorem rD:∀(ts:List Tree),TV.kS (ts.map .t)=[]
 | []=>rfl
 |x::r=>by simp only[List.map_cons,TV.kS,TV.names,rD r,List.append_nil]
theorem lR (σ:Nm→Option Nm):∀(ts:List Tree),TV.xu σ (ts.map .t)=some (ts.map .t)
 | []=>rfl
 |x::r=>by simp only[List.map_cons,TV.xu,TV.rn,lR σ r]
theorem BL {g:FuncId}{ts:List Tree}{x:Tree}(he:ev g (ts.map .t) []=some (.ret (.t x) [] [])):qc ev H g (ts.map .t) t=some (.val (.t x) []):=by
 unfold qc
 simp only[rX,rD]
 have h1:reach (H.ei (dF H [])) fL [] []=some []:=rfl
 rw[h1]
 simp only[List.nodup_nil,if_true,lR,jN,he]
 rfl
theorem bU {g:FuncId}{args:Array Operand}{ats:Array TypeId}{ts:List Tree}{x:Tree}(h:kn C n sp args.toList=some (ts.map .t))(he:ev g (ts.map .t) []=some (.ret (.t x) [] [])):cF C ev f H n sp t d (.call ⟨.value (.func g),args,ats⟩) (.t x) []:=
 Hl (eU h) (BL he)
end
end Go.Abs
end

noncomputable section
namespace Go.Abs
open Go
section
variable {C:dI}{ev:aW}{f:FuncId}
theorem lS {s s':List TV}:∀{l:List Operand},(∀x∈l,dB C s' x=dB C s x)→j4 C s' l=j4 C s l
 | [],_=>rfl
 |x::r,h=>by
  simp only[j4,h x List.mem_cons_self,lS (l:=r) fun y hy=>h y (List.mem_cons_of_mem _ hy)]
theorem tH {s s':List TV}:∀{l:List (Nat×Operand)},(∀x∈l.map (·.2),dB C s' x=dB C s x)→lq C s' l=lq C s l
 | [],_=>rfl
 |(i,x)::r,h=>by
  simp only[lq,h x (by simp),tH (l:=r) fun y hy=>h y (by simp only[List.map_cons,List.mem_cons];exact .inr hy)]
theorem tI {s s':List TV}{o:Option Operand}(h:∀x∈o.toArray.toList,dB C s' x=dB C s x):s7 C s' o=s7 C s o:=by
 cases o with
 |none=>rfl
 |some x=>simp only[s7,h x (by simp)]
set_option maxHeartbeats 1000000 in
theorem Ho {nm:Nm}{H:Heap}{s s':List TV}{o:Oper}(h:∀x∈o.op.operands.toList,dB C s' x=dB C s x):evalOp C f nm H s' o=evalOp C f nm H s o:=by
 obtain⟨d,op,ty,pos,af,g⟩:=o
 cases op with
 |move x=>simp only[evalOp,h x (by simp[Op.operands])]
 |assign x=>simp only[evalOp,h x (by simp[Op.operands])]
 |pick c a b=>simp only[evalOp,h c (by simp[Op.operands]),h a (by simp[Op.operands]),h b (by simp[Op.operands])]
 |alloc t=>rfl
 |box t x=>simp only[evalOp,h x (by simp[Op.operands])]
 |build t ps=>
  have:=tH (C:=C) (s:=s) (s':=s') (l:=ps.toList) (fun x hx=>h x (by simpa [Op.operands] using hx))
  simp only[evalOp,this]
 |buildSlice t n ps=>
  have:=tH (C:=C) (s:=s) (s':=s') (l:=ps.toList) (fun x hx=>h x (by simpa [Op.operands] using hx))
  simp only[evalOp,this]
 |insert t m k v=>simp only[evalOp,h m (by simp[Op.operands]),h k (by simp[Op.operands]),h v (by simp[Op.operands])]
 |load t x=>simp only[evalOp,h x (by simp[Op.operands])]
 |store t a v=>simp only[evalOp,h a (by simp[Op.operands]),h v (by simp[Op.operands])]
 |nilCheck x=>simp only[evalOp,h x (by simp[Op.operands])]
 |binOp o t a v r=>simp only[evalOp,h a (by simp[Op.operands]),h v (by simp[Op.operands])]
 |unOp o t x=>simp only[evalOp,h x (by simp[Op.operands])]
 |convert a b x=>simp only[evalOp,h x (by simp[Op.operands])]
 |makeInterface t x=>simp only[evalOp,h x (by simp[Op.operands])]
 |makeFunc fn a b=>
  have h1:=lS (C:=C) (s:=s) (s':=s') (l:=a.toList) (fun x hx=>h x (by simp only[Op.operands,Array.toList_append,List.mem_append];exact .inl hx))
  have h2:=lS (C:=C) (s:=s) (s':=s') (l:=b.toList) (fun x hx=>h x (by simp only[Op.operands,Array.toList_append,List.mem_append];exact .inr hx))
  simp only[evalOp,h1,h2]
 |makeMap t r=>
  have:=tI (C:=C) (s:=s) (s':=s') (o:=r) (fun x hx=>h x (by simpa [Op.operands] using hx))
  simp only[evalOp,this]
 |makeSlice t a v=>simp only[evalOp,h a (by simp[Op.operands]),h v (by simp[Op.operands])]
 |slice t x l m k=>
  have h1:=tI (C:=C) (s:=s) (s':=s') (o:=l) (fun y hy=>h y (by simp only[Op.operands,Array.toList_append,List.mem_append];exact .inl (.inl (.inr hy))))
  have h2:=tI (C:=C) (s:=s) (s':=s') (o:=m) (fun y hy=>h y (by simp only[Op.operands,Array.toList_append,List.mem_append];exact .inl (.inr hy)))
  have h3:=tI (C:=C) (s:=s) (s':=s') (o:=k) (fun y hy=>h y (by simp only[Op.operands,Array.toList_append,List.mem_append];exact .inr hy))
  simp only[evalOp,h x (by simp[Op.operands]),h1,h2,h3]
 |fieldAddr t x i=>simp only[evalOp,h x (by simp[Op.operands])]
 |field t x i=>simp only[evalOp,h x (by simp[Op.operands])]
 |indexAddr t a v=>simp only[evalOp,h a (by simp[Op.operands]),h v (by simp[Op.operands])]
 |index t a v=>simp only[evalOp,h a (by simp[Op.operands]),h v (by simp[Op.operands])]
 |lookup t a v ok=>simp only[evalOp,h a (by simp[Op.operands]),h v (by simp[Op.operands])]
 |mapUpdate t m k v=>simp only[evalOp,h m (by simp[Op.operands]),h k (by simp[Op.operands]),h v (by simp[Op.operands])]
 |mapEntry t m k=>simp only[evalOp,h m (by simp[Op.operands]),h k (by simp[Op.operands])]
 |entryStore t m k v=>simp only[evalOp,h m (by simp[Op.operands]),h k (by simp[Op.operands]),h v (by simp[Op.operands])]
 |typeAssert x a b ok=>simp only[evalOp,h x (by simp[Op.operands])]
 |extract x i=>simp only[evalOp,h x (by simp[Op.operands])]
 | call c=>
  obtain⟨ce,args,ats⟩:=c
  cases ce with
  |builtin b=>
   have h1:=lS (C:=C) (s:=s) (s':=s') (l:=args.toList) (fun x hx=>h x (by simp only[Op.operands,Call.operands,Array.toList_append,List.mem_append];exact .inr hx))
   simp only[evalOp,h1]
  |value fo=>rfl
  |invoke r m=>rfl
 |_=>rfl
theorem JP {H:Heap}{s s':List TV}{t:Nat}{o:Oper}(h:∀x∈o.op.operands.toList,dB C s' x=dB C s x):bk C ev f H s' t o=bk C ev f H s t o:=by
 have he:=Ho (C:=C) (f:=f) (nm:=.loc [t]) (H:=H) h
 obtain⟨d,op,ty,pos,af,g⟩:=o
 cases op with
 |panic x=>simp only[bk,h x (by simp[Op.operands])]
 | call c=>
  obtain⟨ce,args,ats⟩:=c
  cases ce with
  |value fo=>
   have h1:=lS (C:=C) (s:=s) (s':=s') (l:=args.toList) (fun x hx=>h x (by simp only[Op.operands,Call.operands,Array.toList_append,List.mem_append];exact .inr hx))
   have h2:dB C s' fo=dB C s fo:=h fo (by simp[Op.operands,Call.operands])
   simp only[bk,jT,h1,h2]
  |invoke r nm=>
   have h1:=lS (C:=C) (s:=s) (s':=s') (l:=args.toList) (fun x hx=>h x (by simp only[Op.operands,Call.operands,Array.toList_append,List.mem_append];exact .inr hx))
   have h2:dB C s' r=dB C s r:=h r (by simp[Op.operands,Call.operands])
   simp only[bk,Cj,h1,h2]
  |_=>simp only[bk,he]
 |_=>simp only[bk,he]
theorem SQ {L:List Nat}{s:List TV}{x:Operand}(h:∀t,x=.tmp t→t∈L):dB C (kX L 0 s) x=dB C s x:=by
 cases x with
 |tmp t=>
  have ht:=h t rfl
  simp only[dB,GN,List.getD_eq_getElem?_getD,sy,Nat.zero_add,if_pos ht]
 |_=>rfl
theorem Du {ops:Array Oper}{H:Heap}{s:List TV}{t:Nat}{o:Oper}:bk C ev f H (kX (o.looksAt ops) 0 s) t o=bk C ev f H s t o:=
 JP fun x hx=>SQ fun t e=>by
  subst e
  unfold Oper.looksAt
  refine List.mem_append_left _ (List.mem_filterMap.2 ⟨_,hx,rfl⟩)
theorem tJ {ops:Array Oper}{s:List TV}{o:Oper}:dR ops (kX (o.looksAt ops) 0 s) o=dR ops s o:=by
 unfold dR
 cases hg:o.guard with
 |none=>rfl
 | some g=>
  obtain⟨j,want⟩:=g
  simp only[]
  cases hd:(ops[j]?).bind (·.dst) with
  |none=>rfl
  | some d=>
   have hm:d∈o.looksAt ops:=by
    unfold Oper.looksAt
    refine List.mem_append_right _ ?_
    rw[hg]
    simp[hd]
   simp only[sy,Nat.zero_add,if_pos hm]
def uP (C:dI)(ev:aW)(f:FuncId)(ops:Array Oper)(bs:List Nat)(t0 i:Nat)(l:List Oper)(n:Nat)(sp:List (Nat×TV))(H:Heap)(K:List Rec→List (Nat×TV)→Heap→Prop):Prop:=
 ∃recs sp' H',B2 C ev f ops bs t0 i l ⟨bH n sp,H⟩ none=some recs∧yx l recs ⟨bH n sp,H⟩=⟨bH n sp',H'⟩∧(∀j,jU j recs=none)∧K recs sp' H'
section
variable {ops:Array Oper}{bs:List Nat}{t0 i n:Nat}{r:List Oper}{sp:List (Nat×TV)}{H:Heap}{K:List Rec→List (Nat×TV)→Heap→Prop}
theorem uP.nil (h:K [] sp H):uP C ev f ops bs t0 i [] n sp H K:=⟨[],sp,H,rfl,rfl,fun _=>rfl,h⟩
theorem uP.step {o:Oper}{fp:List Nm}{v:TV}{u:Heap}(hw:dR ops (bH n sp) o=some true)(N4:PX C H (bH n sp) o=some fp)(hx:bk C ev f (ni H fp) (bH n sp) (t0+i) o=some (.val v u))
  (k:uP C ev f ops bs t0 (i+1) r n (abn sp o.dst v) (H.ei u) fun rs sp' H'=>K (⟨fp,.val v u⟩::rs) sp' H'):uP C ev f ops bs t0 i (o::r) n sp H K:=by
 obtain⟨rs,sp',H',h1,h2,h3,h4⟩:=k
 refine⟨⟨fp,.val v u⟩::rs,sp',H', ?_, ?_,fun j=> ?_,h4⟩
 · simp only[B2,RT,tJ,hw,N4,Du,hx,Option.isSome_none,Bool.false_eq_true,decide_false,Bool.false_and,if_false,wQ.after,fk,j6,h1]
 · simp only[yx,wQ.after,fk,h2]
 · exact h3 (j+1)
theorem uP.skip {o:Oper}(hw:dR ops (bH n sp) o=some false)(k:uP C ev f ops bs t0 (i+1) r n (abn sp o.dst cz) H fun rs sp' H'=>K (⟨[],.unwanted⟩::rs) sp' H'):uP C ev f ops bs t0 i (o::r) n sp H K:=by
 obtain⟨rs,sp',H',h1,h2,h3,h4⟩:=k
 refine⟨⟨[],.unwanted⟩::rs,sp',H', ?_, ?_,fun j=> ?_,h4⟩
 · simp only[B2,RT,tJ,hw,wQ.after,fk,j6,h1]
 · simp only[yx,wQ.after,fk,h2]
 · exact h3 (j+1)
theorem uP.go {d:Tmp}{op:Op}{ty pos af}{fp:List Nm}{v:TV}{u:Heap}(N4:PX C H (bH n sp) ⟨some d,op,ty,pos,af,none⟩=some fp)(h:cF C ev f (ni H fp) n sp (t0+i) (some d) op v u)
  (k:uP C ev f ops bs t0 (i+1) r n ((d,v)::sp) (H.ei u) fun rs sp' H'=>K (⟨fp,.val v u⟩::rs) sp' H'):uP C ev f ops bs t0 i (⟨some d,op,ty,pos,af,none⟩::r) n sp H K:=
 uP.step rfl N4 (h _ _ _ _) k
theorem uP.lQ {op:Op}{ty pos af}{fp:List Nm}{v:TV}{u:Heap}(N4:PX C H (bH n sp) ⟨none,op,ty,pos,af,none⟩=some fp)(h:cF C ev f (ni H fp) n sp (t0+i) none op v u)
  (k:uP C ev f ops bs t0 (i+1) r n sp (H.ei u) fun rs sp' H'=>K (⟨fp,.val v u⟩::rs) sp' H'):uP C ev f ops bs t0 i (⟨none,op,ty,pos,af,none⟩::r) n sp H K:=
 uP.step rfl N4 (h _ _ _ _) k
theorem uP.yes {d:Tmp}{op:Op}{ty pos af}{j gd:Nat}{w b:Bool}{fp:List Nm}{v:TV}{u:Heap}(hj:(ops[j]?).bind (·.dst)=some gd)(hn:Nat.blt gd n=true)(hl:look sp gd=.t (.bool b))(hb:(b==w)=true)
  (N4:PX C H (bH n sp) ⟨some d,op,ty,pos,af,some (j,w)⟩=some fp)(h:cF C ev f (ni H fp) n sp (t0+i) (some d) op v u)
  (k:uP C ev f ops bs t0 (i+1) r n ((d,v)::sp) (H.ei u) fun rs sp' H'=>K (⟨fp,.val v u⟩::rs) sp' H'):uP C ev f ops bs t0 i (⟨some d,op,ty,pos,af,some (j,w)⟩::r) n sp H K:=
 uP.step (by rw[kH rfl hj hn,hl];simp only[hb]) N4 (h _ _ _ _) k
theorem uP.no {d:Tmp}{op:Op}{ty pos af}{j gd:Nat}{w b:Bool}(hj:(ops[j]?).bind (·.dst)=some gd)(hn:Nat.blt gd n=true)(hl:look sp gd=.t (.bool b))(hb:(b==w)=false)
  (k:uP C ev f ops bs t0 (i+1) r n ((d,cz)::sp) H fun rs sp' H'=>K (⟨[],.unwanted⟩::rs) sp' H'):uP C ev f ops bs t0 i (⟨some d,op,ty,pos,af,some (j,w)⟩::r) n sp H K:=
 uP.skip (by rw[kH rfl hj hn,hl];simp only[hb]) k
theorem uP.none {d:Tmp}{op:Op}{ty pos af}{j gd:Nat}{w:Bool}(hj:(ops[j]?).bind (·.dst)=some gd)(hn:Nat.blt gd n=true)(hl:look sp gd=cz)
  (k:uP C ev f ops bs t0 (i+1) r n ((d,cz)::sp) H fun rs sp' H'=>K (⟨[],.unwanted⟩::rs) sp' H'):uP C ev f ops bs t0 i (⟨some d,op,ty,pos,af,some (j,w)⟩::r) n sp H K:=
 uP.skip (by rw[kH rfl hj hn,hl];rfl) k
end
theorem AW.draw {id:Nat}{ops:Array Oper}{n t:Nat}{sp:List (Nat×TV)}{H:Heap}{Q:aP→St→Prop}(hm:C.P.prog.follows .mixedOrders=true)(ai:aF C ev)
  (h:uP C ev f ops (qW ops.toList []) t 0 ops.toList n sp H fun recs sp' H'=>lJ ops ops.toList recs (qW ops.toList []) ops.toList recs 0=true∧uV 0 ops.toList=true∧Q .normal ⟨bH n sp',H',t+ops.size⟩):
  AW C (.region id ops true) ⟨bH n sp,H,t⟩ Q:=by
 obtain⟨recs,sp',H',h1,h2,h3,h4,h5,h6⟩:=h
 refine AW.drawn (ev:=ev) (f:=f) hm ai (e:=.normal) (st':=⟨bH n sp',H',t+ops.size⟩) ?_ h6
 unfold q9
 simp only[h1,h4,h5,and_self,if_true,h3,h2]
theorem fC.Qx {ops:Array Oper}{Q:aP→St→Prop}{n t:Nat}{sp:List (Nat×TV)}{H:Heap}{r:List Oper}{d:Tmp}{ty r2:TypeId}{x y:Operand}{tt pos af}{es:List Tree}{ti:TI}{e:TypeId}
    (hx:bL C n sp x=some (.t (.sl es)))(hy:bL C n sp y=some .aL)(ht:C.P.ty ty=some ti)(hd:ti.desc=.slice e)
    (k:∀b:Bool,(es≠ []→b=false)→fC C ops r ⟨bH n ((d,.t (.bool b))::sp),H,t+1⟩ Q):fC C ops (⟨some d,.binOp .eql ty x y r2,tt,pos,af,none⟩::r) ⟨bH n sp,H,t⟩ Q:=by
  intro G0 w0 G w a h0 hs hst R hR
  have h1:=bS hst.slots hst.jA (bT hx)
  have h2:=bS hst.slots hst.jA (bT hy)
  obtain⟨_,_,hu,_⟩:=bF (show bn C.P ty=some ti from ht)
  rw[hd] at hu
  obtain⟨ad,len,cap,ep,hne⟩:∃ad len cap,a.eval x=.slice ad len cap∧(es≠ []→ad.isNone=false):=by
    generalize a.eval x=p at h1
    cases h1 with|t _ _ h1=>cases h1 with
      |xg ad cap=>exact⟨_,_,_,rfl,fun h=>absurd rfl h⟩
      |sl=>exact⟨_,_,_,rfl,fun _=>rfl⟩
  have eq:a.eval y=.slice none 0 0:=by
    generalize a.eval y=q at h2
    cases h2;rfl
  have hrun:=(fM (x:=x) (y:=y) (p:=.slice ad len cap) (q:=.slice none 0 0) (C:=C) (w:=w) (t:=ty) (by intro z;simp) (by simp) rfl rfl (yB hu ad len cap 0 0)).1
  have hop:dD C.P (.loc [t]) ⟨some d,.binOp .eql ty x y r2,tt,pos,af,none⟩ a w G (.t (.bool ad.isNone)) []:=
    dD.quiet hst.wf (by simp only[execOp];rw[ep,eq];simp only[Sem.run_bind] at hrun ⊢;rw[hrun];rfl) (.t _ _ (.bool _))
  have kk:=k ad.isNone hne
  refine wpList_step fun K hK=> ?_
  rw[ja (G:=G) (show dR ops (bH n sp) ⟨some d,.binOp .eql ty x y r2,tt,pos,af,none⟩=some true from rfl) hst.slots]
  simp only[if_true]
  refine hop.exec.wp lK.no (fun z w' hr=> ?_) (fun ch w' hr=> ?_)
  · obtain⟨x',G',e1,hs',mW,hv⟩:=hr
    simp at e1;subst e1
    have:=hst.op (some d) hs' mW hv
    rw[fk] at this
    exact hK _ _ (kk G0 w0 G' w' _ h0 (dS.comp hs hs'.any) this R fun e st' _ _ _ h1 h2=>hR _ _ _ _ _ h1 (Good.acts (put_defers _ _ _) h2))
  · obtain⟨x',G',e1,_⟩:=hr
    simp at e1
def mE (C:dI)(fn:Func)(n:Nat)(st:St):Option bG:=
 match iP C st fn.results.toList with
 |none=>none
 | some vs=>match mg st.H 0 n with
  |none=>none
  |some os=>match reach st.H fL [] ((qd vs).names++os.flatMap aV.names) with
   |none=>none
   |some R=>(j7 st.H R).map fun h=>.ret (qd vs) os h
theorem Mq {fn:Func}{n:Nat}{st:St}{a:Act}{r:bG}{G G0:Gh}{w w0:World}(h:mE C fn n st=some r)(hs:dS G0 w0 G w)(hst:yf C G w st a):
    ∃v,(results fn a.tmps).run C.P w=.ok v w∧wR G0 w0 n r (.returned v) w:=by
  unfold mE at h
  split at h
  · simp at h
  rename_i vs hvs
  obtain⟨v,hv,hr⟩:=xE hst hvs
  refine⟨v,hv, ?_⟩
  split at h
  · simp at h
  rename_i os hos
  split at h
  · simp at h
  rename_i R hR
  cases L9:j7 st.H R with
  |none=>rw[L9] at h;simp at h
  | some nw=>
    rw[L9] at h
    simp only[Option.map_some,Option.some.injEq] at h
    subst h
    obtain⟨e1,e2⟩:=vq hos
    refine⟨v,G,rfl,hs,e1,fun i o ho=> ?_,fun k o hm=> ?_,hr⟩
    · have:=e2 i o ho
      rw[Nat.zero_add] at this
      exact hst.heap _ _ this
    · obtain⟨e3,e4⟩:=rB L9 k o hm
      exact⟨e3,hst.heap _ _ e4⟩
def cB (C:dI)(fn:Func)(n:Nat)(r:bG):aP→St→Prop
 |.normal,st=>finish C fn n st=some r∨mE C fn n st=some r
 |.ret,st=>finish C fn n st=some r∨mE C fn n st=some r
 |.panic v,st=>v.names.any Nm.gZ=false∧r=.panic v (ru st.H 0 n)
 |_,_=>False
theorem abo {f:FuncId}{fn:Func}{body:Code}{args:List TV}{aX:List aV}{r:bG}(Df:C.P.fn f=some fn)(hbody:fn.body=some body)(hname:fn.name≠ "runtime.NumGoroutine")
    (h:AW C body ⟨args++List.replicate (fn.ntmps - args.length) cz,cU 0 aX,0⟩ (cB C fn aX.length r)):ay C f args aX r:=by
  intro G w vs hw hg had hH hv
  have hfn:=C.P.RP _ _ Df
  have hst:yf C G w ⟨args++List.replicate (fn.ntmps - args.length) cz,cU 0 aX,0⟩ {tmps:=vs.toArray++Array.replicate (fn.ntmps - vs.toArray.size) undef,defers:=[]}:=by
    refine⟨hw,hg, ?_,hH,fun p hp=>absurd hp (had.2 p)⟩
    have e:(vs.toArray++Array.replicate (fn.ntmps - vs.toArray.size) undef).toList=vs++List.replicate (fn.ntmps - args.length) undef:=by simp[hv.1]
    unfold SR
    rw[e]
    refine cZ.append hv ⟨by simp,fun j c u hc hu=> ?_⟩
    rw[List.getElem?_replicate] at hc hu
    by_cases hl:j<fn.ntmps - args.length
    · rw[if_pos hl] at hc hu
      simp at hc hu;subst hc;subst hu;exact oh G
    · rw[if_neg hl] at hc;simp at hc
  have fin:∀{G':Gh} {w':World} {st:St} {a':Act},(finish C fn aX.length st=some r∨mE C fn aX.length st=some r)→dS G w G' w'→yf C G' w' st a'→∃v,(results fn a'.tmps).run C.P w'=.ok v w'∧wR G w aX.length r (.returned v) w':=
    fun h hs hst=>h.elim (fun h=>A1 h hs hst) (fun h=>Mq h hs hst)
  refine .inl ⟨?_,calls_of_wp hfn hbody ?_⟩
  · simp[callFunc,hfn,hname,hbody]
  · refine wp_mono (h G w G w _ had.2 (Step.refl hw _ _) hst) fun ex a' w' ⟨e,st,hq,hgd⟩=> ?_
    cases e with
    | normal=>
      obtain⟨G',hs,hd,rfl,o8⟩:=hgd
      exact⟨hd,fin hq hs o8⟩
    | ret=>
      obtain⟨G',hs,hd,rfl,o8⟩:=hgd
      exact⟨hd,fin hq hs o8⟩
    |exit id=>exact hq.elim
    | panic v=>
      obtain⟨_,rfl⟩:=hq
      obtain⟨G',hs,hd,x,rfl,hx,hH'⟩:=hgd
      refine⟨hd,x,G',rfl,hs,fun i o ho=> ?_,hx⟩
      have:=yS ho
      rw[Nat.zero_add] at this
      exact hH' _ _ this
theorem nD {f:FuncId}{fn:Func}{body:Code}{args:List TV}{aX:List aV}{r:bG}(n k:Nat)(Df:C.P.fn f=some fn)(hbody:fn.body=some body)(hname:fn.name≠ "runtime.NumGoroutine")
  (hn:fn.ntmps=n)(ha:args.length=k)(hk:k≤n)(h:AW C body ⟨bH n (xI 0 args),cU 0 aX,0⟩ (cB C fn aX.length r)):ay C f args aX r:=by
 refine abo Df hbody hname (AW.re (Re.start args (fn.ntmps - args.length) _ _) ?_)
 rw[show args.length+(fn.ntmps - args.length)=n by omega]
 exact h
end
end Go.Abs
end

noncomputable section
namespace Go.Abs
open Go
def Dv:Tree→Bool
 |.agg _=>true
 |_=>false
def EOk (ag:Bool)(sz:Nat)(e:Tree):Prop:=e.cells.length=sz∧e.cells.all Tree.leaf=true∧Dv e=ag
def cu (ag:Bool)(sz:Nat)(es:List Tree):Prop:=∀e∈es,EOk ag sz e
theorem cu.nil {ag:Bool}{sz:Nat}:cu ag sz []:=fun _ h=>by simp at h
theorem cu.cons {ag:Bool}{sz:Nat}{e:Tree}{es:List Tree}(h:EOk ag sz e)(hs:cu ag sz es):cu ag sz (e::es):=fun x hx=>by
 rcases List.mem_cons.1 hx with rfl|hx
 · exact h
 · exact hs x hx
theorem cu.append {ag:Bool}{sz:Nat}{a b:List Tree}(h:cu ag sz a)(k:cu ag sz b):cu ag sz (a++b):=fun x hx=>(List.mem_append.1 hx).elim (h x) (k x)
theorem cu.take {ag:Bool}{sz:Nat}{a:List Tree}(h:cu ag sz a)(n:Nat):cu ag sz (a.take n):=fun x hx=>h x (List.mem_of_mem_take hx)
theorem cu.lens {ag:Bool}{sz:Nat}{es:List Tree}(h:cu ag sz es):∀e∈es,e.cells.length=sz:=fun e he=>(h e he).1
theorem cu.nE {ag:Bool}{sz:Nat}{es:List Tree}(h:cu ag sz es):((flat es).map TV.t).all TV.leaf=true:=by
 rw[List.all_eq_true]
 intro v hv
 obtain⟨x,hx,rfl⟩:=List.mem_map.1 hv
 obtain⟨e,he,hxe⟩:=List.mem_flatMap.1 hx
 exact List.all_eq_true.1 (h e he).2.1 x hxe
theorem cu.length {ag:Bool}{sz:Nat}{es:List Tree}(h:cu ag sz es):((flat es).map TV.t).length=es.length*sz:=by
 rw[List.length_map,iR h.lens]
theorem Qy {e:Tree}(h:Dv e=true):e=.agg e.cells:=by
 cases e<;>simp_all [Dv,Tree.cells]
theorem one_cell {e:Tree}(h:Dv e=false):e.cells=[e]:=by
 cases e<;>simp_all [Dv,Tree.cells]
theorem xK {ag:Bool}{sz:Nat}(hz:0<sz):∀{es:List Tree},cu ag sz es→chunk ag sz es.length (flat es)=some es
 | [],_=>rfl
 | e::r,h=>by
  obtain⟨h1,h2,h3⟩:=h e List.mem_cons_self
  have ih:=xK hz (es:=r) fun x hx=>h x (List.mem_cons_of_mem _ hx)
  have hd:(flat (e::r)).drop sz=flat r:=by
   simp only[flat,List.flatMap_cons]
   rw[← h1,List.drop_left]
  have ht:(flat (e::r)).take sz=e.cells:=by
   simp only[flat,List.flatMap_cons]
   rw[← h1,List.take_left]
  have hl:sz≤(flat (e::r)).length:=by
   simp only[flat,List.flatMap_cons,List.length_append]
   omega
  simp only[List.length_cons,chunk,if_pos hl,hd,ih,ht]
  cases ag with
  |true=>simp only[if_true];rw[← Qy h3]
  |false=>
   have hc:=one_cell h3
   have e1:sz=1:=by rw[← h1,hc];rfl
   have hlf:e.leaf=true:=by rw[hc] at h2;simpa using h2
   have ef:flat (e::r)=e::flat r:=by simp only[flat,List.flatMap_cons,hc,List.singleton_append]
   simp only[Bool.false_eq_true,if_false,ef,e1,hlf,and_self,if_true]
theorem Dw (g:TV→Option (Tree×List Nm))(hg:∀x,g (.t x)=some (x,[])):∀(ts:List Tree),yh g (ts.map .t)=some (ts,[])
 | []=>rfl
 |x::r=>by simp only[List.map_cons,yh,hg,Dw g hg r,List.nil_append]
theorem SS (H:Heap)(n:Nat)(x:Tree):pV H n (.t x)=some (x,[]):=by cases n<;>rfl
theorem Hp {H:Heap}{n:Nat}{k:Nm}{g:TypeId}{ag fz:Bool}{sz len:Nat}{es:List Tree}(hk:H.get k=some (.arr (g,ag) sz fz ((flat es).map .t)))(hu:cu ag sz es)(hz:0<sz)(hl:len=es.length):
  pV H (n+1) (.ref k 0 len)=some (.sl es,[k]):=by
 subst hl
 have hc:0<sz∧(0+es.length) *sz=((flat es).map TV.t).length:=⟨hz,by rw[hu.length,Nat.zero_add]⟩
 have e1:(((flat es).map TV.t).drop (0*sz)).take (es.length*sz)=(flat es).map .t:=by
  rw[Nat.zero_mul,List.drop_zero,List.take_of_length_le (by rw[hu.length];exact Nat.le_refl _)]
 simp only[pV,hk,if_pos hc,e1,Dw _ (SS H n),xK hz hu]
section
variable {C:dI}{ev:aW}{f:FuncId}{n:Nat}{sp:List (Nat×TV)}{H:Heap}{t:Nat}{d:Option Tmp}
theorem sta {P:lI}{ty:TypeId}{ti:TI}{x:TV}{k:Nm}{off:Nat}{g:TypeId×Bool}{b8:Nat}{cs:List TV}(ht:P.ty ty=some ti)(hk:H.get k=some (.arr g b8 false cs))(hl:(decide (x.cells.length=ti.size)&&x.cells.all TV.leaf)=true)(ho:off+ti.size≤cs.length):
  storeT P H ty (.kR k cs.length off) x=some [(k,.arr g b8 false (ez cs off x.cells))]:=by
 simp only[Bool.and_eq_true,decide_eq_true_eq] at hl
 simp only[storeT,bn,ht,hl.1,hl.2,hk,ho,and_self,if_true]
theorem F1 {sz:Nat}{es:List Tree}{i j m:Nat}{e:Tree}(hu:∀e∈es,e.cells.length=sz)(he:es[i]?=some e)(hj:j+m≤sz):((flat es).drop (i*sz+j)).take m=(e.cells.drop j).take m:=by
 refine List.ext_getElem? fun q=> ?_
 by_cases hq:q<m
 · rw[List.getElem?_take_of_lt hq,List.getElem?_take_of_lt hq,List.getElem?_drop,List.getElem?_drop,Nat.add_assoc,yE hu he (by omega)]
 · rw[List.getElem?_eq_none (by rw[List.length_take];omega),List.getElem?_eq_none (by rw[List.length_take];omega)]
theorem Dy:∀(ts:List Tree),allT (ts.map .t)=some ts
 | []=>rfl
 |x::r=>by simp only[List.map_cons,allT,Dy r]
theorem Qz (ts:List Tree):uS (ts.map .t)=.t (.agg ts):=by simp only[uS,Dy]
theorem sC {sz:Nat}{es:List Tree}{i j m:Nat}{e:Tree}(hu:∀e∈es,e.cells.length=sz)(he:es[i]?=some e)(hj:j+m≤sz):partT true m ((flat es).map .t) (i*sz+j)=some (.t (.agg ((e.cells.drop j).take m))):=by
 have hi:i<es.length:=(List.getElem?_eq_some_iff.1 he).1
 have hle:i*sz+j+m≤((flat es).map TV.t).length:=by
  rw[List.length_map,iR hu]
  have:(i+1) *sz≤es.length*sz:=Nat.mul_le_mul_right _ hi
  rw[Nat.succ_mul] at this
  omega
 simp only[partT,if_true,if_pos hle]
 rw[← List.map_drop,← List.map_take,F1 hu he hj,Qz]
theorem SU {cs:List TV}{off:Nat}{vs:List TV}(h:(cs.drop off).take vs.length=vs):ez cs off vs=cs:=by
 unfold ez
 conv=>rhs;rw[← List.take_append_drop off cs,← List.take_append_drop vs.length (cs.drop off),h,List.drop_drop]
 rw[List.append_assoc]
theorem wB {sz:Nat}{es:List Tree}{i j m:Nat}{e:Tree}(hu:∀e∈es,e.cells.length=sz)(he:es[i]?=some e)(hj:j+m≤sz):ez ((flat es).map .t) (i*sz+j) (((e.cells.drop j).take m).map .t)=(flat es).map .t:=by
 refine SU ?_
 have hl:e.cells.length=sz:=hu e (List.mem_of_getElem? he)
 rw[List.length_map,List.length_take,List.length_drop,hl,Nat.min_eq_left (by omega),← List.map_drop,← List.map_take,F1 hu he hj]
theorem abp {ag:Bool}{sz:Nat}{es:List Tree}(hu:cu ag sz es):fG H ag sz (.t (.sl es))=some (es.length,(flat es).map .t):=by
 have:jx sz es=true:=by
  cases es with
  |nil=>rfl
  |cons e r=>simp only[jx,(hu e List.mem_cons_self).1,BEq.rfl]
 simp only[fG,this,if_true]
theorem N8 {ag:Bool}{sz:Nat}{es:List Tree}(hu:cu ag sz es):fG H ag sz (.l7 es)=some (es.length,(flat es).map .t):=by
 have:jx sz es=true:=by
  cases es with
  |nil=>rfl
  |cons e r=>simp only[jx,(hu e List.mem_cons_self).1,BEq.rfl]
 simp only[fG,this,if_true]
def BM (y:TV)(es:List Tree):Prop:=y=.t (.sl es)∨y=.l7 es
theorem xL {ag:Bool}{sz:Nat}{y:TV}{es:List Tree}(h:BM y es)(hu:cu ag sz es):fG H ag sz y=some (es.length,(flat es).map .t):=by
 rcases h with rfl|rfl
 · exact abp hu
 · exact N8 hu
structure uA (P:lI)(st elem:TypeId)(te:TI):Prop where
 sl:∃ti,P.ty st=some ti∧ti.desc=.slice elem
 el:P.ty elem=some te
 ze:∃z,te.zero=some z∧te.size≠0∧z.cells.length=te.size∧te.bytes≠0
theorem ko {nm:Nm}{s x:TV}{st elem:TypeId}{te:TI}(h:uA C.P st elem te){m:Nat}{cs:List TV}(hs:fG H te.agg te.size x=some (m,cs))(hm:m≠0)(hl:cs.all TV.leaf=true){r:Option (TV×Heap)}
  (hr:  (match s with
       |.aL=>if m*te.bytes≤dQ then some (.ref nm 0 m,[(nm,.arr (elem,te.agg) te.size false cs)]) else none
       |.l7 es=>match fG H te.agg te.size (.l7 es) with
        |some (n,old)=>if(n+m) *te.bytes≤dQ then some (.ref nm 0 (n+m),[(nm,.arr (elem,te.agg) te.size false (old++cs))]) else none
        |none=>none
       |.ref k 0 len=>match nZ H k 0 len with
        |some (g,e,fz,old)=>if e=te.size∧g.1=elem∧(len+m) *te.bytes≤dQ then some (.ref k 0 (len+m),[(k,.arr g e fz (old++cs))]) else none
        |none=>none
       |_=>none:Option (TV×Heap))=r):jS C.P nm H st st s x=r:=by
 obtain⟨⟨ti,h1,h2⟩,h3,z,h4,h5,h6,h7⟩:=h
 have hc:¬(te.size=0∨z.cells.length≠te.size∨te.bytes=0):=by
  rintro (h|h|h)
  · exact h5 h
  · exact h h6
  · exact h7 h
 unfold jS
 simp only[bn,h1,h2,h3,h4,if_neg hc,hs,if_neg hm,hl,if_true]
 exact hr
theorem abq {x y:Operand}{st elem:TypeId}{te:TI}{v:TV}{es:List Tree}(h:uA C.P st elem te)(hx:bL C n sp x=some .aL)(hy:bL C n sp y=some v)(hv:BM v es)(hu:cu te.agg te.size es)(hne:es≠ [])(hb:es.length*te.bytes≤dQ):
  cF C ev f H n sp t d (.call ⟨.builtin .append, #[x,y], #[st,st]⟩) (.ref (.loc [t]) 0 es.length) [(.loc [t],.arr (elem,te.agg) te.size false ((flat es).map .t))]:=by
 refine pY (vs:=[.aL,v]) (by simp only[kn,hx,hy]) ?_
 show jS C.P (.loc [t]) H st st (.aL) v=_
 exact ko h (xL hv hu) (by simpa using hne) hu.nE (by simp only[if_pos hb])
theorem Mr {x y:Operand}{st elem:TypeId}{te:TI}{v:TV}{es:List Tree}(h:uA C.P st elem te)(hx:bL C n sp x=some (.l7 []))(hy:bL C n sp y=some v)(hv:BM v es)(hu:cu te.agg te.size es)(hne:es≠ [])(hb:es.length*te.bytes≤dQ):
  cF C ev f H n sp t d (.call ⟨.builtin .append, #[x,y], #[st,st]⟩) (.ref (.loc [t]) 0 es.length) [(.loc [t],.arr (elem,te.agg) te.size false ((flat es).map .t))]:=by
 refine pY (vs:=[.l7 [],v]) (by simp only[kn,hx,hy]) ?_
 show jS C.P (.loc [t]) H st st (.l7 []) v=_
 refine ko h (xL hv hu) (by simpa using hne) hu.nE ?_
 have e:fG H te.agg te.size (.l7 [])=some (0,[]):=rfl
 simp only[e,Nat.zero_add,if_pos hb,List.nil_append]
theorem abr {x y:Operand}{st elem:TypeId}{te:TI}{v:TV}{es fs:List Tree}(h:uA C.P st elem te)(hx:bL C n sp x=some (.l7 fs))(hy:bL C n sp y=some v)(hv:BM v es)(hu:cu te.agg te.size es)(hf:cu te.agg te.size fs)(hne:es≠ [])(hb:(fs.length+es.length) *te.bytes≤dQ):
  cF C ev f H n sp t d (.call ⟨.builtin .append, #[x,y], #[st,st]⟩) (.ref (.loc [t]) 0 (fs.length+es.length)) [(.loc [t],.arr (elem,te.agg) te.size false ((flat (fs++es)).map .t))]:=by
 refine pY (vs:=[.l7 fs,v]) (by simp only[kn,hx,hy]) ?_
 show jS C.P (.loc [t]) H st st (.l7 fs) v=_
 refine ko h (xL hv hu) (by simpa using hne) hu.nE ?_
 simp only[N8 hf,if_pos hb,flat,List.flatMap_append,List.map_append]
theorem abt {x y:Operand}{st elem:TypeId}{te:TI}{v:TV}{k:Nm}{fz:Bool}{len:Nat}{es fs:List Tree}(h:uA C.P st elem te)(hx:bL C n sp x=some (.ref k 0 len))(hy:bL C n sp y=some v)(hv:BM v es)
  (hk:H.get k=some (.arr (elem,te.agg) te.size fz ((flat fs).map .t)))(hl:len=fs.length)(hf:cu te.agg te.size fs)(hu:cu te.agg te.size es)(hne:es≠ [])(hb:(len+es.length) *te.bytes≤dQ):
  cF C ev f H n sp t d (.call ⟨.builtin .append, #[x,y], #[st,st]⟩) (.ref k 0 (len+es.length)) [(k,.arr (elem,te.agg) te.size fz ((flat (fs++es)).map .t))]:=by
 refine pY (vs:=[.ref k 0 len,v]) (by simp only[kn,hx,hy]) ?_
 show jS C.P (.loc [t]) H st st (.ref k 0 len) v=_
 refine ko h (xL hv hu) (by simpa using hne) hu.nE ?_
 have hz:te.size≠0:=by obtain⟨_,_,z,_,h5,_⟩:=h;exact h5
 have h2:nZ H k 0 len=some ((elem,te.agg),te.size,fz,(flat fs).map .t):=by
  unfold nZ
  simp only[hk]
  rw[if_pos ⟨by omega,by rw[Nat.zero_add,hl,hf.length]⟩]
 simp only[h2,hb,and_self,if_true,flat,List.flatMap_append,List.map_append]
theorem vw {x y:Operand}{st elem:TypeId}{te:TI}{s v:TV}(h:uA C.P st elem te)(hx:bL C n sp x=some s)(hy:bL C n sp y=some v)(hv:BM v []∨v=.aL)(hs:s=.aL∨(∃es,s=.t (.sl es))∨∃es,s=.l7 es):
  cF C ev f H n sp t d (.call ⟨.builtin .append, #[x,y], #[st,st]⟩) s []:=by
 refine pY (vs:=[s,v]) (by simp only[kn,hx,hy]) ?_
 obtain⟨⟨ti,h1,h2⟩,h3,z,h4,h5,h6,h7⟩:=h
 have hc:¬(te.size=0∨z.cells.length≠te.size∨te.bytes=0):=by
  rintro (h|h|h)
  · exact h5 h
  · exact h h6
  · exact h7 h
 have hsrc:fG H te.agg te.size v=some (0,[]):=by
  rcases hv with (rfl|rfl)|rfl<;>rfl
 show jS C.P (.loc [t]) H st st s v=some (s,[])
 unfold jS
 simp only[bn,h1,h2,h3,h4,if_neg hc,hsrc,if_true]
 rcases hs with rfl|⟨es,rfl⟩|⟨es,rfl⟩<;>rfl
theorem qw {ty elem:TypeId}{ti te:TI}{z:TV}(ha:d.any (C.qb f)=false)(ht:C.P.ty ty=some ti)(hd:ti.desc=.slice elem)(hte:C.P.ty elem=some te)(hz:te.zero=some z)(hc:(decide (0<te.size)&&decide (z.cells.length=te.size)&&z.cells.all TV.leaf)=true):
  cF C ev f H n sp t d (.buildSlice ty 0 #[]) (.l7 []) []:=fun _ _ _ _=>by
 simp only[Bool.and_eq_true,decide_eq_true_eq] at hc
 obtain⟨⟨h1,h2⟩,h3⟩:=hc
 have JQ:0<te.size∧0*te.size≤16777216∧z.cells.length=te.size∧z.cells.all TV.leaf=true:=⟨h1,by omega,h2,h3⟩
 simp only[bk,evalOp,lq,oc,bn,ht,hd,hte,hz,if_pos JQ,r8,pz,ha,allT,Option.bind_some,chunk,List.isEmpty_nil,if_true]
theorem Ms {ty elem:TypeId}{ti te:TI}{z:TV}{x:Operand}{e:Tree}(hx:bL C n sp x=some (.t e))(ha:d.any (C.qb f)=false)(ht:C.P.ty ty=some ti)(hd:ti.desc=.slice elem)(hte:C.P.ty elem=some te)(hz:te.zero=some z)
  (hc:(decide (0<te.size)&&decide (1*te.size≤16777216)&&decide (z.cells.length=te.size)&&z.cells.all TV.leaf)=true)(he:EOk te.agg te.size e):cF C ev f H n sp t d (.buildSlice ty 1 #[(0,x)]) (.l7 [e]) []:=fun _ _ _ _=>by
 simp only[Bool.and_eq_true,decide_eq_true_eq] at hc
 obtain⟨⟨⟨h1,h1b⟩,h2⟩,h3⟩:=hc
 obtain⟨e1,e2,e3⟩:=he
 have JQ:0<te.size∧1*te.size≤16777216∧z.cells.length=te.size∧z.cells.all TV.leaf=true:=⟨h1,h1b,h2,h3⟩
 have hcells:(TV.t e).cells=e.cells.map .t:=by cases e<;>rfl
 have hl:((TV.t e).cells).all TV.leaf=true:=by
  rw[hcells,List.all_map]
  exact e2
 have aeS:pz (fun i=>some (i*te.size,te.size)) (r8 1 z.cells) [(0,.t e)]=some (e.cells.map .t):=by
  have hcc:(TV.t e).cells.length=te.size∧0*te.size+te.size≤(r8 1 z.cells).length∧(TV.t e).cells.all TV.leaf=true:=⟨by rw[hcells,List.length_map,e1],by simp[r8,h2],hl⟩
  show(if(TV.t e).cells.length=te.size∧0*te.size+te.size≤(r8 1 z.cells).length∧(TV.t e).cells.all TV.leaf=true then some (ez (r8 1 z.cells) (0*te.size) (TV.t e).cells) else none)=_
  rw[if_pos hcc,hcells,Nat.zero_mul]
  congr 1
  unfold ez
  simp only[List.take_zero,List.nil_append,Nat.zero_add,List.length_map,e1]
  rw[List.drop_of_length_le (by simp[r8,h2]),List.append_nil]
 have hch:chunk te.agg te.size 1 e.cells=some [e]:=by
  have:=xK (ag:=te.agg) h1 (es:=[e]) (cu.cons ⟨e1,e2,e3⟩ .nil)
  simpa [flat] using this
 have hp:lq C (bH n sp) (#[(0,x)]:Array (Nat×Operand)).toList=some [(0,.t e)]:=by simp only[lq,bT hx]
 simp only[bk,evalOp,hp,oc,bn,ht,hd,hte,hz,if_pos JQ,aeS,ha,Dy,Option.bind_some,hch]
def bld (P:lI)(t:TypeId):Option (List TV×List (Nat×Nat)):=match bn P t with
 | some ti=>match ti.zero,ti.desc with
  |some z,.struct fs=>match jo P fs.toList with
   |some ps=>some (z.cells,ps)
   |none=>none
  |_,_=>none
 |none=>none
def Dz (C:dI)(n:Nat)(sp:List (Nat×TV)):List (Nat×Operand)→Option (List (Nat×TV))
 | []=>some []
 |(i,x)::r=>match bL C n sp x,Dz C n sp r with
  |some v,some vs=>some ((i,v)::vs)
  |_,_=>none
theorem F2:∀{l:List (Nat×Operand)} {vs:List (Nat×TV)},Dz C n sp l=some vs→lq C (bH n sp) l=some vs
 | [],_,h=>h
 |(i,x)::r,vs,h=>by
  simp only[Dz] at h
  cases h1:bL C n sp x<;>cases h2:Dz C n sp r<;>simp only[h1,h2,reduceCtorEq] at h
  simp only[lq,bT h1,F2 h2]
  exact h
theorem rE {ty:TypeId}{ps:Array (Nat×Operand)}{parts:List (Nat×TV)}{zs cs:List TV}{pl:List (Nat×Nat)}{v:TV}(hp:Dz C n sp ps.toList=some parts)(hb:bld C.P ty=some (zs,pl))(hf:pz (fun i=>pl[i]?) zs parts=some cs)(hv:uS cs=v):
  cF C ev f H n sp t d (.build ty ps) v []:=fun _ _ _ _=>by
 unfold bld at hb
 split at hb<;>try (simp at hb;done)
 rename_i ti GV
 split at hb<;>try (simp at hb;done)
 rename_i z fs hz hd
 split at hb<;>try (simp at hb;done)
 rename_i q hq
 simp at hb
 obtain⟨rfl,rfl⟩:=hb
 simp only[bk,evalOp,F2 hp,GK,GV,hz,hd,hq,hf,hv,xq,Option.map_some]
theorem dL {l:List Tree}{i:Nat}{e:Tree}(h:l[i]?=some e):l.take (i+1)=l.take i++[e]:=by
 obtain⟨h1,rfl⟩:=List.getElem?_eq_some_iff.1 h
 exact(List.take_append_getElem h1).symm
theorem SV {fn:Func}{st:St}{vs:List TV}{x:Tree}{ks:List Nm}(hr:iP C st fn.results.toList=some vs)(hf:pV st.H jv (qd vs)=some (x,ks)):finish C fn 0 st=some (.ret (.t x) [] []):=by
 unfold finish
 simp only[hr,hf,mg,TV.names,List.flatMap_nil,List.append_nil]
 rfl
theorem F3 {H:Heap}{m:Nat}{k:Nm}{g:TypeId×Bool}{b8:Nat}{fz:Bool}{ts:List Tree}(hk:H.get k=some (.arr g b8 fz (ts.map .t))):reach H (m+2) [] [k]=some [k]:=by
 have h1:¬k∈([]:List Nm):=by simp
 simp only[reach,if_neg h1,hk,aV.names,rD,List.append_nil,List.nil_append]
theorem N9 {fn:Func}{st:St}{k:Nm}{o len:Nat}{g:TypeId×Bool}{b8:Nat}{fz:Bool}{ts:List Tree}(hr:iP C st fn.results.toList=some [.ref k o len])(hk:st.H.get k=some (.arr g b8 fz (ts.map .t)))(hl:k.gZ=true):
  mE C fn 0 st=some (.ret (.ref k o len) [] [(k,.arr g b8 fz (ts.map .t))]):=by
 unfold mE
 simp only[hr,mg,qd,TV.names,List.flatMap_nil,List.append_nil]
 rw[show fL=3998+2 from rfl,F3 hk]
 simp only[j7,hl,if_true,hk,Option.map_some]
theorem Mt {g:FuncId}{ts:List Tree}{v v':TV}{news news':Heap}(he:ev g (ts.map .t) []=some (.ret v [] news))(hv:v.rn (lY [] t)=some v')(hn:iG [] t news=some news'):qc ev H g (ts.map .t) t=some (.val v' news'):=by
 unfold qc
 simp only[rX,rD]
 have h1:reach (H.ei (dF H [])) fL [] []=some []:=rfl
 rw[h1]
 simp only[List.nodup_nil,if_true,lR,jN,he,hv,hn,jf]
 rfl
theorem wC {g:FuncId}{args:Array Operand}{ats:Array TypeId}{ts:List Tree}{v v':TV}{news news':Heap}(h:kn C n sp args.toList=some (ts.map .t))(he:ev g (ts.map .t) []=some (.ret v [] news))(hv:v.rn (lY [] t)=some v')(hn:iG [] t news=some news'):
  cF C ev f H n sp t d (.call ⟨.value (.func g),args,ats⟩) v' news':=
 Hl (eU h) (Mt he hv hn)
theorem sD {p:List Nat}{g:TypeId×Bool}{b8:Nat}{fz:Bool}{ts:List Tree}:iG [] t [(.loc p,.arr g b8 fz (ts.map .t))]=some [(.loc (t::p),.arr g b8 fz (ts.map .t))]:=by
 simp only[iG,lY,aV.rn,lR,Option.map_some]
theorem bw {σ:Nm→Option Nm}{g:TypeId×Bool}{b8:Nat}{fz:Bool}{ts:List Tree}:aV.rn σ (.arr g b8 fz (ts.map .t))=some (.arr g b8 fz (ts.map .t)):=by
 simp only[aV.rn,lR,Option.map_some]
theorem kZ {H:Heap}{n:Nat}{k:Nm}{g:TypeId}{ag fz:Bool}{sz len:Nat}{es es':List Tree}(hk:H.get k=some (.arr (g,ag) sz fz ((flat es).map .t)))(hu:cu ag sz es)(hz:0<sz)(hl:len=es.length)(he:es=es'):
  pV H (n+1) (.ref k 0 len)=some (.sl es',[k]):=by
 subst he
 exact Hp hk hu hz hl
theorem uQ {x:Operand}{v:Tree}(h:bL C n sp x=some (.t v)):kn C n sp [x]=some ([v].map .t):=by
 simp only[kn,h];rfl
theorem Oa {x y:Operand}{v u:Tree}(h:bL C n sp x=some (.t v))(h2:bL C n sp y=some (.t u)):kn C n sp [x,y]=some ([v,u].map .t):=by
 simp only[kn,h,h2];rfl
open Classical in
def ct1 (P:Tree→Prop)(res:Tree→bG):List TV→List aV→Option bG:=fun as' os=>match as',os with
 | [.t x],[]=>if P x then some (res x) else none
 |_,_=>none
open Classical in
def ct2 (P:Tree→Tree→Prop)(res:Tree→Tree→bG):List TV→List aV→Option bG:=fun as' os=>match as',os with
 | [.t x,.t y],[]=>if P x y then some (res x y) else none
 |_,_=>none
theorem abu {g:FuncId}{P:Tree→Prop}{res:Tree→bG}(h:∀x,P x→ay C g [.t x] [] (res x)):kY C g (ct1 P res):=by
  intro args aX r hr
  unfold ct1 at hr
  split at hr
  · split at hr
    · rename_i x hp;simp at hr;subst hr;exact h x hp
    · simp at hr
  · simp at hr
theorem SX {g:FuncId}{P:Tree→Tree→Prop}{res:Tree→Tree→bG}(h:∀x y,P x y→ay C g [.t x,.t y] [] (res x y)):kY C g (ct2 P res):=by
  intro args aX r hr
  unfold ct2 at hr
  split at hr
  · split at hr
    · rename_i x y hp;simp at hr;subst hr;exact h x y hp
    · simp at hr
  · simp at hr
theorem abv {g:FuncId}{P:Tree→Prop}{res:Tree→bG}{ev:aW}{x:Tree}(h:P x):nj g (ct1 P res) ev g [.t x] []=some (res x):=by
 simp only[nj,if_true,ct1,if_pos h]
theorem SY {g:FuncId}{P:Tree→Tree→Prop}{res:Tree→Tree→bG}{ev:aW}{x y:Tree}(h:P x y):nj g (ct2 P res) ev g [.t x,.t y] []=some (res x y):=by
 simp only[nj,if_true,ct2,if_pos h]
theorem ot {g k:FuncId}{s:List TV→List aV→Option bG}{ev:aW}{as':List TV}{os:List aV}{r:Option bG}(hne:(k==g)=false)(h:ev k as' os=r):nj g s ev k as' os=r:=by
 have:¬k=g:=by simpa using hne
 simp only[nj,if_neg this]
 exact h
end
end Go.Abs
end
