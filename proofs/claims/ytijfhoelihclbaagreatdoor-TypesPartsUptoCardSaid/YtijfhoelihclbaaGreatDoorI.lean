/- Sparse states: the slots of which something is known; one operation at a time. -/
import Derived.Test.YtijfhoelihclbaaGreatDoorF
noncomputable section
namespace Go.Abs
open Go
def look:List (Nat×TV)→Nat→TV
 | [],_=>.any
 |(j,v)::r,i=>bif Nat.beq i j then v else look r i
def bX (n:Nat)(sp:List (Nat×TV)):List TV:=(List.range n).map (look sp)
theorem eS (n:Nat)(sp:List (Nat×TV)):(bX n sp).length=n:=by simp[bX]
theorem kD {n:Nat}{sp:List (Nat×TV)}{i:Nat}(h:i<n):(bX n sp)[i]?=some (look sp i):=by
 simp[bX,h]
theorem RX {n:Nat}{sp:List (Nat×TV)}{i:Nat}(h:i<n):Ww (bX n sp) i=look sp i:=by
 rw[F6,List.getD_eq_getElem?_getD,kD h]
 rfl
theorem kP (i j:Nat)(v:TV)(sp:List (Nat×TV)):look ((j,v)::sp) i=if i=j then v else look sp i:=by
 show(bif Nat.beq i j then v else look sp i)=_
 cases hb:Nat.beq i j with
 |true=>rw[if_pos (Nat.eq_of_beq_eq_true hb)];rfl
 |false=>rw[if_neg (Nat.ne_of_beq_eq_false hb)];rfl
theorem RY (n:Nat)(sp:List (Nat×TV))(d:Nat)(v:TV):Wy v (bX n sp) d=bX n ((d,v)::sp):=by
  rw[uO]
  refine List.ext_getElem? fun i=> ?_
  rw[List.getElem?_set,eS]
  by_cases hi:i<n
  · have h1:(bX n ((d,v)::sp))[i]?=some (look ((d,v)::sp) i):=kD hi
    rw[h1,kP]
    by_cases e:d=i
    · subst e;simp[hi]
    · rw[if_neg e,if_neg (fun h=>e h.symm),kD hi]
  · have h1:(bX n ((d,v)::sp))[i]?=none:=by rw[List.getElem?_eq_none_iff,eS];omega
    rw[h1]
    by_cases e:d=i
    · subst e;simp[hi]
    · rw[if_neg e,List.getElem?_eq_none_iff,eS];omega
section
variable {C:dh}
def aal (sp:List (Nat×TV))(d:Option Tmp)(v:TV):List (Nat×TV):=match d with
 |some d=>(d,v)::sp
 |none=>sp
theorem eC (n:Nat)(sp:List (Nat×TV))(d:Option Tmp)(v:TV):eG (bX n sp) d v=bX n (aal sp d v):=by
 cases d with
 |none=>rfl
 |some d=>exact RY n sp d v
def bO (C:dh)(n:Nat)(sp:List (Nat×TV)):Operand→Option TV
 |.tmp t=>bif Nat.blt t n then some (look sp t) else none
 |.const v=>valOf v
 |.global g=>match C.iT g with
  |some cs=>some (.jL cs 0)
  |none=>none
 |.func f=>some (.t (.fn (.func f)))
theorem bL {n:Nat}{sp:List (Nat×TV)}{x:Operand}{v:TV}(h:bO C n sp x=some v):cU C (bX n sp) x=some v:=by
 cases x with
 | tmp t=>
  simp only[bO] at h
  cases hb:Nat.blt t n with
  |false=>rw[hb] at h;simp at h
  |true=>
   rw[hb] at h
   simp only[cond_true,Option.some.injEq] at h
   have:t<n:=by simpa [Nat.blt,Nat.succ_le_iff] using hb
   simp only[cU,RX this,h]
 |const v=>exact h
 |global g=>exact h
 |func f=>exact h
def lB (C:dh)(n:Nat)(sp:List (Nat×TV)):List Operand→Option (List TV)
 | []=>some []
 |x::r=>match bO C n sp x,lB C n sp r with
  |some v,some vs=>some (v::vs)
  |_,_=>none
theorem um {n:Nat}{sp:List (Nat×TV)}:∀{xs:List Operand} {vs:List TV},lB C n sp xs=some vs→jx C (bX n sp) xs=some vs:=by
 intro xs
 induction xs with
 |nil=>intro vs h;exact h
 |cons x r ih=>
  intro vs h
  simp only[lB] at h
  cases h1:bO C n sp x<;>cases h2:lB C n sp r<;>simp only[h1,h2,reduceCtorEq] at h
  simp only[jx,bL h1,ih h2]
  exact h
theorem Ff (S:List Nm)(sp sp':List (Nat×TV))(h:∀i,look sp' i=.any∨(look sp i).rn (IY S)=some (look sp' i)):∀(l:List Nat),into (IY S) (l.map (look sp)) (l.map (look sp'))
 | []=>trivial
 |i::l=>⟨h i,Ff S sp sp' h l⟩
def fits (S:List Nm)(sp:List (Nat×TV)):List (Nat×TV)→Prop
 | []=>True
 |(i,v)::r=>(look sp i).rn (IY S)=some v∧fits S sp r
theorem Fg {S:List Nm}{sp:List (Nat×TV)}:∀{sp':List (Nat×TV)},fits S sp sp'→∀i,look sp' i=.any∨(look sp i).rn (IY S)=some (look sp' i)
 | [],_,i=>.inl rfl
 |(j,v)::r,h,i=>by
  rw[kP]
  by_cases e:i=j
  · subst e;rw[if_pos rfl];exact .inr h.1
  · rw[if_neg e];exact Fg h.2 i
theorem Re.sp (S:List Nm){n:Nat}{sp sp':List (Nat×TV)}{H H':Heap}{t t':Nat}(h1:fits S sp sp')(h2:CA (IY S) H H')(hn:S.Nodup)(hl:S.all Nm.gy=true)(hS:∀k∈S,(H.get k).isSome=true)(ht:S.length≤t'):
  Re C ⟨bX n sp,H,t⟩ ⟨bX n sp',H',t'⟩:=
 Re.mk S (Ff S sp sp' (Fg h1) _) h2 hn hl hS ht
theorem Re.sq (S:List Nm){n:Nat}{sp sp':List (Nat×TV)}{H H':Heap}{t t':Nat}(h1:fits S sp sp')(h2:CA (IY S) H H')(hn:S.Nodup)(hl:S.all Nm.gy=true)(hS:S.all (fun k=>(H.get k).isSome)=true)(ht:S.length≤t'):
  Re C ⟨bX n sp,H,t⟩ ⟨bX n sp',H',t'⟩:=Re.sp S h1 h2 hn hl (fun k hk=>List.all_eq_true.1 hS k hk) ht
def same (sp:List (Nat×TV)):List (Nat×TV)→Prop
 | []=>True
 |(i,v)::r=>look sp i=v∧same sp r
theorem Fh {sp:List (Nat×TV)}:∀{sp':List (Nat×TV)},same sp sp'→∀i,look sp' i=.any∨look sp i=look sp' i
 | [],_,i=>.inl rfl
 |(j,v)::r,h,i=>by
  rw[kP]
  by_cases e:i=j
  · subst e;rw[if_pos rfl];exact .inr h.1
  · rw[if_neg e];exact Fh h.2 i
theorem cK.less {G:Gh}{xs ys:List TV}{vs:List Value}(h:cK G xs vs)(hl:ys.length=xs.length)(hh:∀(i:Nat) (x y:TV),xs[i]?=some x→ys[i]?=some y→y=.any∨x=y):cK G ys vs:=by
 refine⟨by rw[hl];exact h.1,fun j c v hc hv=> ?_⟩
 have hj:j<xs.length:=by rw[← hl];exact(List.getElem?_eq_some_iff.1 hc).1
 rcases hh j xs[j] c (List.getElem?_eq_getElem hj) hc with rfl|e
 · exact .any _
 · rw[← e];exact h.2 j _ v (List.getElem?_eq_getElem hj) hv
theorem Re.slots {n:Nat}{sp sp':List (Nat×TV)}{H:Heap}{t:Nat}(h:same sp sp'):Re C ⟨bX n sp,H,t⟩ ⟨bX n sp',H,t⟩:=by
 intro G0 w0 G w a h0 hs hst
 refine⟨G,hs,hst.wf,hst.iT,cK.less hst.slots (by simp[eS]) fun i x y hx hy=> ?_,hst.heap,hst.fresh⟩
 have hi:i<n:=by have:=(List.getElem?_eq_some_iff.1 hx).1;simpa [eS] using this
 simp only[kD hi,Option.some.injEq] at hx hy
 subst hx;subst hy
 exact Fh h i
theorem Re.heap {sl:List TV}{H H':Heap}{t:Nat}(h:∀k o,H'.get k=some o→H.get k=some o):Re C ⟨sl,H,t⟩ ⟨sl,H',t⟩:=
 fun G0 w0 G w a h0 hs hst=>⟨G,hs,hst.wf,hst.iT,hst.slots,fun k o hk=>hst.heap k o (h k o hk),hst.fresh⟩
def wq:Nat→List TV→List (Nat×TV)
 |_,[]=>[]
 |i,v::r=>(i,v)::wq (i+1) r
theorem CP:∀(l:List TV) (i j:Nat),i≤j→look (wq i l) j=.any∨l[j - i]?=some (look (wq i l) j)
  | [],_,_,_=>.inl rfl
  | v ::r,i,j,h=>by
    simp only[wq]
    rw[kP]
    by_cases e:j=i
    · subst e;simp
    · rw[if_neg e]
      have:=CP r (i+1) j (by omega)
      have e2:j - i=(j - (i+1))+1:=by omega
      rw[e2,List.getElem?_cons_succ]
      exact this
theorem Re.start (args:List TV)(k:Nat)(H:Heap)(t:Nat):Re C ⟨args++List.replicate k b8,H,t⟩ ⟨bX (args.length+k) (wq 0 args),H,t⟩:=by
  intro G0 w0 G w a h0 hs hst
  refine⟨G,hs,hst.wf,hst.iT,cK.less hst.slots (by simp[eS]) fun i x y hx hy=> ?_,hst.heap,hst.fresh⟩
  have hi:i<args.length+k:=by have:=(List.getElem?_eq_some_iff.1 hx).1;simpa using this
  rw[kD hi,Option.some.injEq] at hy
  subst hy
  rcases CP args 0 i (Nat.zero_le _) with h|h
  · exact .inl h
  · right
    rw[Nat.sub_zero] at h
    have hl:=(List.getElem?_eq_some_iff.1 h).1
    rw[List.getElem?_append_left hl,h] at hx
    exact(Option.some.inj hx).symm
end
end Go.Abs
end

noncomputable section
namespace Go.Abs
open Go
section
variable {C:dh}{ev:aS}{f:FuncId}{ops:Array Oper}{Q:aV→St→Prop}{n:Nat}{sp:List (Nat×TV)}{H:Heap}{t:Nat}{r:List Oper}
def cq (C:dh)(ev:aS)(f:FuncId)(H:Heap)(n:Nat)(sp:List (Nat×TV))(t:Nat)(d:Option Tmp)(op:Op)(v:TV)(u:Heap):Prop:=
 ∀ty pos af g,aX C ev f H (bX n sp) t ⟨d,op,ty,pos,af,g⟩=some (.val v u)
theorem eH.go {d:Tmp}{op:Op}{ty pos af}{v:TV}{u:Heap}(ai:aF C ev)(h:cq C ev f H n sp t (some d) op v u)(k:eH C ops r ⟨bX n ((d,v)::sp),H.dJ u,t+1⟩ Q):
  eH C ops (⟨some d,op,ty,pos,af,none⟩::r) ⟨bX n sp,H,t⟩ Q:=by
 refine eH.step ai rfl (h _ _ _ _) ?_
 rw[eC]
 exact k
theorem eH.qd {op:Op}{ty pos af}{v:TV}{u:Heap}(ai:aF C ev)(h:cq C ev f H n sp t none op v u)(k:eH C ops r ⟨bX n sp,H.dJ u,t+1⟩ Q):
  eH C ops (⟨none,op,ty,pos,af,none⟩::r) ⟨bX n sp,H,t⟩ Q:=by
 refine eH.step ai rfl (h _ _ _ _) ?_
 rw[eC]
 exact k
def gv (g:Bool)(v:TV):TV:=bif g then v else b8
theorem cr {g:Bool}{x:Operand}{v:TV}(hg:g=true)(h:bO C n sp x=some (gv g v)):bO C n sp x=some v:=by
 subst hg;exact h
theorem jO {j gd:Nat}{w:Bool}{o:Oper}(ho:o.guard=some (j,w))(hj:(ops[j]?).bind (·.dst)=some gd)(hn:Nat.blt gd n=true):
  dF ops (bX n sp) o=match look sp gd with|.t (.bool b)=>some (b==w)|.t (.bN [])=>some false|_=>none:=by
 have:gd<n:=by simpa [Nat.blt,Nat.succ_le_iff] using hn
 unfold dF
 simp only[ho,hj,kD this]
 generalize look sp gd=x
 cases x with
 |t y=>cases y with
  |bN vs=>cases vs<;>rfl
  |_=>rfl
 |_=>rfl
theorem eH.guarded {d:Tmp}{op:Op}{ty pos af}{j gd:Nat}{w:Bool}{b g:Bool}{v:TV}(ai:aF C ev)(hj:(ops[j]?).bind (·.dst)=some gd)(hn:Nat.blt gd n=true)
    (hl:(look sp gd=.t (.bool b)∧g=(b==w))∨∃g1,look sp gd=gv g1 (.t (.bool b))∧g=(g1&&(b==w)))
    (h:g=true→cq C ev f H n sp t (some d) op v [])(k:eH C ops r ⟨bX n ((d,gv g v)::sp),H,t+1⟩ Q):eH C ops (⟨some d,op,ty,pos,af,some (j,w)⟩::r) ⟨bX n sp,H,t⟩ Q:=by
  have hw:dF ops (bX n sp) ⟨some d,op,ty,pos,af,some (j,w)⟩=some g:=by
    rcases hl with ⟨hl,rfl⟩|⟨g1,hl,rfl⟩
    · rw[jO rfl hj hn,hl]
    · rw[jO rfl hj hn,hl]
      cases g1<;>rfl
  cases g with
  | true=>
    refine eH.step ai hw (h rfl _ _ _ _) ?_
    rw[eC]
    exact k
  | false=>
    refine eH.unwanted hw ?_
    rw[eC]
    exact k
theorem eH.gT {d:Tmp}{op:Op}{ty pos af}{j gd:Nat}{b:Bool}{v:TV}(ai:aF C ev)(hj:(ops[j]?).bind (·.dst)=some gd)(hn:Nat.blt gd n=true)(hl:look sp gd=.t (.bool b))
  (h:b=true→cq C ev f H n sp t (some d) op v [])(k:eH C ops r ⟨bX n ((d,gv b v)::sp),H,t+1⟩ Q):eH C ops (⟨some d,op,ty,pos,af,some (j,true)⟩::r) ⟨bX n sp,H,t⟩ Q:=
 eH.guarded ai hj hn (.inl ⟨hl,by cases b<;>rfl⟩) h k
theorem eH.gF {d:Tmp}{op:Op}{ty pos af}{j gd:Nat}{b:Bool}{v:TV}(ai:aF C ev)(hj:(ops[j]?).bind (·.dst)=some gd)(hn:Nat.blt gd n=true)(hl:look sp gd=.t (.bool b))
  (h:(!b)=true→cq C ev f H n sp t (some d) op v [])(k:eH C ops r ⟨bX n ((d,gv (!b) v)::sp),H,t+1⟩ Q):eH C ops (⟨some d,op,ty,pos,af,some (j,false)⟩::r) ⟨bX n sp,H,t⟩ Q:=
 eH.guarded ai hj hn (.inl ⟨hl,by cases b<;>rfl⟩) h k
theorem eH.nF {d:Tmp}{op:Op}{ty pos af}{j gd:Nat}{b g:Bool}{v:TV}(ai:aF C ev)(hj:(ops[j]?).bind (·.dst)=some gd)(hn:Nat.blt gd n=true)(hl:look sp gd=gv g (.t (.bool b)))
  (h:(g&& !b)=true→cq C ev f H n sp t (some d) op v [])(k:eH C ops r ⟨bX n ((d,gv (g&& !b) v)::sp),H,t+1⟩ Q):eH C ops (⟨some d,op,ty,pos,af,some (j,false)⟩::r) ⟨bX n sp,H,t⟩ Q:=
 eH.guarded ai hj hn (.inr ⟨g,hl,by cases b<;>rfl⟩) h k
variable {d:Option Tmp}
theorem ak {x:Operand}{v:TV}(h:bO C n sp x=some v):cq C ev f H n sp t d (.move x) v []:=fun _ _ _ _=>by
 simp only[aX,evalOp,bL h,vQ,Option.map_some]
theorem aj {x:Operand}{v:TV}(h:bO C n sp x=some v):cq C ev f H n sp t d (.assign x) v []:=fun _ _ _ _=>by
 simp only[aX,evalOp,bL h,vQ,Option.map_some]
theorem kz {x:Operand}{v:Tree}(h:bO C n sp x=some (.t v)):cq C ev f H n sp t d (.move x) (.t v) []:=ak h
theorem fE {x:Operand}{v:Tree}(h:bO C n sp x=some (.t v)):cq C ev f H n sp t d (.assign x) (.t v) []:=aj h
theorem gO {c x y:Operand}{b:Bool}{u v:TV}(hc:bO C n sp c=some (.t (.bool b)))(hx:bO C n sp x=some u)(hy:bO C n sp y=some v):cq C ev f H n sp t d (.pick c x y) (if b then u else v) []:=fun _ _ _ _=>by
 simp only[aX,evalOp,bL hc,bL hx,bL hy]
theorem l7 {c x:Operand}{b y g:Bool}(hc:bO C n sp c=some (.t (.bool b)))(hx:bO C n sp x=some (gv g (.t (.bool y))))(hg:b=true→g=true):cq C ev f H n sp t d (.pick c x (.const (.bool false))) (.t (.bool (b&&y))) []:=fun _ _ _ _=>by
 simp only[aX,evalOp,bL hc,bL hx]
 cases b with
 |true=>have:=hg rfl;subst this;rfl
 |false=>rfl
theorem adI {c x:Operand}{b y g:Bool}(hc:bO C n sp c=some (.t (.bool b)))(hx:bO C n sp x=some (gv g (.t (.bool y))))(hg:b=false→g=true):cq C ev f H n sp t d (.pick c (.const (.bool true)) x) (.t (.bool (b||y))) []:=fun _ _ _ _=>by
 simp only[aX,evalOp,bL hc,bL hx]
 cases b with
 |false=>have:=hg rfl;subst this;rfl
 |true=>rfl
theorem vH {ty:TypeId}{x:Operand}{b:Bool}(h:bO C n sp x=some (.t (.bool b))):cq C ev f H n sp t d (.unOp .not ty x) (.t (.bool (!b))) []:=fun _ _ _ _=>by
 simp only[aX,evalOp,bL h]
 cases b<;>rfl
theorem Fi {elem:TypeId}{x:Operand}{v:TV}(h:bO C n sp x=some v)(hl:v.cells.all TV.leaf=true):cq C ev f H n sp t d (.box elem x) (.ptr (.loc [t]) 0) [(.loc [t],.cells elem v.cells)]:=fun _ _ _ _=>by
 simp only[aX,evalOp,bL h,hl,if_true]
theorem ic {elem:TypeId}{ti:TI}{z:TV}(ht:C.P.ty elem=some ti)(hz:ti.zero=some z)(hl:z.cells.all TV.leaf=true):cq C ev f H n sp t d (.alloc elem) (.ptr (.loc [t]) 0) [(.loc [t],.cells elem z.cells)]:=fun _ _ _ _=>by
 simp only[aX,evalOp,bf,ht,hz,hl,if_true]
theorem bg {ty:TypeId}{x:Operand}{a v:TV}(h:bO C n sp x=some a)(hl:loadT C.P H ty a=some v):cq C ev f H n sp t d (.load ty x) v []:=fun _ _ _ _=>by
 simp only[aX,evalOp,bL h,hl,vQ,Option.map_some]
theorem cD {ty:TypeId}{x:Operand}{a:TV}{v:Tree}(h:bO C n sp x=some a)(hl:loadT C.P H ty a=some (.t v)):cq C ev f H n sp t d (.load ty x) (.t v) []:=bg h hl
theorem ld {P:kK}{ty:TypeId}{ti:TI}{a v:TV}{cs:List TV}{off:Nat}(ht:P.ty ty=some ti)(hc:rW H a=some (cs,off))(hp:partT ti.agg ti.size cs off=some v):loadT P H ty a=some v:=by
 simp only[loadT,bf,ht,hc,hp]
theorem sx {P:kK}{ty:TypeId}{ti:TI}{x:TV}{k:Nm}{off:Nat}{g:TypeId}{cs:List TV}(ht:P.ty ty=some ti)(hc:H.get k=some (.cells g cs))(hl:(decide (x.cells.length=ti.size)&&x.cells.all TV.leaf&&decide (off+ti.size≤cs.length))=true):
  storeT P H ty (.ptr k off) x=some [(k,.cells g (dM cs off x.cells))]:=by
 simp only[Bool.and_eq_true,decide_eq_true_eq] at hl
 obtain⟨⟨h1,h2⟩,h3⟩:=hl
 simp only[storeT,bf,ht,h1,h2,hc,h3,and_self,if_true]
theorem bT {ty:TypeId}{x y:Operand}{a v:TV}{u:Heap}(h:bO C n sp x=some a)(h2:bO C n sp y=some v)(hl:storeT C.P H ty a v=some u):cq C ev f H n sp t d (.store ty x y) b8 u:=fun _ _ _ _=>by
 simp only[aX,evalOp,bL h,bL h2,hl,xg,Option.map_some]
def fN (P:kK)(s i:Nat):Option Nat:=match bf P s with
 | some ti=>match ti.desc with
  | .struct fs=>match fs[i]? with
   |some fd=>match bf P fd.type with
    |some tf=>if tf.size=0 then none else some fd.offset
    |none=>none
   |none=>none
  |_=>none
 |none=>none
theorem aD {s i off:Nat}{x:Operand}{a v:TV}(h:bO C n sp x=some a)(ho:fN C.P s i=some off)(hp:ov H a off=some v):cq C ev f H n sp t d (.fieldAddr s x i) v []:=fun _ _ _ _=>by
 unfold fN at ho
 split at ho<;>try (simp at ho;done)
 rename_i ti Ge
 split at ho<;>try (simp at ho;done)
 rename_i fs hfs
 split at ho<;>try (simp at ho;done)
 rename_i fd WT
 split at ho<;>try (simp at ho;done)
 rename_i tf Rn
 split at ho<;>try (simp at ho;done)
 rename_i hz
 simp at ho
 subst ho
 simp only[aX,evalOp,bL h,Ge,hfs,WT,Rn,if_neg hz,hp,vQ,Option.map_some]
theorem AV {ty:TypeId}{x i:Operand}{a j v:TV}(h:bO C n sp x=some a)(hi:bO C n sp i=some j)(hv:eN C.P H ty a j=some v):cq C ev f H n sp t d (.indexAddr ty x i) v []:=fun _ _ _ _=>by
 simp only[aX,evalOp,bL h,bL hi,hv,vQ,Option.map_some]
theorem WU {ty:TypeId}{x i:Operand}{a j v:TV}(h:bO C n sp x=some a)(hi:bO C n sp i=some j)(hv:ox C.P ty a j=some v):cq C ev f H n sp t d (.index ty x i) v []:=fun _ _ _ _=>by
 simp only[aX,evalOp,bL h,bL hi,hv,vQ,Option.map_some]
theorem dK {x:Operand}{i:Nat}{a v:TV}(h:bO C n sp x=some a)(hv:xe a i=some v):cq C ev f H n sp t d (.extract x i) v []:=fun _ _ _ _=>by
 simp only[aX,evalOp,bL h,hv,vQ,Option.map_some]
theorem fu {op:BinOp}{ty r2:TypeId}{x y:Operand}{a b v:TV}(h:bO C n sp x=some a)(h2:bO C n sp y=some b)(hv:F4 C.P op ty x y a b=some v):cq C ev f H n sp t d (.binOp op ty x y r2) v []:=fun _ _ _ _=>by
 simp only[aX,evalOp,bL h,bL h2,hv,vQ,Option.map_some]
theorem wrap64 {x:Int}(h1:-9223372036854775808≤x)(h2:x≤9223372036854775807):IntKind.i64.wrap x=x:=by
 simp only[IntKind.wrap,IntKind.bits,IntKind.signed]
 first|omega|(simp;omega)
theorem qf {op:BinOp}{ty r2:TypeId}{x y:Operand}{k:IntKind}{a b:Int}{v:TV}(h:bO C n sp x=some (.t (.int k a)))(h2:bO C n sp y=some (.t (.int k b)))(hv:O2 op k a b=some v):cq C ev f H n sp t d (.binOp op ty x y r2) v []:=
 fu h h2 (by simp only[F4,if_true,hv])
theorem fT {ty r2:TypeId}{x y:Operand}{k:IntKind}{a b:Int}(h:bO C n sp x=some (.t (.int k a)))(h2:bO C n sp y=some (.t (.int k b))):cq C ev f H n sp t d (.binOp .eql ty x y r2) (.t (.bool (a==b))) []:=qf h h2 rfl
theorem RZ {ty r2:TypeId}{x y:Operand}{k:IntKind}{a b:Int}(h:bO C n sp x=some (.t (.int k a)))(h2:bO C n sp y=some (.t (.int k b))):cq C ev f H n sp t d (.binOp .neq ty x y r2) (.t (.bool (a != b))) []:=qf h h2 rfl
theorem gi {ty r2:TypeId}{x y:Operand}{k:IntKind}{a b:Int}(h:bO C n sp x=some (.t (.int k a)))(h2:bO C n sp y=some (.t (.int k b))):cq C ev f H n sp t d (.binOp .lss ty x y r2) (.t (.bool (decide (a<b)))) []:=qf h h2 rfl
theorem I4 {ty r2:TypeId}{x y:Operand}{k:IntKind}{a b:Int}(h:bO C n sp x=some (.t (.int k a)))(h2:bO C n sp y=some (.t (.int k b))):cq C ev f H n sp t d (.binOp .leq ty x y r2) (.t (.bool (decide (a≤b)))) []:=qf h h2 rfl
theorem Fj {ty r2:TypeId}{x y:Operand}{k:IntKind}{a b:Int}(h:bO C n sp x=some (.t (.int k a)))(h2:bO C n sp y=some (.t (.int k b))):cq C ev f H n sp t d (.binOp .gtr ty x y r2) (.t (.bool (decide (a>b)))) []:=qf h h2 rfl
theorem Fk {ty r2:TypeId}{x y:Operand}{k:IntKind}{a b:Int}(h:bO C n sp x=some (.t (.int k a)))(h2:bO C n sp y=some (.t (.int k b))):cq C ev f H n sp t d (.binOp .geq ty x y r2) (.t (.bool (decide (a≥b)))) []:=qf h h2 rfl
theorem jP {ty r2:TypeId}{x y:Operand}{a b:Int}(h:bO C n sp x=some (.t (.int .i64 a)))(h2:bO C n sp y=some (.t (.int .i64 b)))(h3:-9223372036854775808≤a+b)(h4:a+b≤9223372036854775807):cq C ev f H n sp t d (.binOp .add ty x y r2) (.t (.int .i64 (a+b))) []:=
 qf h h2 (by simp only[O2,wrap64 h3 h4])
theorem WV {ty r2:TypeId}{x y:Operand}{a b:Int}(h:bO C n sp x=some (.t (.int .i64 a)))(h2:bO C n sp y=some (.t (.int .i64 b)))(h3:-9223372036854775808≤a - b)(h4:a - b≤9223372036854775807):cq C ev f H n sp t d (.binOp .sub ty x y r2) (.t (.int .i64 (a - b))) []:=
 qf h h2 (by simp only[O2,wrap64 h3 h4])
theorem R4 {ty r2:TypeId}{x y:Operand}{a b:List UInt8}(h:bO C n sp x=some (.t (.str a)))(h2:bO C n sp y=some (.t (.str b))):cq C ev f H n sp t d (.binOp .eql ty x y r2) (.t (.bool (a==b))) []:=fu h h2 rfl
theorem YN {ty r2:TypeId}{x y:Operand}{a b:List UInt8}(h:bO C n sp x=some (.t (.str a)))(h2:bO C n sp y=some (.t (.str b))):cq C ev f H n sp t d (.binOp .neq ty x y r2) (.t (.bool (!(a==b)))) []:=fu h h2 rfl
theorem adJ {ty r2:TypeId}{x y:Operand}{a b:List UInt8}(h:bO C n sp x=some (.t (.str a)))(h2:bO C n sp y=some (.t (.str b))):cq C ev f H n sp t d (.binOp .geq ty x y r2) (.t (.bool (!(iP a b)))) []:=fu h h2 rfl
theorem qE {ty:TypeId}{x:Operand}{s:List UInt8}{ti:TI}(h:bO C n sp x=some (.t (.str s)))(ht:C.P.ty ty=some ti)(hd:ti.desc=.string):cq C ev f H n sp t d (.call ⟨.builtin .len, #[x], #[ty]⟩) (.t (.int .i64 s.length)) []:=fun _ _ _ _=>by
 have h1:jx C (bX n sp) (#[x].toList)=some [.t (.str s)]:=by simp only[jx,bL h]
 simp only[aX,evalOp,h1]
 delta mU
 simp only[bf,ht,hd]
theorem Gw {ty e:TypeId}{x:Operand}{v:TV}{m:Nat}{ti:TI}(h:bO C n sp x=some v)(ht:C.P.ty ty=some ti)(hd:ti.desc=.slice e)(hl:xb H v=some m)(h1:∀s,v≠ .t (.str s))(h2:v≠ .t .gN)(h3:∀k,v≠ .map k):
  cq C ev f H n sp t d (.call ⟨.builtin .len, #[x], #[ty]⟩) (.t (.int .i64 m)) []:=fun _ _ _ _=>by
 have h4:jx C (bX n sp) (#[x].toList)=some [v]:=by simp only[jx,bL h]
 simp only[aX,evalOp,h4]
 delta mU
 simp only[bf,ht,hd]
 cases v with
 |t x=>cases x with
  |str s=>exact absurd rfl (h1 s)
  |gN=>exact absurd rfl h2
  |_=>simp only[hl];rfl
 |map k=>exact absurd rfl (h3 k)
 |_=>simp only[hl];rfl
theorem gh {ty e:TypeId}{x:Operand}{es:List Tree}{ti:TI}(h:bO C n sp x=some (.t (.sl es)))(ht:C.P.ty ty=some ti)(hd:ti.desc=.slice e):cq C ev f H n sp t d (.call ⟨.builtin .len, #[x], #[ty]⟩) (.t (.int .i64 es.length)) []:=
 Gw h ht hd rfl (fun _=>by simp) (by simp) (fun _=>by simp)
theorem wu {ty e:TypeId}{x:Operand}{k:Nm}{o l:Nat}{ti:TI}(h:bO C n sp x=some (.ref k o l))(ht:C.P.ty ty=some ti)(hd:ti.desc=.slice e):cq C ev f H n sp t d (.call ⟨.builtin .len, #[x], #[ty]⟩) (.t (.int .i64 l)) []:=
 Gw h ht hd rfl (fun _=>by simp) (by simp) (fun _=>by simp)
theorem CQ {ty e:TypeId}{x:Operand}{ti:TI}(h:bO C n sp x=some .bl)(ht:C.P.ty ty=some ti)(hd:ti.desc=.slice e):cq C ev f H n sp t d (.call ⟨.builtin .len, #[x], #[ty]⟩) (.t (.int .i64 (0:Nat))) []:=
 Gw h ht hd rfl (fun _=>by simp) (by simp) (fun _=>by simp)
theorem CR {ty e:TypeId}{x:Operand}{es:List Tree}{ti:TI}(h:bO C n sp x=some (.k5 es))(ht:C.P.ty ty=some ti)(hd:ti.desc=.slice e):cq C ev f H n sp t d (.call ⟨.builtin .len, #[x], #[ty]⟩) (.t (.int .i64 es.length)) []:=
 Gw h ht hd rfl (fun _=>by simp) (by simp) (fun _=>by simp)
theorem uT {b:Builtin}{args:Array Operand}{ats:Array TypeId}{vs:List TV}{v:TV}{u:Heap}(h:lB C n sp args.toList=some vs)(hv:mU C (.loc [t]) H b ats.toList vs=some (v,u)):cq C ev f H n sp t d (.call ⟨.builtin b,args,ats⟩) v u:=fun _ _ _ _=>by
 simp only[aX,evalOp,um h,hv]
theorem Fl {k:IntKind}{x y:Operand}{a b:Int}{ats:Array TypeId}(h:bO C n sp x=some (.t (.int k a)))(h2:bO C n sp y=some (.t (.int k b))):cq C ev f H n sp t d (.call ⟨.builtin .max, #[x,y],ats⟩) (.t (.int k (max a b))) []:=by
 refine uT (vs:=[.t (.int k a),.t (.int k b)]) (by simp only[lB,h,h2]) ?_
 show vQ (iU true [.t (.int k a),.t (.int k b)])=_
 simp only[iU,iU.jy,if_true,vQ,List.foldl_cons,List.foldl_nil,Option.map_some]
 rw[show(if b>a then b else a)=max a b from by rw[Int.max_def];split<;>split<;>omega]
theorem fO {ty elem:TypeId}{ti te:TI}{x i:Operand}{es:List Tree}{k:IntKind}{m:Nat}{e:Tree}(h:bO C n sp x=some (.t (.sl es)))(hi:bO C n sp i=some (.t (.int k (m:Int))))(ht:C.P.ty ty=some ti)(hd:ti.desc=.slice elem)
  (hte:C.P.ty elem=some te)(he:es[m]?=some e)(hc:e.cells.length=te.size):cq C ev f H n sp t d (.indexAddr ty x i) (.jL e.cells 0) []:=
 AV h hi (by
  have h1:fh (.t (.int k (m:Int)))=some m:=by simp[fh]
  simp only[eN,bf,ht,h1,hd,hte,he,hc,if_true])
theorem gP {ty:TypeId}{ti:TI}{x i:Operand}{s:List UInt8}{k:IntKind}{m:Nat}{b:UInt8}(h:bO C n sp x=some (.t (.str s)))(hi:bO C n sp i=some (.t (.int k (m:Int))))(ht:C.P.ty ty=some ti)(hd:ti.desc=.string)
  (he:s[m]?=some b):cq C ev f H n sp t d (.index ty x i) (.t (.int .u8 b.toNat)) []:=
 WU h hi (by
  have h1:fh (.t (.int k (m:Int)))=some m:=by simp[fh]
  simp only[ox,bf,ht,h1,hd,he])
theorem Gx {fo:Operand}{args:Array Operand}{ats:Array TypeId}{g:FuncId}{alS:List TV}{v:TV}{u:Heap}(hc:jm C (bX n sp) ⟨.value fo,args,ats⟩=some (g,alS))(he:oD ev H g alS t=some (.val v u)):cq C ev f H n sp t d (.call ⟨.value fo,args,ats⟩) v u:=fun _ _ _ _=>by
 simp only[aX,hc,he]
theorem eD {g:FuncId}{args:Array Operand}{ats:Array TypeId}{alS:List TV}(h:lB C n sp args.toList=some alS):jm C (bX n sp) ⟨.value (.func g),args,ats⟩=some (g,alS):=by
 simp only[jm,cU,um h]
theorem qF (H:Heap):∀(ts:List Tree),iV H (ts.map .t)=(ts.map .t,[])
 | []=>rfl
 |x::r=>by
  simp only[List.map_cons,iV,qF H r]
  rfl
theorem qg:∀(ts:List Tree),TV.jZ (ts.map .t)=[]
 | []=>rfl
 |x::r=>by simp only[List.map_cons,TV.jZ,TV.names,qg r,List.append_nil]
theorem kQ (σ:Nm→Option Nm):∀(ts:List Tree),TV.vR σ (ts.map .t)=some (ts.map .t)
 | []=>rfl
 |x::r=>by simp only[List.map_cons,TV.vR,TV.rn,kQ σ r]
theorem AY {g:FuncId}{ts:List Tree}{x:Tree}(he:ev g (ts.map .t) []=some (.ret (.t x) [] [])):oD ev H g (ts.map .t) t=some (.val (.t x) []):=by
 unfold oD
 simp only[qF,qg]
 have h1:reach (H.dJ (cZ H [])) fD [] []=some []:=rfl
 rw[h1]
 simp only[List.nodup_nil,if_true,kQ,jf,he]
 rfl
theorem bU {g:FuncId}{args:Array Operand}{ats:Array TypeId}{ts:List Tree}{x:Tree}(h:lB C n sp args.toList=some (ts.map .t))(he:ev g (ts.map .t) []=some (.ret (.t x) [] [])):cq C ev f H n sp t d (.call ⟨.value (.func g),args,ats⟩) (.t x) []:=
 Gx (eD h) (AY he)
end
end Go.Abs
end

noncomputable section
namespace Go.Abs
open Go
section
variable {C:dh}{ev:aS}{f:FuncId}
theorem kR {s s':List TV}:∀{l:List Operand},(∀x∈l,cU C s' x=cU C s x)→jx C s' l=jx C s l
 | [],_=>rfl
 |x::r,h=>by
  simp only[jx,h x List.mem_cons_self,kR (l:=r) fun y hy=>h y (List.mem_cons_of_mem _ hy)]
theorem sy {s s':List TV}:∀{l:List (Nat×Operand)},(∀x∈l.map (·.2),cU C s' x=cU C s x)→kA C s' l=kA C s l
 | [],_=>rfl
 |(i,x)::r,h=>by
  simp only[kA,h x (by simp),sy (l:=r) fun y hy=>h y (by simp only[List.map_cons,List.mem_cons];exact .inr hy)]
theorem sB {s s':List TV}{o:Option Operand}(h:∀x∈o.toArray.toList,cU C s' x=cU C s x):rX C s' o=rX C s o:=by
 cases o with
 |none=>rfl
 |some x=>simp only[rX,h x (by simp)]
set_option maxHeartbeats 1000000 in
theorem Gy {nm:Nm}{H:Heap}{s s':List TV}{o:Oper}(h:∀x∈o.op.operands.toList,cU C s' x=cU C s x):evalOp C f nm H s' o=evalOp C f nm H s o:=by
 obtain⟨d,op,ty,pos,af,g⟩:=o
 cases op with
 |move x=>simp only[evalOp,h x (by simp[Op.operands])]
 |assign x=>simp only[evalOp,h x (by simp[Op.operands])]
 |pick c a b=>simp only[evalOp,h c (by simp[Op.operands]),h a (by simp[Op.operands]),h b (by simp[Op.operands])]
 |alloc t=>rfl
 |box t x=>simp only[evalOp,h x (by simp[Op.operands])]
 |build t ps=>
  have:=sy (C:=C) (s:=s) (s':=s') (l:=ps.toList) (fun x hx=>h x (by simpa [Op.operands] using hx))
  simp only[evalOp,this]
 |buildSlice t n ps=>
  have:=sy (C:=C) (s:=s) (s':=s') (l:=ps.toList) (fun x hx=>h x (by simpa [Op.operands] using hx))
  simp only[evalOp,this]
 |insert t m k v=>simp only[evalOp,h m (by simp[Op.operands]),h k (by simp[Op.operands]),h v (by simp[Op.operands])]
 |load t x=>simp only[evalOp,h x (by simp[Op.operands])]
 |store t a v=>simp only[evalOp,h a (by simp[Op.operands]),h v (by simp[Op.operands])]
 |nilCheck x=>simp only[evalOp,h x (by simp[Op.operands])]
 |binOp o t a v r=>simp only[evalOp,h a (by simp[Op.operands]),h v (by simp[Op.operands])]
 |unOp o t x=>simp only[evalOp,h x (by simp[Op.operands])]
 |convert a b x=>simp only[evalOp,h x (by simp[Op.operands])]
 |makeInterface t x=>simp only[evalOp,h x (by simp[Op.operands])]
 |makeFunc fn a b=>
  have h1:=kR (C:=C) (s:=s) (s':=s') (l:=a.toList) (fun x hx=>h x (by simp only[Op.operands,Array.toList_append,List.mem_append];exact .inl hx))
  have h2:=kR (C:=C) (s:=s) (s':=s') (l:=b.toList) (fun x hx=>h x (by simp only[Op.operands,Array.toList_append,List.mem_append];exact .inr hx))
  simp only[evalOp,h1,h2]
 |makeMap t r=>
  have:=sB (C:=C) (s:=s) (s':=s') (o:=r) (fun x hx=>h x (by simpa [Op.operands] using hx))
  simp only[evalOp,this]
 |makeSlice t a v=>simp only[evalOp,h a (by simp[Op.operands]),h v (by simp[Op.operands])]
 |slice t x l m k=>
  have h1:=sB (C:=C) (s:=s) (s':=s') (o:=l) (fun y hy=>h y (by simp only[Op.operands,Array.toList_append,List.mem_append];exact .inl (.inl (.inr hy))))
  have h2:=sB (C:=C) (s:=s) (s':=s') (o:=m) (fun y hy=>h y (by simp only[Op.operands,Array.toList_append,List.mem_append];exact .inl (.inr hy)))
  have h3:=sB (C:=C) (s:=s) (s':=s') (o:=k) (fun y hy=>h y (by simp only[Op.operands,Array.toList_append,List.mem_append];exact .inr hy))
  simp only[evalOp,h x (by simp[Op.operands]),h1,h2,h3]
 |fieldAddr t x i=>simp only[evalOp,h x (by simp[Op.operands])]
 |field t x i=>simp only[evalOp,h x (by simp[Op.operands])]
 |indexAddr t a v=>simp only[evalOp,h a (by simp[Op.operands]),h v (by simp[Op.operands])]
 |index t a v=>simp only[evalOp,h a (by simp[Op.operands]),h v (by simp[Op.operands])]
 |lookup t a v ok=>simp only[evalOp,h a (by simp[Op.operands]),h v (by simp[Op.operands])]
 |mapUpdate t m k v=>simp only[evalOp,h m (by simp[Op.operands]),h k (by simp[Op.operands]),h v (by simp[Op.operands])]
 |mapEntry t m k=>simp only[evalOp,h m (by simp[Op.operands]),h k (by simp[Op.operands])]
 |entryStore t m k v=>simp only[evalOp,h m (by simp[Op.operands]),h k (by simp[Op.operands]),h v (by simp[Op.operands])]
 |typeAssert x a b ok=>simp only[evalOp,h x (by simp[Op.operands])]
 |extract x i=>simp only[evalOp,h x (by simp[Op.operands])]
 | call c=>
  obtain⟨ce,args,ats⟩:=c
  cases ce with
  |builtin b=>
   have h1:=kR (C:=C) (s:=s) (s':=s') (l:=args.toList) (fun x hx=>h x (by simp only[Op.operands,Call.operands,Array.toList_append,List.mem_append];exact .inr hx))
   simp only[evalOp,h1]
  |value fo=>rfl
  |invoke r m=>rfl
 |_=>rfl
theorem I5 {H:Heap}{s s':List TV}{t:Nat}{o:Oper}(h:∀x∈o.op.operands.toList,cU C s' x=cU C s x):aX C ev f H s' t o=aX C ev f H s t o:=by
 have he:=Gy (C:=C) (f:=f) (nm:=.loc [t]) (H:=H) h
 obtain⟨d,op,ty,pos,af,g⟩:=o
 cases op with
 |panic x=>simp only[aX,h x (by simp[Op.operands])]
 | call c=>
  obtain⟨ce,args,ats⟩:=c
  cases ce with
  |value fo=>
   have h1:=kR (C:=C) (s:=s) (s':=s') (l:=args.toList) (fun x hx=>h x (by simp only[Op.operands,Call.operands,Array.toList_append,List.mem_append];exact .inr hx))
   have h2:cU C s' fo=cU C s fo:=h fo (by simp[Op.operands,Call.operands])
   simp only[aX,jm,h1,h2]
  |invoke r nm=>
   have h1:=kR (C:=C) (s:=s) (s':=s') (l:=args.toList) (fun x hx=>h x (by simp only[Op.operands,Call.operands,Array.toList_append,List.mem_append];exact .inr hx))
   have h2:cU C s' r=cU C s r:=h r (by simp[Op.operands,Call.operands])
   simp only[aX,BA,h1,h2]
  |_=>simp only[aX,he]
 |_=>simp only[aX,he]
theorem R5 {L:List Nat}{s:List TV}{x:Operand}(h:∀t,x=.tmp t→t∈L):cU C (j6 L 0 s) x=cU C s x:=by
 cases x with
 |tmp t=>
  have ht:=h t rfl
  simp only[cU,F6,List.getD_eq_getElem?_getD,qW,Nat.zero_add,if_pos ht]
 |_=>rfl
theorem CS {ops:Array Oper}{H:Heap}{s:List TV}{t:Nat}{o:Oper}:aX C ev f H (j6 (o.looksAt ops) 0 s) t o=aX C ev f H s t o:=
 I5 fun x hx=>R5 fun t e=>by
  subst e
  unfold Oper.looksAt
  refine List.mem_append_left _ (List.mem_filterMap.2 ⟨_,hx,rfl⟩)
theorem sC {ops:Array Oper}{s:List TV}{o:Oper}:dF ops (j6 (o.looksAt ops) 0 s) o=dF ops s o:=by
 unfold dF
 cases hg:o.guard with
 |none=>rfl
 | some g=>
  obtain⟨j,want⟩:=g
  simp only[]
  cases hd:(ops[j]?).bind (·.dst) with
  |none=>rfl
  | some d=>
   have hm:d∈o.looksAt ops:=by
    unfold Oper.looksAt
    refine List.mem_append_right _ ?_
    rw[hg]
    simp[hd]
   simp only[qW,Nat.zero_add,if_pos hm]
def tI (C:dh)(ev:aS)(f:FuncId)(ops:Array Oper)(bs:List Nat)(t0 i:Nat)(l:List Oper)(n:Nat)(sp:List (Nat×TV))(H:Heap)(K:List Rec→List (Nat×TV)→Heap→Prop):Prop:=
 ∃recs sp' H',Bg C ev f ops bs t0 i l ⟨bX n sp,H⟩ none=some recs∧xw l recs ⟨bX n sp,H⟩=⟨bX n sp',H'⟩∧(∀j,jo j recs=none)∧K recs sp' H'
section
variable {ops:Array Oper}{bs:List Nat}{t0 i n:Nat}{r:List Oper}{sp:List (Nat×TV)}{H:Heap}{K:List Rec→List (Nat×TV)→Heap→Prop}
theorem tI.nil (h:K [] sp H):tI C ev f ops bs t0 i [] n sp H K:=⟨[],sp,H,rfl,rfl,fun _=>rfl,h⟩
theorem tI.step {o:Oper}{fp:List Nm}{v:TV}{u:Heap}(hw:dF ops (bX n sp) o=some true)(Nj:O4 C H (bX n sp) o=some fp)(hx:aX C ev f (l5 H fp) (bX n sp) (t0+i) o=some (.val v u))
  (k:tI C ev f ops bs t0 (i+1) r n (aal sp o.dst v) (H.dJ u) fun rs sp' H'=>K (⟨fp,.val v u⟩::rs) sp' H'):tI C ev f ops bs t0 i (o::r) n sp H K:=by
 obtain⟨rs,sp',H',h1,h2,h3,h4⟩:=k
 refine⟨⟨fp,.val v u⟩::rs,sp',H', ?_, ?_,fun j=> ?_,h4⟩
 · simp only[Bg,Q9,sC,hw,Nj,CS,hx,Option.isSome_none,Bool.false_eq_true,decide_false,Bool.false_and,if_false,vv.after,eC,jA,h1]
 · simp only[xw,vv.after,eC,h2]
 · exact h3 (j+1)
theorem tI.skip {o:Oper}(hw:dF ops (bX n sp) o=some false)(k:tI C ev f ops bs t0 (i+1) r n (aal sp o.dst b8) H fun rs sp' H'=>K (⟨[],.unwanted⟩::rs) sp' H'):tI C ev f ops bs t0 i (o::r) n sp H K:=by
 obtain⟨rs,sp',H',h1,h2,h3,h4⟩:=k
 refine⟨⟨[],.unwanted⟩::rs,sp',H', ?_, ?_,fun j=> ?_,h4⟩
 · simp only[Bg,Q9,sC,hw,vv.after,eC,jA,h1]
 · simp only[xw,vv.after,eC,h2]
 · exact h3 (j+1)
theorem tI.go {d:Tmp}{op:Op}{ty pos af}{fp:List Nm}{v:TV}{u:Heap}(Nj:O4 C H (bX n sp) ⟨some d,op,ty,pos,af,none⟩=some fp)(h:cq C ev f (l5 H fp) n sp (t0+i) (some d) op v u)
  (k:tI C ev f ops bs t0 (i+1) r n ((d,v)::sp) (H.dJ u) fun rs sp' H'=>K (⟨fp,.val v u⟩::rs) sp' H'):tI C ev f ops bs t0 i (⟨some d,op,ty,pos,af,none⟩::r) n sp H K:=
 tI.step rfl Nj (h _ _ _ _) k
theorem tI.qd {op:Op}{ty pos af}{fp:List Nm}{v:TV}{u:Heap}(Nj:O4 C H (bX n sp) ⟨none,op,ty,pos,af,none⟩=some fp)(h:cq C ev f (l5 H fp) n sp (t0+i) none op v u)
  (k:tI C ev f ops bs t0 (i+1) r n sp (H.dJ u) fun rs sp' H'=>K (⟨fp,.val v u⟩::rs) sp' H'):tI C ev f ops bs t0 i (⟨none,op,ty,pos,af,none⟩::r) n sp H K:=
 tI.step rfl Nj (h _ _ _ _) k
theorem tI.yes {d:Tmp}{op:Op}{ty pos af}{j gd:Nat}{w b:Bool}{fp:List Nm}{v:TV}{u:Heap}(hj:(ops[j]?).bind (·.dst)=some gd)(hn:Nat.blt gd n=true)(hl:look sp gd=.t (.bool b))(hb:(b==w)=true)
  (Nj:O4 C H (bX n sp) ⟨some d,op,ty,pos,af,some (j,w)⟩=some fp)(h:cq C ev f (l5 H fp) n sp (t0+i) (some d) op v u)
  (k:tI C ev f ops bs t0 (i+1) r n ((d,v)::sp) (H.dJ u) fun rs sp' H'=>K (⟨fp,.val v u⟩::rs) sp' H'):tI C ev f ops bs t0 i (⟨some d,op,ty,pos,af,some (j,w)⟩::r) n sp H K:=
 tI.step (by rw[jO rfl hj hn,hl];simp only[hb]) Nj (h _ _ _ _) k
theorem tI.no {d:Tmp}{op:Op}{ty pos af}{j gd:Nat}{w b:Bool}(hj:(ops[j]?).bind (·.dst)=some gd)(hn:Nat.blt gd n=true)(hl:look sp gd=.t (.bool b))(hb:(b==w)=false)
  (k:tI C ev f ops bs t0 (i+1) r n ((d,b8)::sp) H fun rs sp' H'=>K (⟨[],.unwanted⟩::rs) sp' H'):tI C ev f ops bs t0 i (⟨some d,op,ty,pos,af,some (j,w)⟩::r) n sp H K:=
 tI.skip (by rw[jO rfl hj hn,hl];simp only[hb]) k
theorem tI.none {d:Tmp}{op:Op}{ty pos af}{j gd:Nat}{w:Bool}(hj:(ops[j]?).bind (·.dst)=some gd)(hn:Nat.blt gd n=true)(hl:look sp gd=b8)
  (k:tI C ev f ops bs t0 (i+1) r n ((d,b8)::sp) H fun rs sp' H'=>K (⟨[],.unwanted⟩::rs) sp' H'):tI C ev f ops bs t0 i (⟨some d,op,ty,pos,af,some (j,w)⟩::r) n sp H K:=
 tI.skip (by rw[jO rfl hj hn,hl];rfl) k
end
theorem AW.draw {id:Nat}{ops:Array Oper}{n t:Nat}{sp:List (Nat×TV)}{H:Heap}{Q:aV→St→Prop}(hm:C.P.prog.follows .mixedOrders=true)(ai:aF C ev)
  (h:tI C ev f ops (pY ops.toList []) t 0 ops.toList n sp H fun recs sp' H'=>kL ops ops.toList recs (pY ops.toList []) ops.toList recs 0=true∧tN 0 ops.toList=true∧Q .normal ⟨bX n sp',H',t+ops.size⟩):
  AW C (.region id ops true) ⟨bX n sp,H,t⟩ Q:=by
 obtain⟨recs,sp',H',h1,h2,h3,h4,h5,h6⟩:=h
 refine AW.drawn (ev:=ev) (f:=f) hm ai (e:=.normal) (st':=⟨bX n sp',H',t+ops.size⟩) ?_ h6
 unfold p7
 simp only[h1,h4,h5,and_self,if_true,h3,h2]
theorem eH.PJ {ops:Array Oper}{Q:aV→St→Prop}{n t:Nat}{sp:List (Nat×TV)}{H:Heap}{r:List Oper}{d:Tmp}{ty r2:TypeId}{x y:Operand}{tt pos af}{es:List Tree}{ti:TI}{e:TypeId}
    (hx:bO C n sp x=some (.t (.sl es)))(hy:bO C n sp y=some .bl)(ht:C.P.ty ty=some ti)(hd:ti.desc=.slice e)
    (k:∀b:Bool,(es≠ []→b=false)→eH C ops r ⟨bX n ((d,.t (.bool b))::sp),H,t+1⟩ Q):eH C ops (⟨some d,.binOp .eql ty x y r2,tt,pos,af,none⟩::r) ⟨bX n sp,H,t⟩ Q:=by
  intro G0 w0 G w a h0 hs hst R hR
  have h1:=bK hst.slots hst.iT (bL hx)
  have h2:=bK hst.slots hst.iT (bL hy)
  obtain⟨_,_,hu,_⟩:=bC (show bf C.P ty=some ti from ht)
  rw[hd] at hu
  obtain⟨ad,len,cap,ep,hne⟩:∃ad len cap,a.eval x=.slice ad len cap∧(es≠ []→ad.isNone=false):=by
    generalize a.eval x=p at h1
    cases h1 with|t _ _ h1=>cases h1 with
      |vO ad cap=>exact⟨_,_,_,rfl,fun h=>absurd rfl h⟩
      |sl=>exact⟨_,_,_,rfl,fun _=>rfl⟩
  have eq:a.eval y=.slice none 0 0:=by
    generalize a.eval y=q at h2
    cases h2;rfl
  have hrun:=(eV (x:=x) (y:=y) (p:=.slice ad len cap) (q:=.slice none 0 0) (C:=C) (w:=w) (t:=ty) (by intro z;simp) (by simp) rfl rfl (xC hu ad len cap 0 0)).1
  have hop:cW C.P (.loc [t]) ⟨some d,.binOp .eql ty x y r2,tt,pos,af,none⟩ a w G (.t (.bool ad.isNone)) []:=
    cW.quiet hst.wf (by simp only[execOp];rw[ep,eq];simp only[Sem.run_bind] at hrun ⊢;rw[hrun];rfl) (.t _ _ (.bool _))
  have kk:=k ad.isNone hne
  refine wpList_step fun K hK=> ?_
  rw[iz (G:=G) (show dF ops (bX n sp) ⟨some d,.binOp .eql ty x y r2,tt,pos,af,none⟩=some true from rfl) hst.slots]
  simp only[if_true]
  refine hop.exec.wp kM.no (fun z w' hr=> ?_) (fun ch w' hr=> ?_)
  · obtain⟨x',G',e1,hs',lT,hv⟩:=hr
    simp at e1;subst e1
    have:=hst.op (some d) hs' lT hv
    rw[eC] at this
    exact hK _ _ (kk G0 w0 G' w' _ h0 (dG.comp hs hs'.any) this R fun e st' _ _ _ h1 h2=>hR _ _ _ _ _ h1 (Good.acts (put_defers _ _ _) h2))
  · obtain⟨x',G',e1,_⟩:=hr
    simp at e1
def sD (C:dh)(fn:Func)(n:Nat)(st:St):Option bG:=
 match iW C st fn.results.toList with
 |none=>none
 | some vs=>match nA st.H 0 n with
  |none=>none
  |some os=>match reach st.H fD [] ((qO vs).names++os.flatMap aQ.names) with
   |none=>none
   |some R=>(j3 st.H R).map fun h=>.ret (qO vs) os h
theorem Lq {fn:Func}{n:Nat}{st:St}{a:Act}{r:bG}{G G0:Gh}{w w0:World}(h:sD C fn n st=some r)(hs:dG G0 w0 G w)(hst:w5 C G w st a):
    ∃v,(results fn a.tmps).run C.P w=.ok v w∧vw G0 w0 n r (.returned v) w:=by
  unfold sD at h
  split at h
  · simp at h
  rename_i vs hvs
  obtain⟨v,hv,hr⟩:=vZ hst hvs
  refine⟨v,hv, ?_⟩
  split at h
  · simp at h
  rename_i os hos
  split at h
  · simp at h
  rename_i R hR
  cases K6:j3 st.H R with
  |none=>rw[K6] at h;simp at h
  | some nw=>
    rw[K6] at h
    simp only[Option.map_some,Option.some.injEq] at h
    subst h
    obtain⟨e1,e2⟩:=ua hos
    refine⟨v,G,rfl,hs,e1,fun i o ho=> ?_,fun k o hm=> ?_,hr⟩
    · have:=e2 i o ho
      rw[Nat.zero_add] at this
      exact hst.heap _ _ this
    · obtain⟨e3,e4⟩:=qc K6 k o hm
      exact⟨e3,hst.heap _ _ e4⟩
def cv (C:dh)(fn:Func)(n:Nat)(r:bG):aV→St→Prop
 |.normal,st=>finish C fn n st=some r∨sD C fn n st=some r
 |.ret,st=>finish C fn n st=some r∨sD C fn n st=some r
 |.panic v,st=>v.names.any Nm.gy=false∧r=.panic v (p8 st.H 0 n)
 |_,_=>False
theorem aam {f:FuncId}{fn:Func}{body:Code}{args:List TV}{aR:List aQ}{r:bG}(Cy:C.P.fn f=some fn)(hbody:fn.body=some body)(hname:fn.name≠ "runtime.NumGoroutine")
    (h:AW C body ⟨args++List.replicate (fn.ntmps - args.length) b8,cH 0 aR,0⟩ (cv C fn aR.length r)):ay C f args aR r:=by
  intro G w vs hw hg had hH hv
  have hfn:=C.P.Q5 _ _ Cy
  have hst:w5 C G w ⟨args++List.replicate (fn.ntmps - args.length) b8,cH 0 aR,0⟩ {tmps:=vs.toArray++Array.replicate (fn.ntmps - vs.toArray.size) undef,defers:=[]}:=by
    refine⟨hw,hg, ?_,hH,fun p hp=>absurd hp (had.2 p)⟩
    have e:(vs.toArray++Array.replicate (fn.ntmps - vs.toArray.size) undef).toList=vs++List.replicate (fn.ntmps - args.length) undef:=by simp[hv.1]
    unfold SR
    rw[e]
    refine cK.append hv ⟨by simp,fun j c u hc hu=> ?_⟩
    rw[List.getElem?_replicate] at hc hu
    by_cases hl:j<fn.ntmps - args.length
    · rw[if_pos hl] at hc hu
      simp at hc hu;subst hc;subst hu;exact mX G
    · rw[if_neg hl] at hc;simp at hc
  have fin:∀{G':Gh} {w':World} {st:St} {a':Act},(finish C fn aR.length st=some r∨sD C fn aR.length st=some r)→dG G w G' w'→w5 C G' w' st a'→∃v,(results fn a'.tmps).run C.P w'=.ok v w'∧vw G w aR.length r (.returned v) w':=
    fun h hs hst=>h.elim (fun h=>zY h hs hst) (fun h=>Lq h hs hst)
  refine .inl ⟨?_,calls_of_wp hfn hbody ?_⟩
  · simp[callFunc,hfn,hname,hbody]
  · refine wp_mono (h G w G w _ had.2 (Step.refl hw _ _) hst) fun ex a' w' ⟨e,st,hq,hgd⟩=> ?_
    cases e with
    | normal=>
      obtain⟨G',hs,hd,rfl,nG⟩:=hgd
      exact⟨hd,fin hq hs nG⟩
    | ret=>
      obtain⟨G',hs,hd,rfl,nG⟩:=hgd
      exact⟨hd,fin hq hs nG⟩
    |exit id=>exact hq.elim
    | panic v=>
      obtain⟨_,rfl⟩:=hq
      obtain⟨G',hs,hd,x,rfl,hx,hH'⟩:=hgd
      refine⟨hd,x,G',rfl,hs,fun i o ho=> ?_,hx⟩
      have:=xT ho
      rw[Nat.zero_add] at this
      exact hH' _ _ this
theorem mD {f:FuncId}{fn:Func}{body:Code}{args:List TV}{aR:List aQ}{r:bG}(n k:Nat)(Cy:C.P.fn f=some fn)(hbody:fn.body=some body)(hname:fn.name≠ "runtime.NumGoroutine")
  (hn:fn.ntmps=n)(ha:args.length=k)(hk:k≤n)(h:AW C body ⟨bX n (wq 0 args),cH 0 aR,0⟩ (cv C fn aR.length r)):ay C f args aR r:=by
 refine aam Cy hbody hname (AW.re (Re.start args (fn.ntmps - args.length) _ _) ?_)
 rw[show args.length+(fn.ntmps - args.length)=n by omega]
 exact h
end
end Go.Abs
end

noncomputable section
namespace Go.Abs
open Go
def CT:Tree→Bool
 |.agg _=>true
 |_=>false
def EOk (ag:Bool)(sz:Nat)(e:Tree):Prop:=e.cells.length=sz∧e.cells.all Tree.leaf=true∧CT e=ag
def fA (ag:Bool)(sz:Nat)(es:List Tree):Prop:=∀e∈es,EOk ag sz e
theorem fA.nil {ag:Bool}{sz:Nat}:fA ag sz []:=fun _ h=>by simp at h
theorem fA.cons {ag:Bool}{sz:Nat}{e:Tree}{es:List Tree}(h:EOk ag sz e)(hs:fA ag sz es):fA ag sz (e::es):=fun x hx=>by
 rcases List.mem_cons.1 hx with rfl|hx
 · exact h
 · exact hs x hx
theorem fA.append {ag:Bool}{sz:Nat}{a b:List Tree}(h:fA ag sz a)(k:fA ag sz b):fA ag sz (a++b):=fun x hx=>(List.mem_append.1 hx).elim (h x) (k x)
theorem fA.take {ag:Bool}{sz:Nat}{a:List Tree}(h:fA ag sz a)(n:Nat):fA ag sz (a.take n):=fun x hx=>h x (List.mem_of_mem_take hx)
theorem fA.lens {ag:Bool}{sz:Nat}{es:List Tree}(h:fA ag sz es):∀e∈es,e.cells.length=sz:=fun e he=>(h e he).1
theorem fA.qZ {ag:Bool}{sz:Nat}{es:List Tree}(h:fA ag sz es):((flat es).map TV.t).all TV.leaf=true:=by
 rw[List.all_eq_true]
 intro v hv
 obtain⟨x,hx,rfl⟩:=List.mem_map.1 hv
 obtain⟨e,he,hxe⟩:=List.mem_flatMap.1 hx
 exact List.all_eq_true.1 (h e he).2.1 x hxe
theorem fA.length {ag:Bool}{sz:Nat}{es:List Tree}(h:fA ag sz es):((flat es).map TV.t).length=es.length*sz:=by
 rw[List.length_map,gZ h.lens]
theorem PK {e:Tree}(h:CT e=true):e=.agg e.cells:=by
 cases e<;>simp_all [CT,Tree.cells]
theorem one_cell {e:Tree}(h:CT e=false):e.cells=[e]:=by
 cases e<;>simp_all [CT,Tree.cells]
theorem wA {ag:Bool}{sz:Nat}(hz:0<sz):∀{es:List Tree},fA ag sz es→chunk ag sz es.length (flat es)=some es
 | [],_=>rfl
 | e::r,h=>by
  obtain⟨h1,h2,h3⟩:=h e List.mem_cons_self
  have ih:=wA hz (es:=r) fun x hx=>h x (List.mem_cons_of_mem _ hx)
  have hd:(flat (e::r)).drop sz=flat r:=by
   simp only[flat,List.flatMap_cons]
   rw[← h1,List.drop_left]
  have ht:(flat (e::r)).take sz=e.cells:=by
   simp only[flat,List.flatMap_cons]
   rw[← h1,List.take_left]
  have hl:sz≤(flat (e::r)).length:=by
   simp only[flat,List.flatMap_cons,List.length_append]
   omega
  simp only[List.length_cons,chunk,if_pos hl,hd,ih,ht]
  cases ag with
  |true=>simp only[if_true];rw[← PK h3]
  |false=>
   have hc:=one_cell h3
   have e1:sz=1:=by rw[← h1,hc];rfl
   have hlf:e.leaf=true:=by rw[hc] at h2;simpa using h2
   have ef:flat (e::r)=e::flat r:=by simp only[flat,List.flatMap_cons,hc,List.singleton_append]
   simp only[Bool.false_eq_true,if_false,ef,e1,hlf,and_self,if_true]
theorem CU (g:TV→Option (Tree×List Nm))(hg:∀x,g (.t x)=some (x,[])):∀(ts:List Tree),w8 g (ts.map .t)=some (ts,[])
 | []=>rfl
 |x::r=>by simp only[List.map_cons,w8,hg,CU g hg r,List.nil_append]
theorem R6 (H:Heap)(n:Nat)(x:Tree):og H n (.t x)=some (x,[]):=by cases n<;>rfl
theorem Gz {H:Heap}{n:Nat}{k:Nm}{g:TypeId}{ag fz:Bool}{sz len:Nat}{es:List Tree}(hk:H.get k=some (.arr (g,ag) sz fz ((flat es).map .t)))(hu:fA ag sz es)(hz:0<sz)(hl:len=es.length):
  og H (n+1) (.ref k 0 len)=some (.sl es,[k]):=by
 subst hl
 have hc:0<sz∧(0+es.length) *sz=((flat es).map TV.t).length:=⟨hz,by rw[hu.length,Nat.zero_add]⟩
 have e1:(((flat es).map TV.t).drop (0*sz)).take (es.length*sz)=(flat es).map .t:=by
  rw[Nat.zero_mul,List.drop_zero,List.take_of_length_le (by rw[hu.length];exact Nat.le_refl _)]
 simp only[og,hk,if_pos hc,e1,CU _ (R6 H n),wA hz hu]
section
variable {C:dh}{ev:aS}{f:FuncId}{n:Nat}{sp:List (Nat×TV)}{H:Heap}{t:Nat}{d:Option Tmp}
theorem sta {P:kK}{ty:TypeId}{ti:TI}{x:TV}{k:Nm}{off:Nat}{g:TypeId×Bool}{bR:Nat}{cs:List TV}(ht:P.ty ty=some ti)(hk:H.get k=some (.arr g bR false cs))(hl:(decide (x.cells.length=ti.size)&&x.cells.all TV.leaf)=true)(ho:off+ti.size≤cs.length):
  storeT P H ty (.jY k cs.length off) x=some [(k,.arr g bR false (dM cs off x.cells))]:=by
 simp only[Bool.and_eq_true,decide_eq_true_eq] at hl
 simp only[storeT,bf,ht,hl.1,hl.2,hk,ho,and_self,if_true]
theorem Fm {sz:Nat}{es:List Tree}{i j m:Nat}{e:Tree}(hu:∀e∈es,e.cells.length=sz)(he:es[i]?=some e)(hj:j+m≤sz):((flat es).drop (i*sz+j)).take m=(e.cells.drop j).take m:=by
 refine List.ext_getElem? fun q=> ?_
 by_cases hq:q<m
 · rw[List.getElem?_take_of_lt hq,List.getElem?_take_of_lt hq,List.getElem?_drop,List.getElem?_drop,Nat.add_assoc,xF hu he (by omega)]
 · rw[List.getElem?_eq_none (by rw[List.length_take];omega),List.getElem?_eq_none (by rw[List.length_take];omega)]
theorem CV:∀(ts:List Tree),allT (ts.map .t)=some ts
 | []=>rfl
 |x::r=>by simp only[List.map_cons,allT,CV r]
theorem PN (ts:List Tree):tK (ts.map .t)=.t (.agg ts):=by simp only[tK,CV]
theorem q7 {sz:Nat}{es:List Tree}{i j m:Nat}{e:Tree}(hu:∀e∈es,e.cells.length=sz)(he:es[i]?=some e)(hj:j+m≤sz):partT true m ((flat es).map .t) (i*sz+j)=some (.t (.agg ((e.cells.drop j).take m))):=by
 have hi:i<es.length:=(List.getElem?_eq_some_iff.1 he).1
 have hle:i*sz+j+m≤((flat es).map TV.t).length:=by
  rw[List.length_map,gZ hu]
  have:(i+1) *sz≤es.length*sz:=Nat.mul_le_mul_right _ hi
  rw[Nat.succ_mul] at this
  omega
 simp only[partT,if_true,if_pos hle]
 rw[← List.map_drop,← List.map_take,Fm hu he hj,PN]
theorem R7 {cs:List TV}{off:Nat}{vs:List TV}(h:(cs.drop off).take vs.length=vs):dM cs off vs=cs:=by
 unfold dM
 conv=>rhs;rw[← List.take_append_drop off cs,← List.take_append_drop vs.length (cs.drop off),h,List.drop_drop]
 rw[List.append_assoc]
theorem uU {sz:Nat}{es:List Tree}{i j m:Nat}{e:Tree}(hu:∀e∈es,e.cells.length=sz)(he:es[i]?=some e)(hj:j+m≤sz):dM ((flat es).map .t) (i*sz+j) (((e.cells.drop j).take m).map .t)=(flat es).map .t:=by
 refine R7 ?_
 have hl:e.cells.length=sz:=hu e (List.mem_of_getElem? he)
 rw[List.length_map,List.length_take,List.length_drop,hl,Nat.min_eq_left (by omega),← List.map_drop,← List.map_take,Fm hu he hj]
theorem aan {ag:Bool}{sz:Nat}{es:List Tree}(hu:fA ag sz es):eP H ag sz (.t (.sl es))=some (es.length,(flat es).map .t):=by
 have:iQ sz es=true:=by
  cases es with
  |nil=>rfl
  |cons e r=>simp only[iQ,(hu e List.mem_cons_self).1,BEq.rfl]
 simp only[eP,this,if_true]
theorem Nq {ag:Bool}{sz:Nat}{es:List Tree}(hu:fA ag sz es):eP H ag sz (.k5 es)=some (es.length,(flat es).map .t):=by
 have:iQ sz es=true:=by
  cases es with
  |nil=>rfl
  |cons e r=>simp only[iQ,(hu e List.mem_cons_self).1,BEq.rfl]
 simp only[eP,this,if_true]
def I6 (y:TV)(es:List Tree):Prop:=y=.t (.sl es)∨y=.k5 es
theorem CW {ag:Bool}{sz:Nat}{y:TV}{es:List Tree}(h:I6 y es)(hu:fA ag sz es):eP H ag sz y=some (es.length,(flat es).map .t):=by
 rcases h with rfl|rfl
 · exact aan hu
 · exact Nq hu
structure AZ (P:kK)(st elem:TypeId)(te:TI):Prop where
 sl:∃ti,P.ty st=some ti∧ti.desc=.slice elem
 el:P.ty elem=some te
 ze:∃z,te.zero=some z∧te.size≠0∧z.cells.length=te.size∧te.bytes≠0
theorem mZ {nm:Nm}{s x:TV}{st elem:TypeId}{te:TI}(h:AZ C.P st elem te){m:Nat}{cs:List TV}(hs:eP H te.agg te.size x=some (m,cs))(hm:m≠0)(hl:cs.all TV.leaf=true){r:Option (TV×Heap)}
  (hr:  (match s with
       |.bl=>if m*te.bytes≤eu then some (.ref nm 0 m,[(nm,.arr (elem,te.agg) te.size false cs)]) else none
       |.k5 es=>match eP H te.agg te.size (.k5 es) with
        |some (n,old)=>if(n+m) *te.bytes≤eu then some (.ref nm 0 (n+m),[(nm,.arr (elem,te.agg) te.size false (old++cs))]) else none
        |none=>none
       |.ref k 0 len=>match ow H k 0 len with
        |some (g,e,fz,old)=>if e=te.size∧g.1=elem∧(len+m) *te.bytes≤eu then some (.ref k 0 (len+m),[(k,.arr g e fz (old++cs))]) else none
        |none=>none
       |_=>none:Option (TV×Heap))=r):kq C.P nm H st st s x=r:=by
 obtain⟨⟨ti,h1,h2⟩,h3,z,h4,h5,h6,h7⟩:=h
 have hc:¬(te.size=0∨z.cells.length≠te.size∨te.bytes=0):=by
  rintro (h|h|h)
  · exact h5 h
  · exact h h6
  · exact h7 h
 unfold kq
 simp only[bf,h1,h2,h3,h4,if_neg hc,hs,if_neg hm,hl,if_true]
 exact hr
theorem Lr {x y:Operand}{st elem:TypeId}{te:TI}{v:TV}{es:List Tree}(h:AZ C.P st elem te)(hx:bO C n sp x=some (.k5 []))(hy:bO C n sp y=some v)(hv:I6 v es)(hu:fA te.agg te.size es)(hne:es≠ [])(hb:es.length*te.bytes≤eu):
  cq C ev f H n sp t d (.call ⟨.builtin .append, #[x,y], #[st,st]⟩) (.ref (.loc [t]) 0 es.length) [(.loc [t],.arr (elem,te.agg) te.size false ((flat es).map .t))]:=by
 refine uT (vs:=[.k5 [],v]) (by simp only[lB,hx,hy]) ?_
 show kq C.P (.loc [t]) H st st (.k5 []) v=_
 refine mZ h (CW hv hu) (by simpa using hne) hu.qZ ?_
 have e:eP H te.agg te.size (.k5 [])=some (0,[]):=rfl
 simp only[e,Nat.zero_add,if_pos hb,List.nil_append]
theorem aao {x y:Operand}{st elem:TypeId}{te:TI}{v:TV}{es fs:List Tree}(h:AZ C.P st elem te)(hx:bO C n sp x=some (.k5 fs))(hy:bO C n sp y=some v)(hv:I6 v es)(hu:fA te.agg te.size es)(hf:fA te.agg te.size fs)(hne:es≠ [])(hb:(fs.length+es.length) *te.bytes≤eu):
  cq C ev f H n sp t d (.call ⟨.builtin .append, #[x,y], #[st,st]⟩) (.ref (.loc [t]) 0 (fs.length+es.length)) [(.loc [t],.arr (elem,te.agg) te.size false ((flat (fs++es)).map .t))]:=by
 refine uT (vs:=[.k5 fs,v]) (by simp only[lB,hx,hy]) ?_
 show kq C.P (.loc [t]) H st st (.k5 fs) v=_
 refine mZ h (CW hv hu) (by simpa using hne) hu.qZ ?_
 simp only[Nq hf,if_pos hb,flat,List.flatMap_append,List.map_append]
theorem Ls {x y:Operand}{st elem:TypeId}{te:TI}{s v:TV}(h:AZ C.P st elem te)(hx:bO C n sp x=some s)(hy:bO C n sp y=some v)(hv:I6 v []∨v=.bl)(hs:s=.bl∨(∃es,s=.t (.sl es))∨∃es,s=.k5 es):
  cq C ev f H n sp t d (.call ⟨.builtin .append, #[x,y], #[st,st]⟩) s []:=by
 refine uT (vs:=[s,v]) (by simp only[lB,hx,hy]) ?_
 obtain⟨⟨ti,h1,h2⟩,h3,z,h4,h5,h6,h7⟩:=h
 have hc:¬(te.size=0∨z.cells.length≠te.size∨te.bytes=0):=by
  rintro (h|h|h)
  · exact h5 h
  · exact h h6
  · exact h7 h
 have hsrc:eP H te.agg te.size v=some (0,[]):=by
  rcases hv with (rfl|rfl)|rfl<;>rfl
 show kq C.P (.loc [t]) H st st s v=some (s,[])
 unfold kq
 simp only[bf,h1,h2,h3,h4,if_neg hc,hsrc,if_true]
 rcases hs with rfl|⟨es,rfl⟩|⟨es,rfl⟩<;>rfl
theorem z8 {ty elem:TypeId}{ti te:TI}{z:TV}(ha:d.any (C.oy f)=false)(ht:C.P.ty ty=some ti)(hd:ti.desc=.slice elem)(hte:C.P.ty elem=some te)(hz:te.zero=some z)(hc:(decide (0<te.size)&&decide (z.cells.length=te.size)&&z.cells.all TV.leaf)=true):
  cq C ev f H n sp t d (.buildSlice ty 0 #[]) (.k5 []) []:=fun _ _ _ _=>by
 simp only[Bool.and_eq_true,decide_eq_true_eq] at hc
 obtain⟨⟨h1,h2⟩,h3⟩:=hc
 have I7:0<te.size∧0*te.size≤16777216∧z.cells.length=te.size∧z.cells.all TV.leaf=true:=⟨h1,by omega,h2,h3⟩
 simp only[aX,evalOp,kA,mS,bf,ht,hd,hte,hz,if_pos I7,qM,nL,ha,allT,Option.bind_some,chunk,List.isEmpty_nil,if_true]
theorem aap {ty elem:TypeId}{ti te:TI}{z:TV}{x:Operand}{e:Tree}(hx:bO C n sp x=some (.t e))(ha:d.any (C.oy f)=false)(ht:C.P.ty ty=some ti)(hd:ti.desc=.slice elem)(hte:C.P.ty elem=some te)(hz:te.zero=some z)
  (hc:(decide (0<te.size)&&decide (1*te.size≤16777216)&&decide (z.cells.length=te.size)&&z.cells.all TV.leaf)=true)(he:EOk te.agg te.size e):cq C ev f H n sp t d (.buildSlice ty 1 #[(0,x)]) (.k5 [e]) []:=fun _ _ _ _=>by
 simp only[Bool.and_eq_true,decide_eq_true_eq] at hc
 obtain⟨⟨⟨h1,h1b⟩,h2⟩,h3⟩:=hc
 obtain⟨e1,e2,e3⟩:=he
 have I7:0<te.size∧1*te.size≤16777216∧z.cells.length=te.size∧z.cells.all TV.leaf=true:=⟨h1,h1b,h2,h3⟩
 have hcells:(TV.t e).cells=e.cells.map .t:=by cases e<;>rfl
 have hl:((TV.t e).cells).all TV.leaf=true:=by
  rw[hcells,List.all_map]
  exact e2
 have adK:nL (fun i=>some (i*te.size,te.size)) (qM 1 z.cells) [(0,.t e)]=some (e.cells.map .t):=by
  have hcc:(TV.t e).cells.length=te.size∧0*te.size+te.size≤(qM 1 z.cells).length∧(TV.t e).cells.all TV.leaf=true:=⟨by rw[hcells,List.length_map,e1],by simp[qM,h2],hl⟩
  show(if(TV.t e).cells.length=te.size∧0*te.size+te.size≤(qM 1 z.cells).length∧(TV.t e).cells.all TV.leaf=true then some (dM (qM 1 z.cells) (0*te.size) (TV.t e).cells) else none)=_
  rw[if_pos hcc,hcells,Nat.zero_mul]
  congr 1
  unfold dM
  simp only[List.take_zero,List.nil_append,Nat.zero_add,List.length_map,e1]
  rw[List.drop_of_length_le (by simp[qM,h2]),List.append_nil]
 have hch:chunk te.agg te.size 1 e.cells=some [e]:=by
  have:=wA (ag:=te.agg) h1 (es:=[e]) (fA.cons ⟨e1,e2,e3⟩ .nil)
  simpa [flat] using this
 have hp:kA C (bX n sp) (#[(0,x)]:Array (Nat×Operand)).toList=some [(0,.t e)]:=by simp only[kA,bL hx]
 simp only[aX,evalOp,hp,mS,bf,ht,hd,hte,hz,if_pos I7,adK,ha,CV,Option.bind_some,hch]
def bld (P:kK)(t:TypeId):Option (List TV×List (Nat×Nat)):=match bf P t with
 | some ti=>match ti.zero,ti.desc with
  |some z,.struct fs=>match iL P fs.toList with
   |some ps=>some (z.cells,ps)
   |none=>none
  |_,_=>none
 |none=>none
def CX (C:dh)(n:Nat)(sp:List (Nat×TV)):List (Nat×Operand)→Option (List (Nat×TV))
 | []=>some []
 |(i,x)::r=>match bO C n sp x,CX C n sp r with
  |some v,some vs=>some ((i,v)::vs)
  |_,_=>none
theorem Fo:∀{l:List (Nat×Operand)} {vs:List (Nat×TV)},CX C n sp l=some vs→kA C (bX n sp) l=some vs
 | [],_,h=>h
 |(i,x)::r,vs,h=>by
  simp only[CX] at h
  cases h1:bO C n sp x<;>cases h2:CX C n sp r<;>simp only[h1,h2,reduceCtorEq] at h
  simp only[kA,bL h1,Fo h2]
  exact h
theorem uV {ty:TypeId}{ps:Array (Nat×Operand)}{parts:List (Nat×TV)}{zs cs:List TV}{pl:List (Nat×Nat)}{v:TV}(hp:CX C n sp ps.toList=some parts)(hb:bld C.P ty=some (zs,pl))(hf:nL (fun i=>pl[i]?) zs parts=some cs)(hv:tK cs=v):
  cq C ev f H n sp t d (.build ty ps) v []:=fun _ _ _ _=>by
 unfold bld at hb
 split at hb<;>try (simp at hb;done)
 rename_i ti Ge
 split at hb<;>try (simp at hb;done)
 rename_i z fs hz hd
 split at hb<;>try (simp at hb;done)
 rename_i q hq
 simp at hb
 obtain⟨rfl,rfl⟩:=hb
 simp only[aX,evalOp,Fo hp,F3,Ge,hz,hd,hq,hf,hv,vQ,Option.map_some]
theorem q8 {l:List Tree}{i:Nat}{e:Tree}(h:l[i]?=some e):l.take (i+1)=l.take i++[e]:=by
 obtain⟨h1,rfl⟩:=List.getElem?_eq_some_iff.1 h
 exact(List.take_append_getElem h1).symm
theorem R8 {fn:Func}{st:St}{vs:List TV}{x:Tree}{ks:List Nm}(hr:iW C st fn.results.toList=some vs)(hf:og st.H iO (qO vs)=some (x,ks)):finish C fn 0 st=some (.ret (.t x) [] []):=by
 unfold finish
 simp only[hr,hf,nA,TV.names,List.flatMap_nil,List.append_nil]
 rfl
theorem PO {H:Heap}{m:Nat}{k:Nm}{g:TypeId×Bool}{bR:Nat}{fz:Bool}{ts:List Tree}(hk:H.get k=some (.arr g bR fz (ts.map .t))):reach H (m+2) [] [k]=some [k]:=by
 have h1:¬k∈([]:List Nm):=by simp
 simp only[reach,if_neg h1,hk,aQ.names,qg,List.append_nil,List.nil_append]
theorem Nr {fn:Func}{st:St}{k:Nm}{o len:Nat}{g:TypeId×Bool}{bR:Nat}{fz:Bool}{ts:List Tree}(hr:iW C st fn.results.toList=some [.ref k o len])(hk:st.H.get k=some (.arr g bR fz (ts.map .t)))(hl:k.gy=true):
  sD C fn 0 st=some (.ret (.ref k o len) [] [(k,.arr g bR fz (ts.map .t))]):=by
 unfold sD
 simp only[hr,nA,qO,TV.names,List.flatMap_nil,List.append_nil]
 rw[show fD=3998+2 from rfl,PO hk]
 simp only[j3,hl,if_true,hk,Option.map_some]
theorem Lt {g:FuncId}{ts:List Tree}{v v':TV}{news news':Heap}(he:ev g (ts.map .t) []=some (.ret v [] news))(hv:v.rn (kX [] t)=some v')(hn:gJ [] t news=some news'):oD ev H g (ts.map .t) t=some (.val v' news'):=by
 unfold oD
 simp only[qF,qg]
 have h1:reach (H.dJ (cZ H [])) fD [] []=some []:=rfl
 rw[h1]
 simp only[List.nodup_nil,if_true,kQ,jf,he,hv,hn,iC]
 rfl
theorem uW {g:FuncId}{args:Array Operand}{ats:Array TypeId}{ts:List Tree}{v v':TV}{news news':Heap}(h:lB C n sp args.toList=some (ts.map .t))(he:ev g (ts.map .t) []=some (.ret v [] news))(hv:v.rn (kX [] t)=some v')(hn:gJ [] t news=some news'):
  cq C ev f H n sp t d (.call ⟨.value (.func g),args,ats⟩) v' news':=
 Gx (eD h) (Lt he hv hn)
theorem q9 {p:List Nat}{g:TypeId×Bool}{bR:Nat}{fz:Bool}{ts:List Tree}:gJ [] t [(.loc p,.arr g bR fz (ts.map .t))]=some [(.loc (t::p),.arr g bR fz (ts.map .t))]:=by
 simp only[gJ,kX,aQ.rn,kQ,Option.map_some]
theorem eB {σ:Nm→Option Nm}{g:TypeId×Bool}{bR:Nat}{fz:Bool}{ts:List Tree}:aQ.rn σ (.arr g bR fz (ts.map .t))=some (.arr g bR fz (ts.map .t)):=by
 simp only[aQ.rn,kQ,Option.map_some]
theorem x7 {H:Heap}{n:Nat}{k:Nm}{g:TypeId}{ag fz:Bool}{sz len:Nat}{es es':List Tree}(hk:H.get k=some (.arr (g,ag) sz fz ((flat es).map .t)))(hu:fA ag sz es)(hz:0<sz)(hl:len=es.length)(he:es=es'):
  og H (n+1) (.ref k 0 len)=some (.sl es',[k]):=by
 subst he
 exact Gz hk hu hz hl
theorem tJ {x:Operand}{v:Tree}(h:bO C n sp x=some (.t v)):lB C n sp [x]=some ([v].map .t):=by
 simp only[lB,h];rfl
theorem Ns {x y:Operand}{v u:Tree}(h:bO C n sp x=some (.t v))(h2:bO C n sp y=some (.t u)):lB C n sp [x,y]=some ([v,u].map .t):=by
 simp only[lB,h,h2];rfl
open Classical in
def ct1 (P:Tree→Prop)(res:Tree→bG):List TV→List aQ→Option bG:=fun as' os=>match as',os with
 | [.t x],[]=>if P x then some (res x) else none
 |_,_=>none
open Classical in
def ct2 (P:Tree→Tree→Prop)(res:Tree→Tree→bG):List TV→List aQ→Option bG:=fun as' os=>match as',os with
 | [.t x,.t y],[]=>if P x y then some (res x y) else none
 |_,_=>none
theorem aaq {g:FuncId}{P:Tree→Prop}{res:Tree→bG}(h:∀x,P x→ay C g [.t x] [] (res x)):j7 C g (ct1 P res):=by
  intro args aR r hr
  unfold ct1 at hr
  split at hr
  · split at hr
    · rename_i x hp;simp at hr;subst hr;exact h x hp
    · simp at hr
  · simp at hr
theorem R9 {g:FuncId}{P:Tree→Tree→Prop}{res:Tree→Tree→bG}(h:∀x y,P x y→ay C g [.t x,.t y] [] (res x y)):j7 C g (ct2 P res):=by
  intro args aR r hr
  unfold ct2 at hr
  split at hr
  · split at hr
    · rename_i x y hp;simp at hr;subst hr;exact h x y hp
    · simp at hr
  · simp at hr
theorem aar {g:FuncId}{P:Tree→Prop}{res:Tree→bG}{ev:aS}{x:Tree}(h:P x):l6 g (ct1 P res) ev g [.t x] []=some (res x):=by
 simp only[l6,if_true,ct1,if_pos h]
theorem Sb {g:FuncId}{P:Tree→Tree→Prop}{res:Tree→Tree→bG}{ev:aS}{x y:Tree}(h:P x y):l6 g (ct2 P res) ev g [.t x,.t y] []=some (res x y):=by
 simp only[l6,if_true,ct2,if_pos h]
theorem nc {g k:FuncId}{s:List TV→List aQ→Option bG}{ev:aS}{as':List TV}{os:List aQ}{r:Option bG}(hne:(k==g)=false)(h:ev k as' os=r):l6 g s ev k as' os=r:=by
 have:¬k=g:=by simpa using hne
 simp only[l6,if_neg this]
 exact h
end
end Go.Abs
end
