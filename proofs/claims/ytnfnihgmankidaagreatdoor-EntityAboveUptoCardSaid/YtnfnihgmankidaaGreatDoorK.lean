/- The same interpreter, laid out for the kernel: bare recursors, small bodies. -/
import Derived.Test.YtnfnihgmankidaaGreatDoorD
import Derived.Test.YtnfnihgmankidaaGreatDoorJ
import Derived.Below
set_option linter.unusedVariables false
set_option linter.unusedSimpArgs false
noncomputable section
namespace Go.Abs
open Go
abbrev uk:=cE->aT->FuncId->Heap->List TV->Nat->Oper->Option pL
def gh {α β:Type}(x:Option α)(k:α->Option β):Option β:=Option.rec (motive:=λ_=>Option β) none k x
theorem DB {α β:Type}(k:α->Option β):gh none k=none:=rfl
theorem cO {α β:Type}(a:α)(k:α->Option β):gh (some a) k=k a:=rfl
def ZG (v:TV):Option pL:=some (.val v [])
def uE (C:cE)(slots:List TV)(x:Operand):Option TV:=
 Operand.rec (motive:=λ_=>Option TV) (λt=>some (Xh slots t)) (λv=>valOf v) (λg=>bU C slots (.global g)) (λf=>some (.t (.fn (.func f)))) x
theorem lT (C:cE)(slots:List TV)(x:Operand):uE C slots x=bU C slots x:=by
 cases x<;>rfl
def fQ:uk:=λC ev f H slots t o=>aP C ev f H slots t o
def Ib (x:Operand):uk:=λC _ _ _ slots _ _=>gh (uE C slots x) ZG
def adp (a b:TV):TV->Option pL
 |.t (.bool c)=>ZG (cond c a b)
 |_=>none
def Tr (c a b:Operand):uk:=λC _ _ _ slots _ _=>
 gh (uE C slots c) λc=>gh (uE C slots a) λa=>gh (uE C slots b) λb=>adp a b c
def Tt (t:TypeId)(a:Operand):uk:=λC _ _ H slots _ _=>gh (uE C slots a) λa=>gh (loadT C.P H t a) ZG
def ZH (op:BinOp)(t:TypeId)(x y:Operand)(_:TypeId):uk:=λC _ _ _ slots _ _=>
 gh (uE C slots x) λa=>gh (uE C slots y) λb=>gh (qP C.P op t x y a b) ZG
def adq (op:UnOp)(_:TypeId)(x:Operand):uk:=λC _ _ _ slots _ _=>gh (uE C slots x) λa=>gh (unT C.P op a) ZG
def Bx (t:TypeId)(x i:Operand):uk:=λC _ _ H slots _ _=>
 gh (uE C slots x) λa=>gh (uE C slots i) λb=>gh (dG C.P H t a b) ZG
def OM (t:TypeId)(x i:Operand):uk:=λC _ _ _ slots _ _=>
 gh (uE C slots x) λa=>gh (uE C slots i) λb=>gh (pI C.P t a b) ZG
def ON (t:TypeId)(a x:Operand):uk:=λC _ _ H slots _ _=>
 gh (uE C slots a) λa=>gh (uE C slots x) λx=>gh (storeT C.P H t a x) λu=>some (.val bN u)
def ZI (x:Operand):uk:=λC _ _ _ slots _ _=>gh (uE C slots x) λv=>cond (Js v) (ZG v) none
def rK (o:Oper):uk:=
 Op.rec (motive:=λ_=>uk) Ib Ib Tr (λ_=>fQ) (λ_ _=>fQ) (λ_ _=>fQ) (λ_ _ _=>fQ) (λ_ _ _ _=>fQ) Tt ON
  (λ_=>fQ) (λ_=>fQ) ZI ZH adq (λ_ _ _=>fQ) (λ_ _=>fQ) (λ_ _=>fQ) (λ_ _ _=>fQ) (λ_ _=>fQ) (λ_ _=>fQ)
  (λ_ _ _=>fQ) (λ_ _ _ _ _=>fQ) (λ_ _ _=>fQ) (λ_ _ _=>fQ) Bx OM (λ_ _ _ _=>fQ) (λ_ _ _ _=>fQ) (λ_ _ _=>fQ)
  (λ_ _ _ _=>fQ) (λ_ _=>fQ) (λ_ _=>fQ) (λ_=>fQ) (λ_ _ _ _=>fQ) (λ_ _=>fQ) (λ_=>fQ) (λ_=>fQ) (λ_=>fQ) (λ_=>fQ)
  (λ_ _=>fQ) (λ_ _ _=>fQ) (λ_ _=>fQ) o.op
theorem Tv (C:cE)(ev:aT)(f:FuncId)(H:Heap)(slots:List TV)(t:Nat)(o:Oper):rK o C ev f H slots t o=aP C ev f H slots t o:=by
 obtain⟨dst,op,type,pos,after,guard⟩:=o;cases op with
 |move x=>simp only[rK,Ib,aP,evalOp,lT];cases bU C slots x<;>rfl
 |assign x=>simp only[rK,Ib,aP,evalOp,lT];cases bU C slots x<;>rfl
 | pick c a b=>
  simp only[rK,Tr,aP,evalOp,lT]
  cases h1:bU C slots c with
  |none=>rfl
  | some c=>
   cases h2:bU C slots a with
   |none=>simp only[cO,DB]
   | some a=>
    cases h3:bU C slots b with
    |none=>simp only[cO,DB]
    | some b=>
     simp only[cO]
     cases c with
     |t c=>
      cases c with
      |bool c=>cases c<;>rfl
      |_=>rfl
     |_=>rfl
 |load t a=>simp only[rK,Tt,aP,evalOp,lT];cases bU C slots a with
  |none=>rfl
  |some a=>simp only[cO];cases loadT C.P H t a<;>rfl
 | store t a x=>simp only[rK,ON,aP,evalOp,lT];cases bU C slots a with
  |none=>rfl
  |some a=>simp only[cO];cases bU C slots x with
   |none=>rfl
   |some x=>simp only[cO];cases storeT C.P H t a x<;>rfl
 |nilCheck x=>simp only[rK,ZI,aP,evalOp,lT];cases bU C slots x with
  |none=>rfl
  |some v=>simp only[cO];cases Js v<;>rfl
 | binOp op t x y t'=>simp only[rK,ZH,aP,evalOp,lT];cases bU C slots x with
  |none=>rfl
  |some a=>simp only[cO];cases bU C slots y with
   |none=>rfl
   |some b=>simp only[cO];cases qP C.P op t x y a b<;>rfl
 |unOp op t x=>simp only[rK,adq,aP,evalOp,lT];cases bU C slots x with
  |none=>rfl
  |some a=>simp only[cO];cases unT C.P op a<;>rfl
 | indexAddr t x i=>simp only[rK,Bx,aP,evalOp,lT];cases bU C slots x with
  |none=>rfl
  |some a=>simp only[cO];cases bU C slots i with
   |none=>rfl
   |some b=>simp only[cO];cases dG C.P H t a b<;>rfl
 | index t x i=>simp only[rK,OM,aP,evalOp,lT];cases bU C slots x with
  |none=>rfl
  |some a=>simp only[cO];cases bU C slots i with
   |none=>rfl
   |some b=>simp only[cO];cases pI C.P t a b<;>rfl
 |_=>rfl
def Tw (ops:Array Oper)(slots:List TV)(o:Oper):Option Bool:=
 Option.rec (motive:=λ_=>Option Bool) (some true) (λ_=>dF ops slots o) o.guard
theorem Tx (ops:Array Oper)(slots:List TV)(o:Oper):Tw ops slots o=dF ops slots o:=by
 obtain⟨dst,op,type,pos,after,guard⟩:=o;cases guard<;>rfl
def aaV (slots:List TV)(d:Option Tmp)(v:TV):List TV:=Option.rec (motive:=λ_=>List TV) slots (λd=>Xi v slots d) d
theorem OO (slots:List TV)(d:Option Tmp)(v:TV):aaV slots d v=cZ slots d v:=by cases d<;>rfl
def Tz (C:cE)(ev:aT)(f:FuncId)(ops:Array Oper)(l:List Oper):List TV->Heap->Nat->Option (aI×St):=
 List.rec (motive:=λ_=>List TV->Heap->Nat->Option (aI×St)) (λslots H t=>some (.normal,{slots:=slots,H:=H,tick:=t}))
  (λo _ ih slots H t=>gh (Tw ops slots o) λb=>
   Bool.rec (motive:=λ_=>Option (aI×St)) (ih (aaV slots o.dst bN) H (t+1))
    (gh (rK o C ev f H slots t o) λr=>pL.rec (motive:=λ_=>Option (aI×St)) (λv u=>ih (aaV slots o.dst v) (H.dR u) (t+1))
     (λv u l=>some (.panic v,{slots:=slots,H:=(H.sL l).dR u,tick:=t+1})) r) b) l
theorem XD (C:cE)(ev:aT)(f:FuncId)(ops:Array Oper):∀(l:List Oper) (slots:List TV) (H:Heap) (t:Nat),Tz C ev f ops l slots H t=BT C ev f ops l {slots:=slots,H:=H,tick:=t}:=by
 intro l;induction l with
 |nil=>intro slots H t;rfl
 | cons o r ih=>
  intro slots H t
  show(gh (Tw ops slots o) λb=>_)=_
  rw[BT,Tx]
  cases dF ops slots o with
  |none=>rfl
  | some b=>
   rw[cO]
   cases b with
   |false=>show Tz C ev f ops r _ _ _=_;rw[ih,OO]
   | true=>
    show(gh (rK o C ev f H slots t o) λr=>_)=_
    rw[Tv]
    cases aP C ev f H slots t o with
    |none=>rfl
    |some res=>
     rw[cO]
     cases res with
     |val v u=>show Tz C ev f ops r _ _ _=_;rw[ih,OO]
     |panic v u l=>rfl
abbrev By:=St->Option (aI×St)
def XE (r:Option (aI×St))(k:By):Option (aI×St):=
 gh r λp=>aI.rec (motive:=λ_=>Option (aI×St)) (k p.2) (λ_=>some p) (some p) (λ_=>some p) p.1
def nE (a b:By)(st:St):Option TV->Option (aI×St)
 |some (.t (.bool true))=>a st
 |some (.t (.bool false))=>b st
 |_=>none
def TA (id:Nat):Option (aI×St)->Option (aI×St)
 |some (.exit id',st')=>cond (Nat.beq id' id) (some (.normal,st')) (some (.exit id',st'))
 |r=>r
def OP (body:By)(n:Nat):By:=
 Nat.rec (motive:=λ_=>By) (λ_=>none) (λ_ ih st=>XE (body st) ih) n
def codeF (C:cE)(ev:aT)(f:FuncId)(fuel:Nat)(c:Code):By:=
 Code.rec (motive:=λ_=>By)
  (λst=>some (.normal,st))
  (λ_ ops draw st=>cond draw (wh C ev f ops st) (Tz C ev f ops ops.toList st.slots st.H st.tick))
  (λ_ _ iha ihb st=>XE (iha st) ihb)
  (λc _ _ iha ihb st=>nE iha ihb st (uE C st.slots c))
  (λid _ ih st=>TA id (ih st))
  (λ_ ih=>OP ih fuel)
  (λ_ _ _ _ _ _ _=>none)
  (λid st=>some (.exit id,st))
  (λ_ _ _=>none)
  (λ_ st=>some (.normal,st))
  (λ_ _=>none)
  (λst=>some (.ret,st))
  (λ_ _=>none) c
theorem TB (body:By):∀(n:Nat) (st:St),OP body n st=CG body n st:=by
 intro n;induction n with
 |zero=>intro st;rfl
 | succ n ih=>
  intro st
  show XE (body st) (OP body n)=_
  rw[CG]
  cases body st with
  |none=>rfl
  |some p=>
   obtain⟨e,st'⟩:=p
   cases e with
   |normal=>exact ih st'
   |exit _=>rfl
   |ret=>rfl
   |panic _=>rfl
theorem codeF_eq (C:cE)(ev:aT)(f:FuncId)(fuel:Nat):∀(c:Code) (st:St),codeF C ev f fuel c st=evalCode C ev f fuel c st:=by
 intro c;induction c with
 |skip=>intro st;rfl
 | region id ops draw=>
   intro st
   show cond draw _ (Tz C ev f ops ops.toList st.slots st.H st.tick)=_
   rw[XD,evalCode]
   cases draw<;>rfl
 | seq a b iha ihb=>
   intro st
   show XE (codeF C ev f fuel a st) (codeF C ev f fuel b)=_
   rw[iha,evalCode]
   cases evalCode C ev f fuel a st with
   |none=>rfl
   | some p=>
     obtain⟨e,st'⟩:=p
     cases e with
     |normal=>exact ihb st'
     |exit _=>rfl
     |ret=>rfl
     |panic _=>rfl
 | cond c a b iha ihb=>
   intro st
   show nE (codeF C ev f fuel a) (codeF C ev f fuel b) st (uE C st.slots c)=_
   rw[lT,evalCode]
   unfold nE
   split
   · rename_i h;rw[h];exact iha st
   · rename_i h;rw[h];exact ihb st
   · rename_i h1 h2
     split
     · rename_i h;exact absurd h h1
     · rename_i h;exact absurd h h2
     · rfl
 | block id body ih=>
   intro st
   show TA id (codeF C ev f fuel body st)=_
   rw[ih,evalCode]
   cases evalCode C ev f fuel body st with
   |none=>rfl
   | some p=>
     obtain⟨e,st'⟩:=p
     cases e with
     | exit id'=>
       show cond (Nat.beq id' id) _ _=if id'=id then _ else _
       by_cases h:id'=id
       · rw[if_pos h,h,Nat.beq_refl];rfl
       · rw[if_neg h,show Nat.beq id' id=false from by rw[Bool.eq_false_iff];exactλe=>h (Nat.eq_of_beq_eq_true e)];rfl
     |normal=>rfl
     |ret=>rfl
     |panic _=>rfl
 | loop body ih=>
   intro st
   show OP (codeF C ev f fuel body) fuel st=_
   rw[TB,evalCode,show codeF C ev f fuel body=evalCode C ev f fuel body from funext ih]
 |_=>intros;rfl
def ZJ (C:cE)(ev:aT)(fuel:Nat)(f:FuncId)(args:List TV)(aQ:List aK)(fn:Func)(body:Code):Option bB:=
 match codeF C ev f fuel body {slots:=args++List.replicate (fn.ntmps - args.length) bN,H:=cm 0 aQ,tick:=0} with
 |some (.normal,st)=>finish C fn aQ.length st
 |some (.ret,st)=>finish C fn aQ.length st
 |some (.panic v,st)=>if v.names.any Nm.eY then none else some (.panic v (oh st.H 0 aQ.length))
 |_=>none
def XF (C:cE)(ev:aT)(fuel:Nat)(f:FuncId)(args:List TV)(aQ:List aK):Option bB:=
 gh (C.P.fn f) λfn=>gh fn.body λbody=>if fn.name= "runtime.NumGoroutine" then none else ZJ C ev fuel f args aQ fn body
theorem XG (C:cE)(ev:aT)(fuel:Nat)(f:FuncId)(args:List TV)(aQ:List aK):XF C ev fuel f args aQ=Jv C ev fuel f args aQ:=by
 unfold XF Jv;rcases h:C.P.fn f with _|fn
 ·rfl
 ·simp only[cO];rcases h2:fn.body with _|body
  ·rfl
  ·simp only[cO,ZJ,codeF_eq];rfl
def xw (C:cE)(X:Ext)(n:Nat):aT:=
 Nat.rec (motive:=λ_=>aT) (λ_ _ _=>none)
  (λn ih f args aQ=>Option.rec (motive:=λ_=>Option bB) (XF C ih n f args aQ) (λs=>s ih args aQ) (X f)) n
theorem y8 (C:cE)(X:Ext):∀n,xw C X n=CH C X n:=by
 intro n;induction n with
 |zero=>rfl
 |succ n ih=>
  funext f args aQ
  rw[CH]
  show Option.rec (motive:=λ_=>Option bB) (XF C (xw C X n) n f args aQ) (λs=>s (xw C X n) args aQ) (X f)=_
  rw[ih,XG]
  cases X f<;>rfl
def ajX:Option bB->Bool
 |some (.ret (.t (.bool true)) [] [])=>true
 |_=>false
def y9:List UInt8->List UInt8->Bool
 | [],[]=>true
 |a::r,b::t=>cond (Nat.beq a.toNat b.toNat) (y9 r t) false
 |_,_=>false
theorem DC:∀{a b:List UInt8},y9 a b=true->a=b
 | [],[],_=>rfl
 | [],_::_,h=>by simp[y9] at h
 |_::_,[],h=>by simp[y9] at h
 | a::r,b::t,h=>by
   simp only[y9] at h
   cases hn:Nat.beq a.toNat b.toNat with
   |false=>rw[hn] at h;cases h
   |true=>
    rw[hn] at h
    have e:a=b:=UInt8.toNat_inj.1 (Nat.eq_of_beq_eq_true hn)
    rw[e,DC (show y9 r t=true from h)]
def Bz:List Tree->List (List UInt8)->Bool
 | [],[]=>true
 |.str s::r,b::t=>cond (y9 s b) (Bz r t) false
 |_,_=>false
theorem Kb:∀{a:List Tree} {b:List (List UInt8)},Bz a b=true->a=b.map .str
 | [],[],_=>rfl
 | [],_::_,h=>by simp[Bz] at h
 |x::r,[],h=>by cases x<;>simp[Bz] at h
 | x ::r,b::t,h=>by
   cases x with
   | str s=>
    simp only[Bz] at h
    cases hs:y9 s b with
    |false=>rw[hs] at h;cases h
    |true=>
     rw[hs] at h
     rw[DC hs,Kb (show Bz r t=true from h)]
     rfl
   |_=>simp[Bz] at h
def wB (ws:List (List UInt8)):Option bB->Bool
 |some (.ret (.t (.sl es)) [] [])=>Bz es ws
 |_=>false
theorem s8 {ws:List (List UInt8)}{r:Option bB}(h:wB ws r=true):r=some (.ret (.t (.sl (ws.map .str))) [] []):=by
 unfold wB at h;split at h
 ·rw[Kb h]
 ·cases h
end Go.Abs
end
noncomputable section
namespace Go.Abs
open Go Go.RowKit
def Cj (C:cE)(fn:Func)(n:Nat)(st:St):Option bB:=
 match iT C st fn.results.toList with
 |none=>none
 | some vs=>
  match nO st.H 0 n with
  |none=>none
  |some os=>match reach st.H eN [] ((uN vs).names++os.flatMap aK.names) with
   |none=>none
   |some R=>(j6 st.H R).map λh=>.ret (uN vs) os h
def adr (C:cE)(fn:Func)(n:Nat):Option (aI×St)->Option bB
 |some (.normal,st)=>Cj C fn n st
 |some (.ret,st)=>Cj C fn n st
 |_=>none
def XH (C:cE)(ev:aT)(fuel:Nat)(f:FuncId)(args:List TV)(aQ:List aK):Option bB:=
 gh (C.P.fn f) λfn=>gh fn.body λbody=>
  if fn.name= "runtime.NumGoroutine" then none else
   adr C fn aQ.length (codeF C ev f fuel body {slots:=args++List.replicate (fn.ntmps - args.length) bN,H:=cm 0 aQ,tick:=0})
def ads (C:cE)(fuel:Nat)(f:FuncId):iC:=λev args aQ=>match args with
 | [.t (.sl [])]=>some (.ret (.t (.sl [])) aQ [])
 |_=>XH C ev fuel f args aQ
section
variable {C:cE}{g f:FuncId}{G:Gh}{w:World}{vs:List Value}{ev:aT}
theorem DD {fn:Func}{n:Nat}{st:St}{a:Act}{r:bB}{G0:Gh}{w0:World}(h:Cj C fn n st=some r)(hs:dw G0 w0 G w)(hst:uI C G w st a):
 ∃v,(results fn a.tmps).run C.P w=.ok v w/\wT G0 w0 n r (.returned v) w:=by
 unfold Cj at h
 split at h
 ·simp at h
 rename_i vs hvs
 obtain⟨v,hv,hr⟩:=x4 hst hvs
 refine⟨v,hv, ?_⟩
 split at h
 ·simp at h
 rename_i os hos
 split at h
 ·simp at h
 rename_i R hR
 cases Qv:j6 st.H R with
 |none=>rw[Qv] at h;simp at h
 | some nw=>
   rw[Qv] at h
   simp only[Option.map_some,Option.some.injEq] at h
   subst h
   obtain⟨e1,e2⟩:=u7 hos
   refine⟨v,G,rfl,hs,e1,λi o ho=> ?_,λk o hm=> ?_,hr⟩
   · have:=e2 i o ho
     rw[Nat.zero_add] at this
     exact hst.heap _ _ this
   · obtain⟨e3,e4⟩:=qx Qv k o hm
     exact⟨e3,hst.heap _ _ e4⟩
theorem XI (hm:C.P.prog.follows .mixedOrders=true)(aC:aF C ev){fuel:Nat}{args:List TV}{aQ:List aK}{r:bB}(h:XH C ev fuel f args aQ=some r)(hw:WF G w)(hg:jJ C G)(had:Ar G aQ.length)
 (hH:HR G w (cm 0 aQ))(hv:cv G args vs):mI C.P f vs.toArray w (wT G w aQ.length r):=by
 unfold XH at h
 rcases Aw:C.P.fn f with _|fn
 ·rw[Aw] at h;cases h
 rw[Aw,cO] at h
 have hfn:=C.P.Qa _ _ Aw
 rcases hbody:fn.body with _|body
 ·rw[hbody] at h;cases h
 rw[hbody,cO] at h
 split at h
 ·cases h
 rename_i hname
 rw[codeF_eq] at h
 have hst:uI C G w {slots:=args++List.replicate (fn.ntmps - args.length) bN,H:=cm 0 aQ,tick:=0} {tmps:=vs.toArray++Array.replicate (fn.ntmps - vs.toArray.size) undef,defers:=[]}:=by
  refine⟨hw,hg, ?_,hH,λp hp=>absurd hp (had.2 p)⟩;have e:(vs.toArray++Array.replicate (fn.ntmps - vs.toArray.size) undef).toList=vs++List.replicate (fn.ntmps - args.length) undef:=by simp[hv.1]
  unfold SR;rw[e];refine cv.append hv ⟨by simp,λj c u hc hu=> ?_⟩;rw[List.getElem?_replicate] at hc hu;by_cases hl:j<fn.ntmps - args.length
  ·rw[if_pos hl] at hc hu;simp at hc hu;subst hc;subst hu;exact lG G
  ·rw[if_neg hl] at hc;simp at hc
 refine .inl ⟨?_,calls_of_wp hfn hbody ?_⟩
 ·simp[callFunc,hfn,hname,hbody]
 ·unfold adr at h;split at h
  ·rename_i st he;refine wp_mono (kY hm aC body _ _ _ he G w _ hst) λex a' w' hgd=> ?_
   obtain⟨G',hs,hd,rfl,iX⟩:=hgd;exact⟨hd,DD h hs iX⟩
  ·rename_i st he;refine wp_mono (kY hm aC body _ _ _ he G w _ hst) λex a' w' hgd=> ?_
   obtain⟨G',hs,hd,rfl,iX⟩:=hgd;exact⟨hd,DD h hs iX⟩
  ·cases h
end
def TC (a b:IntKind):Bool:=match a,b with
 |.i8,.i8|.i16,.i16|.i32,.i32|.i64,.i64|.u8,.u8|.u16,.u16|.u32,.u32|.u64,.u64=>true
 |_,_=>false
theorem TD {a b:IntKind}(h:TC a b=true):a=b:=by cases a<;>cases b<;>first|rfl|cases h
def OQ:Int->Int->Bool
 |.ofNat a,.ofNat b=>Nat.beq a b
 |.negSucc a,.negSucc b=>Nat.beq a b
 |_,_=>false
theorem TE {a b:Int}(h:OQ a b=true):a=b:=by
 cases a<;>cases b<;>simp only[OQ] at h<;>first|(rw[Nat.eq_of_beq_eq_true h])|cases h
def BA (f:Tree->Tree->Bool):List Tree->List Tree->Bool
 | [],[]=>true
 |a::r,b::t=>cond (f a b) (BA f r t) false
 |_,_=>false
theorem vv {f:Tree->Tree->Bool}(hf:∀a b,f a b=true->a=b):∀{a b:List Tree},BA f a b=true->a=b
 | [],[],_=>rfl
 | [],_::_,h=>by cases h
 |_::_,[],h=>by cases h
 | a::r,b::t,h=>by
   simp only[BA] at h
   cases hq:f a b with
   |false=>rw[hq] at h;cases h
   |true=>
    rw[hq] at h
    rw[hf a b hq,vv hf (show BA f r t=true from h)]
def BB:Nat->Tree->Tree->Bool
 |0,_,_=>false
 |n+1,a,b=>match a,b with
  |.bool x,.bool y=>cond x y (!y)
  |.int k x,.int k' y=>cond (TC k k') (OQ x y) false
  |.str x,.str y=>y9 x y
  |.sl x,.sl y=>BA (BB n) x y
  |.agg x,.agg y=>BA (BB n) x y
  |.cT x,.cT y=>BA (BB n) x y
  |_,_=>false
theorem vw:∀(n:Nat) (a b:Tree),BB n a b=true->a=b
 |0,_,_,h=>by cases h
 |n  + 1,a,b,h=>by
  unfold BB at h;split at h
  ·rename_i x y;cases x<;>cases y<;>first|rfl|cases h
  ·rename_i k x k' y;cases hk:TC k k' with
   |false=>rw[hk] at h;cases h
   |true=>rw[hk] at h;rw[TD hk,TE (show OQ x y=true from h)]
  ·rw[DC h]
  ·rw[vv (vw n) h]
  ·rw[vv (vw n) h]
  ·rw[vv (vw n) h]
  ·cases h
end Go.Abs
end
