/- The same interpreter, laid out for the kernel: bare recursors, small bodies. -/
import Derived.Test.YtfdnciimclnncaaGreatDoorD
import Derived.Test.YtfdnciimclnncaaGreatDoorJ
import Derived.Below
set_option linter.unusedVariables false
set_option linter.unusedSimpArgs false
noncomputable section
namespace Go.Abs
open Go
abbrev yK:=ew->bp->FuncId->Heap->List TV->Nat->Oper->Option tv
def jL {α β:Type}(x:Option α)(k:α->Option β):Option β:=Option.rec (motive:=λ_=>Option β) none k x
theorem JI {α β:Type}(k:α->Option β):jL none k=none:=rfl
theorem eZ {α β:Type}(a:α)(k:α->Option β):jL (some a) k=k a:=rfl
def okv (v:TV):Option tv:=some (.val v [])
def yX (C:ew)(slots:List TV)(x:Operand):Option TV:=
 Operand.rec (motive:=λ_=>Option TV) (λt=>some (adZ slots t)) (λv=>valOf v) (λg=>dr C slots (.global g)) (λf=>some (.t (.fn (.func f)))) x
theorem pV (C:ew)(slots:List TV)(x:Operand):yX C slots x=dr C slots x:=by
 cases x<;>rfl
def jg:yK:=λC ev f H slots t o=>bk C ev f H slots t o
def NK (x:Operand):yK:=λC _ _ _ slots _ _=>jL (yX C slots x) okv
def alX (a b:TV):TV->Option tv
 |.t (.bool c)=>okv (cond c a b)
 |_=>none
def ZC (c a b:Operand):yK:=λC _ _ _ slots _ _=>
 jL (yX C slots c) λc=>jL (yX C slots a) λa=>jL (yX C slots b) λb=>alX a b c
def ZD (t:TypeId)(a:Operand):yK:=λC _ _ H slots _ _=>jL (yX C slots a) λa=>jL (loadT C.P H t a) okv
def ahl (op:BinOp)(t:TypeId)(x y:Operand)(_:TypeId):yK:=λC _ _ _ slots _ _=>
 jL (yX C slots x) λa=>jL (yX C slots y) λb=>jL (vD C.P op t x y a b) okv
def alY (op:UnOp)(_:TypeId)(x:Operand):yK:=λC _ _ _ slots _ _=>jL (yX C slots x) λa=>jL (unT C.P op a) okv
def GV (t:TypeId)(x i:Operand):yK:=λC _ _ H slots _ _=>
 jL (yX C slots x) λa=>jL (yX C slots i) λb=>jL (fE C.P H t a b) okv
def Vh (t:TypeId)(x i:Operand):yK:=λC _ _ _ slots _ _=>
 jL (yX C slots x) λa=>jL (yX C slots i) λb=>jL (tj C.P t a b) okv
def Vi (t:TypeId)(a x:Operand):yK:=λC _ _ H slots _ _=>
 jL (yX C slots a) λa=>jL (yX C slots x) λx=>jL (storeT C.P H t a x) λu=>some (.val dc u)
def ahm (x:Operand):yK:=λC _ _ _ slots _ _=>jL (yX C slots x) λv=>cond (Pp v) (okv v) none
def wH (o:Oper):yK:=
 Op.rec (motive:=λ_=>yK) NK NK ZC (λ_=>jg) (λ_ _=>jg) (λ_ _=>jg) (λ_ _ _=>jg) (λ_ _ _ _=>jg) ZD Vi
  (λ_=>jg) (λ_=>jg) ahm ahl alY (λ_ _ _=>jg) (λ_ _=>jg) (λ_ _=>jg) (λ_ _ _=>jg) (λ_ _=>jg) (λ_ _=>jg)
  (λ_ _ _=>jg) (λ_ _ _ _ _=>jg) (λ_ _ _=>jg) (λ_ _ _=>jg) GV Vh (λ_ _ _ _=>jg) (λ_ _ _ _=>jg) (λ_ _ _=>jg)
  (λ_ _ _ _=>jg) (λ_ _=>jg) (λ_ _=>jg) (λ_=>jg) (λ_ _ _ _=>jg) (λ_ _=>jg) (λ_=>jg) (λ_=>jg) (λ_=>jg) (λ_=>jg)
  (λ_ _=>jg) (λ_ _ _=>jg) (λ_ _=>jg) o.op
theorem ZE (C:ew)(ev:bp)(f:FuncId)(H:Heap)(slots:List TV)(t:Nat)(o:Oper):wH o C ev f H slots t o=bk C ev f H slots t o:=by
 obtain⟨dst,op,type,pos,after,guard⟩:=o;cases op with
 |move x=>simp only[wH,NK,bk,evalOp,pV];cases dr C slots x<;>rfl
 |assign x=>simp only[wH,NK,bk,evalOp,pV];cases dr C slots x<;>rfl
 | pick c a b=>
  simp only[wH,ZC,bk,evalOp,pV]
  cases h1:dr C slots c with
  |none=>rfl
  | some c=>
   cases h2:dr C slots a with
   |none=>simp only[eZ,JI]
   | some a=>
    cases h3:dr C slots b with
    |none=>simp only[eZ,JI]
    | some b=>
     simp only[eZ]
     cases c with
     |t c=>
      cases c with
      |bool c=>cases c<;>rfl
      |_=>rfl
     |_=>rfl
 |load t a=>simp only[wH,ZD,bk,evalOp,pV];cases dr C slots a with
  |none=>rfl
  |some a=>simp only[eZ];cases loadT C.P H t a<;>rfl
 | store t a x=>simp only[wH,Vi,bk,evalOp,pV];cases dr C slots a with
  |none=>rfl
  |some a=>simp only[eZ];cases dr C slots x with
   |none=>rfl
   |some x=>simp only[eZ];cases storeT C.P H t a x<;>rfl
 |nilCheck x=>simp only[wH,ahm,bk,evalOp,pV];cases dr C slots x with
  |none=>rfl
  |some v=>simp only[eZ];cases Pp v<;>rfl
 | binOp op t x y t'=>simp only[wH,ahl,bk,evalOp,pV];cases dr C slots x with
  |none=>rfl
  |some a=>simp only[eZ];cases dr C slots y with
   |none=>rfl
   |some b=>simp only[eZ];cases vD C.P op t x y a b<;>rfl
 |unOp op t x=>simp only[wH,alY,bk,evalOp,pV];cases dr C slots x with
  |none=>rfl
  |some a=>simp only[eZ];cases unT C.P op a<;>rfl
 | indexAddr t x i=>simp only[wH,GV,bk,evalOp,pV];cases dr C slots x with
  |none=>rfl
  |some a=>simp only[eZ];cases dr C slots i with
   |none=>rfl
   |some b=>simp only[eZ];cases fE C.P H t a b<;>rfl
 | index t x i=>simp only[wH,Vh,bk,evalOp,pV];cases dr C slots x with
  |none=>rfl
  |some a=>simp only[eZ];cases dr C slots i with
   |none=>rfl
   |some b=>simp only[eZ];cases tj C.P t a b<;>rfl
 |_=>rfl
def ZF (ops:Array Oper)(slots:List TV)(o:Oper):Option Bool:=
 Option.rec (motive:=λ_=>Option Bool) (some true) (λ_=>eX ops slots o) o.guard
theorem ZG (ops:Array Oper)(slots:List TV)(o:Oper):ZF ops slots o=eX ops slots o:=by
 obtain⟨dst,op,type,pos,after,guard⟩:=o;cases guard<;>rfl
def aiv (slots:List TV)(d:Option Tmp)(v:TV):List TV:=Option.rec (motive:=λ_=>List TV) slots (λd=>ad0 v slots d) d
theorem Vj (slots:List TV)(d:Option Tmp)(v:TV):aiv slots d v=eu slots d v:=by cases d<;>rfl
def ZH (C:ew)(ev:bp)(f:FuncId)(ops:Array Oper)(l:List Oper):List TV->Heap->Nat->Option (aR×St):=
 List.rec (motive:=λ_=>List TV->Heap->Nat->Option (aR×St)) (λslots H t=>some (.normal,{slots:=slots,H:=H,tick:=t}))
  (λo _ ih slots H t=>jL (ZF ops slots o) λb=>
   Bool.rec (motive:=λ_=>Option (aR×St)) (ih (aiv slots o.dst dc) H (t+1))
    (jL (wH o C ev f H slots t o) λr=>tv.rec (motive:=λ_=>Option (aR×St)) (λv u=>ih (aiv slots o.dst v) (H.fk u) (t+1))
     (λv u l=>some (.panic v,{slots:=slots,H:=(H.yU l).fk u,tick:=t+1})) r) b) l
theorem aee (C:ew)(ev:bp)(f:FuncId)(ops:Array Oper):∀(l:List Oper) (slots:List TV) (H:Heap) (t:Nat),ZH C ev f ops l slots H t=HD C ev f ops l {slots:=slots,H:=H,tick:=t}:=by
 intro l;induction l with
 |nil=>intro slots H t;rfl
 | cons o r ih=>
  intro slots H t
  show(jL (ZF ops slots o) λb=>_)=_
  rw[HD,ZG]
  cases eX ops slots o with
  |none=>rfl
  | some b=>
   rw[eZ]
   cases b with
   |false=>show ZH C ev f ops r _ _ _=_;rw[ih,Vj]
   | true=>
    show(jL (wH o C ev f H slots t o) λr=>_)=_
    rw[ZE]
    cases bk C ev f H slots t o with
    |none=>rfl
    |some res=>
     rw[eZ]
     cases res with
     |val v u=>show ZH C ev f ops r _ _ _=_;rw[ih,Vj]
     |panic v u l=>rfl
abbrev GW:=St->Option (aR×St)
def aef (r:Option (aR×St))(k:GW):Option (aR×St):=
 jL r λp=>aR.rec (motive:=λ_=>Option (aR×St)) (k p.2) (λ_=>some p) (some p) (λ_=>some p) p.1
def rF (a b:GW)(st:St):Option TV->Option (aR×St)
 |some (.t (.bool true))=>a st
 |some (.t (.bool false))=>b st
 |_=>none
def ZI (id:Nat):Option (aR×St)->Option (aR×St)
 |some (.exit id',st')=>cond (Nat.beq id' id) (some (.normal,st')) (some (.exit id',st'))
 |r=>r
def Vk (body:GW)(n:Nat):GW:=
 Nat.rec (motive:=λ_=>GW) (λ_=>none) (λ_ ih st=>aef (body st) ih) n
def codeF (C:ew)(ev:bp)(f:FuncId)(fuel:Nat)(c:Code):GW:=
 Code.rec (motive:=λ_=>GW)
  (λst=>some (.normal,st))
  (λ_ ops draw st=>cond draw (Ax C ev f ops st) (ZH C ev f ops ops.toList st.slots st.H st.tick))
  (λ_ _ iha ihb st=>aef (iha st) ihb)
  (λc _ _ iha ihb st=>rF iha ihb st (yX C st.slots c))
  (λid _ ih st=>ZI id (ih st))
  (λ_ ih=>Vk ih fuel)
  (λ_ _ _ _ _ _ _=>none)
  (λid st=>some (.exit id,st))
  (λ_ _ _=>none)
  (λ_ st=>some (.normal,st))
  (λ_ _=>none)
  (λst=>some (.ret,st))
  (λ_ _=>none) c
theorem ZJ (body:GW):∀(n:Nat) (st:St),Vk body n st=IL body n st:=by
 intro n;induction n with
 |zero=>intro st;rfl
 | succ n ih=>
  intro st
  show aef (body st) (Vk body n)=_
  rw[IL]
  cases body st with
  |none=>rfl
  |some p=>
   obtain⟨e,st'⟩:=p
   cases e with
   |normal=>exact ih st'
   |exit _=>rfl
   |ret=>rfl
   |panic _=>rfl
theorem codeF_eq (C:ew)(ev:bp)(f:FuncId)(fuel:Nat):∀(c:Code) (st:St),codeF C ev f fuel c st=evalCode C ev f fuel c st:=by
 intro c;induction c with
 |skip=>intro st;rfl
 | region id ops draw=>
   intro st
   show cond draw _ (ZH C ev f ops ops.toList st.slots st.H st.tick)=_
   rw[aee,evalCode]
   cases draw<;>rfl
 | seq a b iha ihb=>
   intro st
   show aef (codeF C ev f fuel a st) (codeF C ev f fuel b)=_
   rw[iha,evalCode]
   cases evalCode C ev f fuel a st with
   |none=>rfl
   | some p=>
     obtain⟨e,st'⟩:=p
     cases e with
     |normal=>exact ihb st'
     |exit _=>rfl
     |ret=>rfl
     |panic _=>rfl
 | cond c a b iha ihb=>
   intro st
   show rF (codeF C ev f fuel a) (codeF C ev f fuel b) st (yX C st.slots c)=_
   rw[pV,evalCode]
   unfold rF
   split
   · rename_i h;rw[h];exact iha st
   · rename_i h;rw[h];exact ihb st
   · rename_i h1 h2
     split
     · rename_i h;exact absurd h h1
     · rename_i h;exact absurd h h2
     · rfl
 | block id body ih=>
   intro st
   show ZI id (codeF C ev f fuel body st)=_
   rw[ih,evalCode]
   cases evalCode C ev f fuel body st with
   |none=>rfl
   | some p=>
     obtain⟨e,st'⟩:=p
     cases e with
     | exit id'=>
       show cond (Nat.beq id' id) _ _=if id'=id then _ else _
       by_cases h:id'=id
       · rw[if_pos h,h,Nat.beq_refl];rfl
       · rw[if_neg h,show Nat.beq id' id=false from by rw[Bool.eq_false_iff];exactλe=>h (Nat.eq_of_beq_eq_true e)];rfl
     |normal=>rfl
     |ret=>rfl
     |panic _=>rfl
 | loop body ih=>
   intro st
   show Vk (codeF C ev f fuel body) fuel st=_
   rw[ZJ,evalCode,show codeF C ev f fuel body=evalCode C ev f fuel body from funext ih]
 |_=>intros;rfl
def ahn (C:ew)(ev:bp)(fuel:Nat)(f:FuncId)(args:List TV)(bq:List aP)(fn:Func)(body:Code):Option br:=
 match codeF C ev f fuel body {slots:=args++List.replicate (fn.ntmps - args.length) dc,H:=dw 0 bq,tick:=0} with
 |some (.normal,st)=>finish C fn bq.length st
 |some (.ret,st)=>finish C fn bq.length st
 |some (.panic v,st)=>if v.names.any Nm.jf then none else some (.panic v (uQ st.H 0 bq.length))
 |_=>none
def aeg (C:ew)(ev:bp)(fuel:Nat)(f:FuncId)(args:List TV)(bq:List aP):Option br:=
 jL (C.P.fn f) λfn=>jL fn.body λbody=>if fn.name= "runtime.NumGoroutine" then none else ahn C ev fuel f args bq fn body
theorem aeh (C:ew)(ev:bp)(fuel:Nat)(f:FuncId)(args:List TV)(bq:List aP):aeg C ev fuel f args bq=Pt C ev fuel f args bq:=by
 unfold aeg Pt;rcases h:C.P.fn f with _|fn
 ·rfl
 ·simp only[eZ];rcases h2:fn.body with _|body
  ·rfl
  ·simp only[eZ,ahn,codeF_eq];rfl
def Bn (C:ew)(X:Ext)(n:Nat):bp:=
 Nat.rec (motive:=λ_=>bp) (λ_ _ _=>none)
  (λn ih f args bq=>Option.rec (motive:=λ_=>Option br) (aeg C ih n f args bq) (λs=>s ih args bq) (X f)) n
theorem Df (C:ew)(X:Ext):∀n,Bn C X n=IM C X n:=by
 intro n;induction n with
 |zero=>rfl
 |succ n ih=>
  funext f args bq
  rw[IM]
  show Option.rec (motive:=λ_=>Option br) (aeg C (Bn C X n) n f args bq) (λs=>s (Bn C X n) args bq) (X f)=_
  rw[ih,aeh]
  cases X f<;>rfl
def asX:Option br->Bool
 |some (.ret (.t (.bool true)) [] [])=>true
 |_=>false
def GX:List UInt8->List UInt8->Bool
 | [],[]=>true
 |a::r,b::t=>cond (Nat.beq a.toNat b.toNat) (GX r t) false
 |_,_=>false
theorem Qg:∀{a b:List UInt8},GX a b=true->a=b
 | [],[],_=>rfl
 | [],_::_,h=>by simp[GX] at h
 |_::_,[],h=>by simp[GX] at h
 | a::r,b::t,h=>by
   simp only[GX] at h
   cases hn:Nat.beq a.toNat b.toNat with
   |false=>rw[hn] at h;cases h
   |true=>
    rw[hn] at h
    have e:a=b:=UInt8.toNat_inj.1 (Nat.eq_of_beq_eq_true hn)
    rw[e,Qg (show GX r t=true from h)]
def GY:List Tree->List (List UInt8)->Bool
 | [],[]=>true
 |.str s::r,b::t=>cond (GX s b) (GY r t) false
 |_,_=>false
theorem Qh:∀{a:List Tree} {b:List (List UInt8)},GY a b=true->a=b.map .str
 | [],[],_=>rfl
 | [],_::_,h=>by simp[GY] at h
 |x::r,[],h=>by cases x<;>simp[GY] at h
 | x ::r,b::t,h=>by
   cases x with
   | str s=>
    simp only[GY] at h
    cases hs:GX s b with
    |false=>rw[hs] at h;cases h
    |true=>
     rw[hs] at h
     rw[Qg hs,Qh (show GY r t=true from h)]
     rfl
   |_=>simp[GY] at h
def AK (ws:List (List UInt8)):Option br->Bool
 |some (.ret (.t (.sl es)) [] [])=>GY es ws
 |_=>false
theorem xW {ws:List (List UInt8)}{r:Option br}(h:AK ws r=true):r=some (.ret (.t (.sl (ws.map .str))) [] []):=by
 unfold AK at h;split at h
 ·rw[Qh h]
 ·cases h
end Go.Abs
end
noncomputable section
namespace Go.Abs
open Go Go.RowKit
section
variable {C:ew}{g f:FuncId}{G:Gh}{w:World}{vs:List Value}{ev:bp}
end
end Go.Abs
end
