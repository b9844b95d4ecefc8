/- The same interpreter, laid out for the kernel: bare recursors, small bodies. -/
import Derived.Test.YtfdnciimclnncaaGreatDoorD
import Derived.Test.YtfdnciimclnncaaGreatDoorJ
import Derived.Below
set_option linter.unusedVariables false
set_option linter.unusedSimpArgs false
noncomputable section
namespace Go.Abs
open Go
abbrev yx:=ez->bt->FuncId->Heap->List TV->Nat->Oper->Option tD
def jL {α β:Type}(x:Option α)(k:α->Option β):Option β:=Option.rec (motive:=λ_=>Option β) none k x
theorem JA {α β:Type}(k:α->Option β):jL none k=none:=rfl
theorem eV {α β:Type}(a:α)(k:α->Option β):jL (some a) k=k a:=rfl
def okv (v:TV):Option tD:=some (.val v [])
def yK (C:ez)(slots:List TV)(x:Operand):Option TV:=
 Operand.rec (motive:=λ_=>Option TV) (λt=>some (adW slots t)) (λv=>valOf v) (λg=>dw C slots (.global g)) (λf=>some (.t (.fn (.func f)))) x
theorem pM (C:ez)(slots:List TV)(x:Operand):yK C slots x=dw C slots x:=by
 cases x<;>rfl
def jg:yx:=λC ev f H slots t o=>bp C ev f H slots t o
def NV (x:Operand):yx:=λC _ _ _ slots _ _=>jL (yK C slots x) okv
def alH (a b:TV):TV->Option tD
 |.t (.bool c)=>okv (cond c a b)
 |_=>none
def ZF (c a b:Operand):yx:=λC _ _ _ slots _ _=>
 jL (yK C slots c) λc=>jL (yK C slots a) λa=>jL (yK C slots b) λb=>alH a b c
def ZG (t:TypeId)(a:Operand):yx:=λC _ _ H slots _ _=>jL (yK C slots a) λa=>jL (loadT C.P H t a) okv
def aho (op:BinOp)(t:TypeId)(x y:Operand)(_:TypeId):yx:=λC _ _ _ slots _ _=>
 jL (yK C slots x) λa=>jL (yK C slots y) λb=>jL (vK C.P op t x y a b) okv
def alI (op:UnOp)(_:TypeId)(x:Operand):yx:=λC _ _ _ slots _ _=>jL (yK C slots x) λa=>jL (unT C.P op a) okv
def Gy (t:TypeId)(x i:Operand):yx:=λC _ _ H slots _ _=>
 jL (yK C slots x) λa=>jL (yK C slots i) λb=>jL (fA C.P H t a b) okv
def Vc (t:TypeId)(x i:Operand):yx:=λC _ _ _ slots _ _=>
 jL (yK C slots x) λa=>jL (yK C slots i) λb=>jL (tA C.P t a b) okv
def Vd (t:TypeId)(a x:Operand):yx:=λC _ _ H slots _ _=>
 jL (yK C slots a) λa=>jL (yK C slots x) λx=>jL (storeT C.P H t a x) λu=>some (.val dh u)
def ahp (x:Operand):yx:=λC _ _ _ slots _ _=>jL (yK C slots x) λv=>cond (Pr v) (okv v) none
def wE (o:Oper):yx:=
 Op.rec (motive:=λ_=>yx) NV NV ZF (λ_=>jg) (λ_ _=>jg) (λ_ _=>jg) (λ_ _ _=>jg) (λ_ _ _ _=>jg) ZG Vd
  (λ_=>jg) (λ_=>jg) ahp aho alI (λ_ _ _=>jg) (λ_ _=>jg) (λ_ _=>jg) (λ_ _ _=>jg) (λ_ _=>jg) (λ_ _=>jg)
  (λ_ _ _=>jg) (λ_ _ _ _ _=>jg) (λ_ _ _=>jg) (λ_ _ _=>jg) Gy Vc (λ_ _ _ _=>jg) (λ_ _ _ _=>jg) (λ_ _ _=>jg)
  (λ_ _ _ _=>jg) (λ_ _=>jg) (λ_ _=>jg) (λ_=>jg) (λ_ _ _ _=>jg) (λ_ _=>jg) (λ_=>jg) (λ_=>jg) (λ_=>jg) (λ_=>jg)
  (λ_ _=>jg) (λ_ _ _=>jg) (λ_ _=>jg) o.op
theorem ZH (C:ez)(ev:bt)(f:FuncId)(H:Heap)(slots:List TV)(t:Nat)(o:Oper):wE o C ev f H slots t o=bp C ev f H slots t o:=by
 obtain⟨dst,op,type,pos,after,guard⟩:=o;cases op with
 |move x=>simp only[wE,NV,bp,evalOp,pM];cases dw C slots x<;>rfl
 |assign x=>simp only[wE,NV,bp,evalOp,pM];cases dw C slots x<;>rfl
 | pick c a b=>
  simp only[wE,ZF,bp,evalOp,pM]
  cases h1:dw C slots c with
  |none=>rfl
  | some c=>
   cases h2:dw C slots a with
   |none=>simp only[eV,JA]
   | some a=>
    cases h3:dw C slots b with
    |none=>simp only[eV,JA]
    | some b=>
     simp only[eV]
     cases c with
     |t c=>
      cases c with
      |bool c=>cases c<;>rfl
      |_=>rfl
     |_=>rfl
 |load t a=>simp only[wE,ZG,bp,evalOp,pM];cases dw C slots a with
  |none=>rfl
  |some a=>simp only[eV];cases loadT C.P H t a<;>rfl
 | store t a x=>simp only[wE,Vd,bp,evalOp,pM];cases dw C slots a with
  |none=>rfl
  |some a=>simp only[eV];cases dw C slots x with
   |none=>rfl
   |some x=>simp only[eV];cases storeT C.P H t a x<;>rfl
 |nilCheck x=>simp only[wE,ahp,bp,evalOp,pM];cases dw C slots x with
  |none=>rfl
  |some v=>simp only[eV];cases Pr v<;>rfl
 | binOp op t x y t'=>simp only[wE,aho,bp,evalOp,pM];cases dw C slots x with
  |none=>rfl
  |some a=>simp only[eV];cases dw C slots y with
   |none=>rfl
   |some b=>simp only[eV];cases vK C.P op t x y a b<;>rfl
 |unOp op t x=>simp only[wE,alI,bp,evalOp,pM];cases dw C slots x with
  |none=>rfl
  |some a=>simp only[eV];cases unT C.P op a<;>rfl
 | indexAddr t x i=>simp only[wE,Gy,bp,evalOp,pM];cases dw C slots x with
  |none=>rfl
  |some a=>simp only[eV];cases dw C slots i with
   |none=>rfl
   |some b=>simp only[eV];cases fA C.P H t a b<;>rfl
 | index t x i=>simp only[wE,Vc,bp,evalOp,pM];cases dw C slots x with
  |none=>rfl
  |some a=>simp only[eV];cases dw C slots i with
   |none=>rfl
   |some b=>simp only[eV];cases tA C.P t a b<;>rfl
 |_=>rfl
def ZI (ops:Array Oper)(slots:List TV)(o:Oper):Option Bool:=
 Option.rec (motive:=λ_=>Option Bool) (some true) (λ_=>eT ops slots o) o.guard
theorem ZJ (ops:Array Oper)(slots:List TV)(o:Oper):ZI ops slots o=eT ops slots o:=by
 obtain⟨dst,op,type,pos,after,guard⟩:=o;cases guard<;>rfl
def air (slots:List TV)(d:Option Tmp)(v:TV):List TV:=Option.rec (motive:=λ_=>List TV) slots (λd=>adX v slots d) d
theorem Ve (slots:List TV)(d:Option Tmp)(v:TV):air slots d v=ey slots d v:=by cases d<;>rfl
def ZK (C:ez)(ev:bt)(f:FuncId)(ops:Array Oper)(l:List Oper):List TV->Heap->Nat->Option (aS×St):=
 List.rec (motive:=λ_=>List TV->Heap->Nat->Option (aS×St)) (λslots H t=>some (.normal,{slots:=slots,H:=H,tick:=t}))
  (λo _ ih slots H t=>jL (ZI ops slots o) λb=>
   Bool.rec (motive:=λ_=>Option (aS×St)) (ih (air slots o.dst dh) H (t+1))
    (jL (wE o C ev f H slots t o) λr=>tD.rec (motive:=λ_=>Option (aS×St)) (λv u=>ih (air slots o.dst v) (H.eY u) (t+1))
     (λv u l=>some (.panic v,{slots:=slots,H:=(H.yG l).eY u,tick:=t+1})) r) b) l
theorem aec (C:ez)(ev:bt)(f:FuncId)(ops:Array Oper):∀(l:List Oper) (slots:List TV) (H:Heap) (t:Nat),ZK C ev f ops l slots H t=Hg C ev f ops l {slots:=slots,H:=H,tick:=t}:=by
 intro l;induction l with
 |nil=>intro slots H t;rfl
 | cons o r ih=>
  intro slots H t
  show(jL (ZI ops slots o) λb=>_)=_
  rw[Hg,ZJ]
  cases eT ops slots o with
  |none=>rfl
  | some b=>
   rw[eV]
   cases b with
   |false=>show ZK C ev f ops r _ _ _=_;rw[ih,Ve]
   | true=>
    show(jL (wE o C ev f H slots t o) λr=>_)=_
    rw[ZH]
    cases bp C ev f H slots t o with
    |none=>rfl
    |some res=>
     rw[eV]
     cases res with
     |val v u=>show ZK C ev f ops r _ _ _=_;rw[ih,Ve]
     |panic v u l=>rfl
abbrev Gz:=St->Option (aS×St)
def aed (r:Option (aS×St))(k:Gz):Option (aS×St):=
 jL r λp=>aS.rec (motive:=λ_=>Option (aS×St)) (k p.2) (λ_=>some p) (some p) (λ_=>some p) p.1
def rA (a b:Gz)(st:St):Option TV->Option (aS×St)
 |some (.t (.bool true))=>a st
 |some (.t (.bool false))=>b st
 |_=>none
def ZL (id:Nat):Option (aS×St)->Option (aS×St)
 |some (.exit id',st')=>cond (Nat.beq id' id) (some (.normal,st')) (some (.exit id',st'))
 |r=>r
def Vf (body:Gz)(n:Nat):Gz:=
 Nat.rec (motive:=λ_=>Gz) (λ_=>none) (λ_ ih st=>aed (body st) ih) n
def codeF (C:ez)(ev:bt)(f:FuncId)(fuel:Nat)(c:Code):Gz:=
 Code.rec (motive:=λ_=>Gz)
  (λst=>some (.normal,st))
  (λ_ ops draw st=>cond draw (Ak C ev f ops st) (ZK C ev f ops ops.toList st.slots st.H st.tick))
  (λ_ _ iha ihb st=>aed (iha st) ihb)
  (λc _ _ iha ihb st=>rA iha ihb st (yK C st.slots c))
  (λid _ ih st=>ZL id (ih st))
  (λ_ ih=>Vf ih fuel)
  (λ_ _ _ _ _ _ _=>none)
  (λid st=>some (.exit id,st))
  (λ_ _ _=>none)
  (λ_ st=>some (.normal,st))
  (λ_ _=>none)
  (λst=>some (.ret,st))
  (λ_ _=>none) c
theorem ZM (body:Gz):∀(n:Nat) (st:St),Vf body n st=IE body n st:=by
 intro n;induction n with
 |zero=>intro st;rfl
 | succ n ih=>
  intro st
  show aed (body st) (Vf body n)=_
  rw[IE]
  cases body st with
  |none=>rfl
  |some p=>
   obtain⟨e,st'⟩:=p
   cases e with
   |normal=>exact ih st'
   |exit _=>rfl
   |ret=>rfl
   |panic _=>rfl
theorem codeF_eq (C:ez)(ev:bt)(f:FuncId)(fuel:Nat):∀(c:Code) (st:St),codeF C ev f fuel c st=evalCode C ev f fuel c st:=by
 intro c;induction c with
 |skip=>intro st;rfl
 | region id ops draw=>
   intro st
   show cond draw _ (ZK C ev f ops ops.toList st.slots st.H st.tick)=_
   rw[aec,evalCode]
   cases draw<;>rfl
 | seq a b iha ihb=>
   intro st
   show aed (codeF C ev f fuel a st) (codeF C ev f fuel b)=_
   rw[iha,evalCode]
   cases evalCode C ev f fuel a st with
   |none=>rfl
   | some p=>
     obtain⟨e,st'⟩:=p
     cases e with
     |normal=>exact ihb st'
     |exit _=>rfl
     |ret=>rfl
     |panic _=>rfl
 | cond c a b iha ihb=>
   intro st
   show rA (codeF C ev f fuel a) (codeF C ev f fuel b) st (yK C st.slots c)=_
   rw[pM,evalCode]
   unfold rA
   split
   · rename_i h;rw[h];exact iha st
   · rename_i h;rw[h];exact ihb st
   · rename_i h1 h2
     split
     · rename_i h;exact absurd h h1
     · rename_i h;exact absurd h h2
     · rfl
 | block id body ih=>
   intro st
   show ZL id (codeF C ev f fuel body st)=_
   rw[ih,evalCode]
   cases evalCode C ev f fuel body st with
   |none=>rfl
   | some p=>
     obtain⟨e,st'⟩:=p
     cases e with
     | exit id'=>
       show cond (Nat.beq id' id) _ _=if id'=id then _ else _
       by_cases h:id'=id
       · rw[if_pos h,h,Nat.beq_refl];rfl
       · rw[if_neg h,show Nat.beq id' id=false from by rw[Bool.eq_false_iff];exactλe=>h (Nat.eq_of_beq_eq_true e)];rfl
     |normal=>rfl
     |ret=>rfl
     |panic _=>rfl
 | loop body ih=>
   intro st
   show Vf (codeF C ev f fuel body) fuel st=_
   rw[ZM,evalCode,show codeF C ev f fuel body=evalCode C ev f fuel body from funext ih]
 |_=>intros;rfl
def ahq (C:ez)(ev:bt)(fuel:Nat)(f:FuncId)(args:List TV)(bu:List aP)(fn:Func)(body:Code):Option bh:=
 match codeF C ev f fuel body {slots:=args++List.replicate (fn.ntmps - args.length) dh,H:=dz 0 bu,tick:=0} with
 |some (.normal,st)=>finish C fn bu.length st
 |some (.ret,st)=>finish C fn bu.length st
 |some (.panic v,st)=>if v.names.any Nm.jf then none else some (.panic v (uY st.H 0 bu.length))
 |_=>none
def aee (C:ez)(ev:bt)(fuel:Nat)(f:FuncId)(args:List TV)(bu:List aP):Option bh:=
 jL (C.P.fn f) λfn=>jL fn.body λbody=>if fn.name= "runtime.NumGoroutine" then none else ahq C ev fuel f args bu fn body
theorem aef (C:ez)(ev:bt)(fuel:Nat)(f:FuncId)(args:List TV)(bu:List aP):aee C ev fuel f args bu=Pv C ev fuel f args bu:=by
 unfold aee Pv;rcases h:C.P.fn f with _|fn
 ·rfl
 ·simp only[eV];rcases h2:fn.body with _|body
  ·rfl
  ·simp only[eV,ahq,codeF_eq];rfl
def A7 (C:ez)(X:Ext)(n:Nat):bt:=
 Nat.rec (motive:=λ_=>bt) (λ_ _ _=>none)
  (λn ih f args bu=>Option.rec (motive:=λ_=>Option bh) (aee C ih n f args bu) (λs=>s ih args bu) (X f)) n
theorem CZ (C:ez)(X:Ext):∀n,A7 C X n=IF C X n:=by
 intro n;induction n with
 |zero=>rfl
 |succ n ih=>
  funext f args bu
  rw[IF]
  show Option.rec (motive:=λ_=>Option bh) (aee C (A7 C X n) n f args bu) (λs=>s (A7 C X n) args bu) (X f)=_
  rw[ih,aef]
  cases X f<;>rfl
def asD:Option bh->Bool
 |some (.ret (.t (.bool true)) [] [])=>true
 |_=>false
def GB:List UInt8->List UInt8->Bool
 | [],[]=>true
 |a::r,b::t=>cond (Nat.beq a.toNat b.toNat) (GB r t) false
 |_,_=>false
theorem Qj:∀{a b:List UInt8},GB a b=true->a=b
 | [],[],_=>rfl
 | [],_::_,h=>by simp[GB] at h
 |_::_,[],h=>by simp[GB] at h
 | a::r,b::t,h=>by
   simp only[GB] at h
   cases hn:Nat.beq a.toNat b.toNat with
   |false=>rw[hn] at h;cases h
   |true=>
    rw[hn] at h
    have e:a=b:=UInt8.toNat_inj.1 (Nat.eq_of_beq_eq_true hn)
    rw[e,Qj (show GB r t=true from h)]
def GC:List Tree->List (List UInt8)->Bool
 | [],[]=>true
 |.str s::r,b::t=>cond (GB s b) (GC r t) false
 |_,_=>false
theorem Qk:∀{a:List Tree} {b:List (List UInt8)},GC a b=true->a=b.map .str
 | [],[],_=>rfl
 | [],_::_,h=>by simp[GC] at h
 |x::r,[],h=>by cases x<;>simp[GC] at h
 | x ::r,b::t,h=>by
   cases x with
   | str s=>
    simp only[GC] at h
    cases hs:GB s b with
    |false=>rw[hs] at h;cases h
    |true=>
     rw[hs] at h
     rw[Qj hs,Qk (show GC r t=true from h)]
     rfl
   |_=>simp[GC] at h
def Ax (ws:List (List UInt8)):Option bh->Bool
 |some (.ret (.t (.sl es)) [] [])=>GC es ws
 |_=>false
theorem xQ {ws:List (List UInt8)}{r:Option bh}(h:Ax ws r=true):r=some (.ret (.t (.sl (ws.map .str))) [] []):=by
 unfold Ax at h;split at h
 ·rw[Qk h]
 ·cases h
end Go.Abs
end
noncomputable section
namespace Go.Abs
open Go Go.RowKit
section
variable {C:ez}{g f:FuncId}{G:Gh}{w:World}{vs:List Value}{ev:bt}
end
end Go.Abs
end
