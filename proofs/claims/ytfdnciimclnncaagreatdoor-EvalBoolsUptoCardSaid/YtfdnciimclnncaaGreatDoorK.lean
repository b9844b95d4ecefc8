/- The same interpreter, laid out for the kernel: bare recursors, small bodies. -/
import Derived.Test.YtfdnciimclnncaaGreatDoorD
import Derived.Test.YtfdnciimclnncaaGreatDoorJ
import Derived.Below
set_option linter.unusedVariables false
set_option linter.unusedSimpArgs false
noncomputable section
namespace Go.Abs
open Go
abbrev yg:=ey->bt->FuncId->Heap->List TV->Nat->Oper->Option s7
def jJ {α β:Type}(x:Option α)(k:α->Option β):Option β:=Option.rec (motive:=λ_=>Option β) none k x
theorem Jj {α β:Type}(k:α->Option β):jJ none k=none:=rfl
theorem eU {α β:Type}(a:α)(k:α->Option β):jJ (some a) k=k a:=rfl
def okv (v:TV):Option s7:=some (.val v [])
def yC (C:ey)(slots:List TV)(x:Operand):Option TV:=
 Operand.rec (motive:=λ_=>Option TV) (λt=>some (adI slots t)) (λv=>valOf v) (λg=>dz C slots (.global g)) (λf=>some (.t (.fn (.func f)))) x
theorem pG (C:ey)(slots:List TV)(x:Operand):yC C slots x=dz C slots x:=by
 cases x<;>rfl
def jg:yg:=λC ev f H slots t o=>bl C ev f H slots t o
def ND (x:Operand):yg:=λC _ _ _ slots _ _=>jJ (yC C slots x) okv
def alF (a b:TV):TV->Option s7
 |.t (.bool c)=>okv (cond c a b)
 |_=>none
def Zs (c a b:Operand):yg:=λC _ _ _ slots _ _=>
 jJ (yC C slots c) λc=>jJ (yC C slots a) λa=>jJ (yC C slots b) λb=>alF a b c
def Zt (t:TypeId)(a:Operand):yg:=λC _ _ H slots _ _=>jJ (yC C slots a) λa=>jJ (loadT C.P H t a) okv
def aha (op:BinOp)(t:TypeId)(x y:Operand)(_:TypeId):yg:=λC _ _ _ slots _ _=>
 jJ (yC C slots x) λa=>jJ (yC C slots y) λb=>jJ (vz C.P op t x y a b) okv
def alG (op:UnOp)(_:TypeId)(x:Operand):yg:=λC _ _ _ slots _ _=>jJ (yC C slots x) λa=>jJ (unT C.P op a) okv
def Gm (t:TypeId)(x i:Operand):yg:=λC _ _ H slots _ _=>
 jJ (yC C slots x) λa=>jJ (yC C slots i) λb=>jJ (fu C.P H t a b) okv
def U0 (t:TypeId)(x i:Operand):yg:=λC _ _ _ slots _ _=>
 jJ (yC C slots x) λa=>jJ (yC C slots i) λb=>jJ (s4 C.P t a b) okv
def U1 (t:TypeId)(a x:Operand):yg:=λC _ _ H slots _ _=>
 jJ (yC C slots a) λa=>jJ (yC C slots x) λx=>jJ (storeT C.P H t a x) λu=>some (.val dm u)
def ahb (x:Operand):yg:=λC _ _ _ slots _ _=>jJ (yC C slots x) λv=>cond (Pa v) (okv v) none
def wj (o:Oper):yg:=
 Op.rec (motive:=λ_=>yg) ND ND Zs (λ_=>jg) (λ_ _=>jg) (λ_ _=>jg) (λ_ _ _=>jg) (λ_ _ _ _=>jg) Zt U1
  (λ_=>jg) (λ_=>jg) ahb aha alG (λ_ _ _=>jg) (λ_ _=>jg) (λ_ _=>jg) (λ_ _ _=>jg) (λ_ _=>jg) (λ_ _=>jg)
  (λ_ _ _=>jg) (λ_ _ _ _ _=>jg) (λ_ _ _=>jg) (λ_ _ _=>jg) Gm U0 (λ_ _ _ _=>jg) (λ_ _ _ _=>jg) (λ_ _ _=>jg)
  (λ_ _ _ _=>jg) (λ_ _=>jg) (λ_ _=>jg) (λ_=>jg) (λ_ _ _ _=>jg) (λ_ _=>jg) (λ_=>jg) (λ_=>jg) (λ_=>jg) (λ_=>jg)
  (λ_ _=>jg) (λ_ _ _=>jg) (λ_ _=>jg) o.op
theorem Zu (C:ey)(ev:bt)(f:FuncId)(H:Heap)(slots:List TV)(t:Nat)(o:Oper):wj o C ev f H slots t o=bl C ev f H slots t o:=by
 obtain⟨dst,op,type,pos,after,guard⟩:=o;cases op with
 |move x=>simp only[wj,ND,bl,evalOp,pG];cases dz C slots x<;>rfl
 |assign x=>simp only[wj,ND,bl,evalOp,pG];cases dz C slots x<;>rfl
 | pick c a b=>
  simp only[wj,Zs,bl,evalOp,pG]
  cases h1:dz C slots c with
  |none=>rfl
  | some c=>
   cases h2:dz C slots a with
   |none=>simp only[eU,Jj]
   | some a=>
    cases h3:dz C slots b with
    |none=>simp only[eU,Jj]
    | some b=>
     simp only[eU]
     cases c with
     |t c=>
      cases c with
      |bool c=>cases c<;>rfl
      |_=>rfl
     |_=>rfl
 |load t a=>simp only[wj,Zt,bl,evalOp,pG];cases dz C slots a with
  |none=>rfl
  |some a=>simp only[eU];cases loadT C.P H t a<;>rfl
 | store t a x=>simp only[wj,U1,bl,evalOp,pG];cases dz C slots a with
  |none=>rfl
  |some a=>simp only[eU];cases dz C slots x with
   |none=>rfl
   |some x=>simp only[eU];cases storeT C.P H t a x<;>rfl
 |nilCheck x=>simp only[wj,ahb,bl,evalOp,pG];cases dz C slots x with
  |none=>rfl
  |some v=>simp only[eU];cases Pa v<;>rfl
 | binOp op t x y t'=>simp only[wj,aha,bl,evalOp,pG];cases dz C slots x with
  |none=>rfl
  |some a=>simp only[eU];cases dz C slots y with
   |none=>rfl
   |some b=>simp only[eU];cases vz C.P op t x y a b<;>rfl
 |unOp op t x=>simp only[wj,alG,bl,evalOp,pG];cases dz C slots x with
  |none=>rfl
  |some a=>simp only[eU];cases unT C.P op a<;>rfl
 | indexAddr t x i=>simp only[wj,Gm,bl,evalOp,pG];cases dz C slots x with
  |none=>rfl
  |some a=>simp only[eU];cases dz C slots i with
   |none=>rfl
   |some b=>simp only[eU];cases fu C.P H t a b<;>rfl
 | index t x i=>simp only[wj,U0,bl,evalOp,pG];cases dz C slots x with
  |none=>rfl
  |some a=>simp only[eU];cases dz C slots i with
   |none=>rfl
   |some b=>simp only[eU];cases s4 C.P t a b<;>rfl
 |_=>rfl
def Zv (ops:Array Oper)(slots:List TV)(o:Oper):Option Bool:=
 Option.rec (motive:=λ_=>Option Bool) (some true) (λ_=>eT ops slots o) o.guard
theorem Zw (ops:Array Oper)(slots:List TV)(o:Oper):Zv ops slots o=eT ops slots o:=by
 obtain⟨dst,op,type,pos,after,guard⟩:=o;cases guard<;>rfl
def aie (slots:List TV)(d:Option Tmp)(v:TV):List TV:=Option.rec (motive:=λ_=>List TV) slots (λd=>adJ v slots d) d
theorem U2 (slots:List TV)(d:Option Tmp)(v:TV):aie slots d v=ew slots d v:=by cases d<;>rfl
def Zx (C:ey)(ev:bt)(f:FuncId)(ops:Array Oper)(l:List Oper):List TV->Heap->Nat->Option (aQ×St):=
 List.rec (motive:=λ_=>List TV->Heap->Nat->Option (aQ×St)) (λslots H t=>some (.normal,{slots:=slots,H:=H,tick:=t}))
  (λo _ ih slots H t=>jJ (Zv ops slots o) λb=>
   Bool.rec (motive:=λ_=>Option (aQ×St)) (ih (aie slots o.dst dm) H (t+1))
    (jJ (wj o C ev f H slots t o) λr=>s7.rec (motive:=λ_=>Option (aQ×St)) (λv u=>ih (aie slots o.dst v) (H.eY u) (t+1))
     (λv u l=>some (.panic v,{slots:=slots,H:=(H.yz l).eY u,tick:=t+1})) r) b) l
theorem adY (C:ey)(ev:bt)(f:FuncId)(ops:Array Oper):∀(l:List Oper) (slots:List TV) (H:Heap) (t:Nat),Zx C ev f ops l slots H t=GY C ev f ops l {slots:=slots,H:=H,tick:=t}:=by
 intro l;induction l with
 |nil=>intro slots H t;rfl
 | cons o r ih=>
  intro slots H t
  show(jJ (Zv ops slots o) λb=>_)=_
  rw[GY,Zw]
  cases eT ops slots o with
  |none=>rfl
  | some b=>
   rw[eU]
   cases b with
   |false=>show Zx C ev f ops r _ _ _=_;rw[ih,U2]
   | true=>
    show(jJ (wj o C ev f H slots t o) λr=>_)=_
    rw[Zu]
    cases bl C ev f H slots t o with
    |none=>rfl
    |some res=>
     rw[eU]
     cases res with
     |val v u=>show Zx C ev f ops r _ _ _=_;rw[ih,U2]
     |panic v u l=>rfl
abbrev Gn:=St->Option (aQ×St)
def adZ (r:Option (aQ×St))(k:Gn):Option (aQ×St):=
 jJ r λp=>aQ.rec (motive:=λ_=>Option (aQ×St)) (k p.2) (λ_=>some p) (some p) (λ_=>some p) p.1
def q4 (a b:Gn)(st:St):Option TV->Option (aQ×St)
 |some (.t (.bool true))=>a st
 |some (.t (.bool false))=>b st
 |_=>none
def Zy (id:Nat):Option (aQ×St)->Option (aQ×St)
 |some (.exit id',st')=>cond (Nat.beq id' id) (some (.normal,st')) (some (.exit id',st'))
 |r=>r
def U3 (body:Gn)(n:Nat):Gn:=
 Nat.rec (motive:=λ_=>Gn) (λ_=>none) (λ_ ih st=>adZ (body st) ih) n
def codeF (C:ey)(ev:bt)(f:FuncId)(fuel:Nat)(c:Code):Gn:=
 Code.rec (motive:=λ_=>Gn)
  (λst=>some (.normal,st))
  (λ_ ops draw st=>cond draw (Af C ev f ops st) (Zx C ev f ops ops.toList st.slots st.H st.tick))
  (λ_ _ iha ihb st=>adZ (iha st) ihb)
  (λc _ _ iha ihb st=>q4 iha ihb st (yC C st.slots c))
  (λid _ ih st=>Zy id (ih st))
  (λ_ ih=>U3 ih fuel)
  (λ_ _ _ _ _ _ _=>none)
  (λid st=>some (.exit id,st))
  (λ_ _ _=>none)
  (λ_ st=>some (.normal,st))
  (λ_ _=>none)
  (λst=>some (.ret,st))
  (λ_ _=>none) c
theorem Zz (body:Gn):∀(n:Nat) (st:St),U3 body n st=Ij body n st:=by
 intro n;induction n with
 |zero=>intro st;rfl
 | succ n ih=>
  intro st
  show adZ (body st) (U3 body n)=_
  rw[Ij]
  cases body st with
  |none=>rfl
  |some p=>
   obtain⟨e,st'⟩:=p
   cases e with
   |normal=>exact ih st'
   |exit _=>rfl
   |ret=>rfl
   |panic _=>rfl
theorem codeF_eq (C:ey)(ev:bt)(f:FuncId)(fuel:Nat):∀(c:Code) (st:St),codeF C ev f fuel c st=evalCode C ev f fuel c st:=by
 intro c;induction c with
 |skip=>intro st;rfl
 | region id ops draw=>
   intro st
   show cond draw _ (Zx C ev f ops ops.toList st.slots st.H st.tick)=_
   rw[adY,evalCode]
   cases draw<;>rfl
 | seq a b iha ihb=>
   intro st
   show adZ (codeF C ev f fuel a st) (codeF C ev f fuel b)=_
   rw[iha,evalCode]
   cases evalCode C ev f fuel a st with
   |none=>rfl
   | some p=>
     obtain⟨e,st'⟩:=p
     cases e with
     |normal=>exact ihb st'
     |exit _=>rfl
     |ret=>rfl
     |panic _=>rfl
 | cond c a b iha ihb=>
   intro st
   show q4 (codeF C ev f fuel a) (codeF C ev f fuel b) st (yC C st.slots c)=_
   rw[pG,evalCode]
   unfold q4
   split
   · rename_i h;rw[h];exact iha st
   · rename_i h;rw[h];exact ihb st
   · rename_i h1 h2
     split
     · rename_i h;exact absurd h h1
     · rename_i h;exact absurd h h2
     · rfl
 | block id body ih=>
   intro st
   show Zy id (codeF C ev f fuel body st)=_
   rw[ih,evalCode]
   cases evalCode C ev f fuel body st with
   |none=>rfl
   | some p=>
     obtain⟨e,st'⟩:=p
     cases e with
     | exit id'=>
       show cond (Nat.beq id' id) _ _=if id'=id then _ else _
       by_cases h:id'=id
       · rw[if_pos h,h,Nat.beq_refl];rfl
       · rw[if_neg h,show Nat.beq id' id=false from by rw[Bool.eq_false_iff];exactλe=>h (Nat.eq_of_beq_eq_true e)];rfl
     |normal=>rfl
     |ret=>rfl
     |panic _=>rfl
 | loop body ih=>
   intro st
   show U3 (codeF C ev f fuel body) fuel st=_
   rw[Zz,evalCode,show codeF C ev f fuel body=evalCode C ev f fuel body from funext ih]
 |_=>intros;rfl
def ahc (C:ey)(ev:bt)(fuel:Nat)(f:FuncId)(args:List TV)(bu:List aO)(fn:Func)(body:Code):Option br:=
 match codeF C ev f fuel body {slots:=args++List.replicate (fn.ntmps - args.length) dm,H:=dA 0 bu,tick:=0} with
 |some (.normal,st)=>finish C fn bu.length st
 |some (.ret,st)=>finish C fn bu.length st
 |some (.panic v,st)=>if v.names.any Nm.jf then none else some (.panic v (uN st.H 0 bu.length))
 |_=>none
def ad0 (C:ey)(ev:bt)(fuel:Nat)(f:FuncId)(args:List TV)(bu:List aO):Option br:=
 jJ (C.P.fn f) λfn=>jJ fn.body λbody=>if fn.name= "runtime.NumGoroutine" then none else ahc C ev fuel f args bu fn body
theorem ad1 (C:ey)(ev:bt)(fuel:Nat)(f:FuncId)(args:List TV)(bu:List aO):ad0 C ev fuel f args bu=Pd C ev fuel f args bu:=by
 unfold ad0 Pd;rcases h:C.P.fn f with _|fn
 ·rfl
 ·simp only[eU];rcases h2:fn.body with _|body
  ·rfl
  ·simp only[eU,ahc,codeF_eq];rfl
def A3 (C:ey)(X:Ext)(n:Nat):bt:=
 Nat.rec (motive:=λ_=>bt) (λ_ _ _=>none)
  (λn ih f args bu=>Option.rec (motive:=λ_=>Option br) (ad0 C ih n f args bu) (λs=>s ih args bu) (X f)) n
theorem CU (C:ey)(X:Ext):∀n,A3 C X n=Ik C X n:=by
 intro n;induction n with
 |zero=>rfl
 |succ n ih=>
  funext f args bu
  rw[Ik]
  show Option.rec (motive:=λ_=>Option br) (ad0 C (A3 C X n) n f args bu) (λs=>s (A3 C X n) args bu) (X f)=_
  rw[ih,ad1]
  cases X f<;>rfl
def asE:Option br->Bool
 |some (.ret (.t (.bool true)) [] [])=>true
 |_=>false
def Gp:List UInt8->List UInt8->Bool
 | [],[]=>true
 |a::r,b::t=>cond (Nat.beq a.toNat b.toNat) (Gp r t) false
 |_,_=>false
theorem P4:∀{a b:List UInt8},Gp a b=true->a=b
 | [],[],_=>rfl
 | [],_::_,h=>by simp[Gp] at h
 |_::_,[],h=>by simp[Gp] at h
 | a::r,b::t,h=>by
   simp only[Gp] at h
   cases hn:Nat.beq a.toNat b.toNat with
   |false=>rw[hn] at h;cases h
   |true=>
    rw[hn] at h
    have e:a=b:=UInt8.toNat_inj.1 (Nat.eq_of_beq_eq_true hn)
    rw[e,P4 (show Gp r t=true from h)]
def Gq:List Tree->List (List UInt8)->Bool
 | [],[]=>true
 |.str s::r,b::t=>cond (Gp s b) (Gq r t) false
 |_,_=>false
theorem P5:∀{a:List Tree} {b:List (List UInt8)},Gq a b=true->a=b.map .str
 | [],[],_=>rfl
 | [],_::_,h=>by simp[Gq] at h
 |x::r,[],h=>by cases x<;>simp[Gq] at h
 | x ::r,b::t,h=>by
   cases x with
   | str s=>
    simp only[Gq] at h
    cases hs:Gp s b with
    |false=>rw[hs] at h;cases h
    |true=>
     rw[hs] at h
     rw[P4 hs,P5 (show Gq r t=true from h)]
     rfl
   |_=>simp[Gq] at h
def Ar (ws:List (List UInt8)):Option br->Bool
 |some (.ret (.t (.sl es)) [] [])=>Gq es ws
 |_=>false
theorem xE {ws:List (List UInt8)}{r:Option br}(h:Ar ws r=true):r=some (.ret (.t (.sl (ws.map .str))) [] []):=by
 unfold Ar at h;split at h
 ·rw[P5 h]
 ·cases h
end Go.Abs
end
noncomputable section
namespace Go.Abs
open Go Go.RowKit
section
variable {C:ey}{g f:FuncId}{G:Gh}{w:World}{vs:List Value}{ev:bt}
end
end Go.Abs
end
