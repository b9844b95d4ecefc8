/- The same interpreter, laid out for the kernel: bare recursors, small bodies. -/
import Derived.Test.YtijfhoelihclbaaGreatDoorD
import Derived.Test.YtijfhoelihclbaaGreatDoorJ
import Derived.Below
noncomputable section
namespace Go.Abs
open Go
abbrev uB:=dI→aW→FuncId→Heap→List TV→Nat→Oper→Option xw
def iy {α β:Type}(x:Option α)(k:α→Option β):Option β:=Option.rec (motive:=fun _=>Option β) none k x
theorem DD {α β:Type}(k:α→Option β):iy none k=none:=rfl
theorem dr {α β:Type}(a:α)(k:α→Option β):iy (some a) k=k a:=rfl
def Z2 (v:TV):Option xw:=some (.val v [])
def uK (C:dI)(slots:List TV)(x:Operand):Option TV:=
 Operand.rec (motive:=fun _=>Option TV) (fun t=>some (XB slots t)) (fun v=>valOf v) (fun g=>dB C slots (.global g)) (fun f=>some (.t (.fn (.func f)))) x
theorem mH (C:dI)(slots:List TV)(x:Operand):uK C slots x=dB C slots x:=by
 cases x<;>rfl
def ic:uB:=fun C ev f H slots t o=>bk C ev f H slots t o
def Ht (x:Operand):uB:=fun C _ _ _ slots _ _=>iy (uK C slots x) Z2
def aeW (a b:TV):TV→Option xw
 |.t (.bool c)=>Z2 (cond c a b)
 |_=>none
def S3 (c a b:Operand):uB:=fun C _ _ _ slots _ _=>
 iy (uK C slots c) fun c=>iy (uK C slots a) fun a=>iy (uK C slots b) fun b=>aeW a b c
def S4 (t:TypeId)(a:Operand):uB:=fun C _ _ H slots _ _=>iy (uK C slots a) fun a=>iy (loadT C.P H t a) Z2
def Z3 (op:BinOp)(t:TypeId)(x y:Operand)(_:TypeId):uB:=fun C _ _ _ slots _ _=>
 iy (uK C slots x) fun a=>iy (uK C slots y) fun b=>iy (GL C.P op t x y a b) Z2
def aeX (op:UnOp)(_:TypeId)(x:Operand):uB:=fun C _ _ _ slots _ _=>iy (uK C slots x) fun a=>iy (unT C.P op a) Z2
def BO (t:TypeId)(x i:Operand):uB:=fun C _ _ H slots _ _=>
 iy (uK C slots x) fun a=>iy (uK C slots i) fun b=>iy (fE C.P H t a b) Z2
def Oe (t:TypeId)(x i:Operand):uB:=fun C _ _ _ slots _ _=>
 iy (uK C slots x) fun a=>iy (uK C slots i) fun b=>iy (p9 C.P t a b) Z2
def Og (t:TypeId)(a x:Operand):uB:=fun C _ _ H slots _ _=>
 iy (uK C slots a) fun a=>iy (uK C slots x) fun x=>iy (storeT C.P H t a x) fun u=>some (.val cz u)
def Z4 (x:Operand):uB:=fun C _ _ _ slots _ _=>iy (uK C slots x) fun v=>cond (Fo v) (Z2 v) none
def sG (o:Oper):uB:=
 Op.rec (motive:=fun _=>uB) Ht Ht S3 (fun _=>ic) (fun _ _=>ic) (fun _ _=>ic) (fun _ _ _=>ic) (fun _ _ _ _=>ic) S4 Og
  (fun _=>ic) (fun _=>ic) Z4 Z3 aeX (fun _ _ _=>ic) (fun _ _=>ic) (fun _ _=>ic) (fun _ _ _=>ic) (fun _ _=>ic) (fun _ _=>ic)
  (fun _ _ _=>ic) (fun _ _ _ _ _=>ic) (fun _ _ _=>ic) (fun _ _ _=>ic) BO Oe (fun _ _ _ _=>ic) (fun _ _ _ _=>ic) (fun _ _ _=>ic)
  (fun _ _ _ _=>ic) (fun _ _=>ic) (fun _ _=>ic) (fun _=>ic) (fun _ _ _ _=>ic) (fun _ _=>ic) (fun _=>ic) (fun _=>ic) (fun _=>ic) (fun _=>ic)
  (fun _ _=>ic) (fun _ _ _=>ic) (fun _ _=>ic) o.op
theorem S5 (C:dI)(ev:aW)(f:FuncId)(H:Heap)(slots:List TV)(t:Nat)(o:Oper):sG o C ev f H slots t o=bk C ev f H slots t o:=by
 obtain⟨dst,op,type,pos,after,guard⟩:=o
 cases op with
 |move x=>simp only[sG,Ht,bk,evalOp,mH];cases dB C slots x<;>rfl
 |assign x=>simp only[sG,Ht,bk,evalOp,mH];cases dB C slots x<;>rfl
 | pick c a b=>
  simp only[sG,S3,bk,evalOp,mH]
  cases h1:dB C slots c with
  |none=>rfl
  | some c=>
   cases h2:dB C slots a with
   |none=>simp only[dr,DD]
   | some a=>
    cases h3:dB C slots b with
    |none=>simp only[dr,DD]
    | some b=>
     simp only[dr]
     cases c with
     |t c=>
      cases c with
      |bool c=>cases c<;>rfl
      |_=>rfl
     |_=>rfl
 |load t a=>simp only[sG,S4,bk,evalOp,mH];cases dB C slots a with
  |none=>rfl
  |some a=>simp only[dr];cases loadT C.P H t a<;>rfl
 | store t a x=>simp only[sG,Og,bk,evalOp,mH];cases dB C slots a with
  |none=>rfl
  |some a=>simp only[dr];cases dB C slots x with
   |none=>rfl
   |some x=>simp only[dr];cases storeT C.P H t a x<;>rfl
 |nilCheck x=>simp only[sG,Z4,bk,evalOp,mH];cases dB C slots x with
  |none=>rfl
  |some v=>simp only[dr];cases Fo v<;>rfl
 | binOp op t x y t'=>simp only[sG,Z3,bk,evalOp,mH];cases dB C slots x with
  |none=>rfl
  |some a=>simp only[dr];cases dB C slots y with
   |none=>rfl
   |some b=>simp only[dr];cases GL C.P op t x y a b<;>rfl
 |unOp op t x=>simp only[sG,aeX,bk,evalOp,mH];cases dB C slots x with
  |none=>rfl
  |some a=>simp only[dr];cases unT C.P op a<;>rfl
 | indexAddr t x i=>simp only[sG,BO,bk,evalOp,mH];cases dB C slots x with
  |none=>rfl
  |some a=>simp only[dr];cases dB C slots i with
   |none=>rfl
   |some b=>simp only[dr];cases fE C.P H t a b<;>rfl
 | index t x i=>simp only[sG,Oe,bk,evalOp,mH];cases dB C slots x with
  |none=>rfl
  |some a=>simp only[dr];cases dB C slots i with
   |none=>rfl
   |some b=>simp only[dr];cases p9 C.P t a b<;>rfl
 |_=>rfl
def S6 (ops:Array Oper)(slots:List TV)(o:Oper):Option Bool:=
 Option.rec (motive:=fun _=>Option Bool) (some true) (fun _=>dR ops slots o) o.guard
theorem S7 (ops:Array Oper)(slots:List TV)(o:Oper):S6 ops slots o=dR ops slots o:=by
 obtain⟨dst,op,type,pos,after,guard⟩:=o
 cases guard<;>rfl
def aby (slots:List TV)(d:Option Tmp)(v:TV):List TV:=Option.rec (motive:=fun _=>List TV) slots (fun d=>XD v slots d) d
theorem Oh (slots:List TV)(d:Option Tmp)(v:TV):aby slots d v=fB slots d v:=by cases d<;>rfl
def S8 (C:dI)(ev:aW)(f:FuncId)(ops:Array Oper)(l:List Oper):List TV→Heap→Nat→Option (aP×St):=
 List.rec (motive:=fun _=>List TV→Heap→Nat→Option (aP×St)) (fun slots H t=>some (.normal,{slots:=slots,H:=H,tick:=t}))
  (fun o _ ih slots H t=>iy (S6 ops slots o) fun b=>
   Bool.rec (motive:=fun _=>Option (aP×St)) (ih (aby slots o.dst cz) H (t+1))
    (iy (sG o C ev f H slots t o) fun r=>xw.rec (motive:=fun _=>Option (aP×St)) (fun v u=>ih (aby slots o.dst v) (H.ei u) (t+1))
     (fun v u l=>some (.panic v,{slots:=slots,H:=(H.uH l).ei u,tick:=t+1})) r) b) l
theorem XW (C:dI)(ev:aW)(f:FuncId)(ops:Array Oper):∀(l:List Oper) (slots:List TV) (H:Heap) (t:Nat),S8 C ev f ops l slots H t=B1 C ev f ops l {slots:=slots,H:=H,tick:=t}:=by
 intro l
 induction l with
 |nil=>intro slots H t;rfl
 | cons o r ih=>
  intro slots H t
  show(iy (S6 ops slots o) fun b=>_)=_
  rw[B1,S7]
  cases dR ops slots o with
  |none=>rfl
  | some b=>
   rw[dr]
   cases b with
   |false=>show S8 C ev f ops r _ _ _=_;rw[ih,Oh]
   | true=>
    show(iy (sG o C ev f H slots t o) fun r=>_)=_
    rw[S5]
    cases bk C ev f H slots t o with
    |none=>rfl
    |some res=>
     rw[dr]
     cases res with
     |val v u=>show S8 C ev f ops r _ _ _=_;rw[ih,Oh]
     |panic v u l=>rfl
abbrev BP:=St→Option (aP×St)
def XX (r:Option (aP×St))(k:BP):Option (aP×St):=
 iy r fun p=>aP.rec (motive:=fun _=>Option (aP×St)) (k p.2) (fun _=>some p) (some p) (fun _=>some p) p.1
def nt (a b:BP)(st:St):Option TV→Option (aP×St)
 |some (.t (.bool true))=>a st
 |some (.t (.bool false))=>b st
 |_=>none
def S9 (id:Nat):Option (aP×St)→Option (aP×St)
 |some (.exit id',st')=>cond (Nat.beq id' id) (some (.normal,st')) (some (.exit id',st'))
 |r=>r
def Oi (body:BP)(n:Nat):BP:=
 Nat.rec (motive:=fun _=>BP) (fun _=>none) (fun _ ih st=>XX (body st) ih) n
def codeF (C:dI)(ev:aW)(f:FuncId)(fuel:Nat)(c:Code):BP:=
 Code.rec (motive:=fun _=>BP)
  (fun st=>some (.normal,st))
  (fun _ ops draw st=>cond draw (q9 C ev f ops st) (S8 C ev f ops ops.toList st.slots st.H st.tick))
  (fun _ _ iha ihb st=>XX (iha st) ihb)
  (fun c _ _ iha ihb st=>nt iha ihb st (uK C st.slots c))
  (fun id _ ih st=>S9 id (ih st))
  (fun _ ih=>Oi ih fuel)
  (fun _ _ _ _ _ _ _=>none)
  (fun id st=>some (.exit id,st))
  (fun _ _ _=>none)
  (fun _ st=>some (.normal,st))
  (fun _ _=>none)
  (fun st=>some (.ret,st))
  (fun _ _=>none) c
theorem Ta (body:BP):∀(n:Nat) (st:St),Oi body n st=CL body n st:=by
 intro n
 induction n with
 |zero=>intro st;rfl
 | succ n ih=>
  intro st
  show XX (body st) (Oi body n)=_
  rw[CL]
  cases body st with
  |none=>rfl
  |some p=>
   obtain⟨e,st'⟩:=p
   cases e with
   |normal=>exact ih st'
   |exit _=>rfl
   |ret=>rfl
   |panic _=>rfl
theorem codeF_eq (C:dI)(ev:aW)(f:FuncId)(fuel:Nat):∀(c:Code) (st:St),codeF C ev f fuel c st=evalCode C ev f fuel c st:=by
  intro c
  induction c with
  |skip=>intro st;rfl
  | region id ops draw=>
    intro st
    show cond draw _ (S8 C ev f ops ops.toList st.slots st.H st.tick)=_
    rw[XW,evalCode]
    cases draw<;>rfl
  | seq a b iha ihb=>
    intro st
    show XX (codeF C ev f fuel a st) (codeF C ev f fuel b)=_
    rw[iha,evalCode]
    cases evalCode C ev f fuel a st with
    |none=>rfl
    | some p=>
      obtain⟨e,st'⟩:=p
      cases e with
      |normal=>exact ihb st'
      |exit _=>rfl
      |ret=>rfl
      |panic _=>rfl
  | cond c a b iha ihb=>
    intro st
    show nt (codeF C ev f fuel a) (codeF C ev f fuel b) st (uK C st.slots c)=_
    rw[mH,evalCode]
    unfold nt
    split
    · rename_i h;rw[h];exact iha st
    · rename_i h;rw[h];exact ihb st
    · rename_i h1 h2
      split
      · rename_i h;exact absurd h h1
      · rename_i h;exact absurd h h2
      · rfl
  | block id body ih=>
    intro st
    show S9 id (codeF C ev f fuel body st)=_
    rw[ih,evalCode]
    cases evalCode C ev f fuel body st with
    |none=>rfl
    | some p=>
      obtain⟨e,st'⟩:=p
      cases e with
      | exit id'=>
        show cond (Nat.beq id' id) _ _=if id'=id then _ else _
        by_cases h:id'=id
        · rw[if_pos h,h,Nat.beq_refl];rfl
        · rw[if_neg h,show Nat.beq id' id=false from by rw[Bool.eq_false_iff];exact fun e=>h (Nat.eq_of_beq_eq_true e)];rfl
      |normal=>rfl
      |ret=>rfl
      |panic _=>rfl
  | loop body ih=>
    intro st
    show Oi (codeF C ev f fuel body) fuel st=_
    rw[Ta,evalCode,show codeF C ev f fuel body=evalCode C ev f fuel body from funext ih]
  |_=>intros;rfl
def Z5 (C:dI)(ev:aW)(fuel:Nat)(f:FuncId)(args:List TV)(aX:List aV)(fn:Func)(body:Code):Option bG:=
 match codeF C ev f fuel body {slots:=args++List.replicate (fn.ntmps - args.length) cz,H:=cU 0 aX,tick:=0} with
 |some (.normal,st)=>finish C fn aX.length st
 |some (.ret,st)=>finish C fn aX.length st
 |some (.panic v,st)=>if v.names.any Nm.gZ then none else some (.panic v (ru st.H 0 aX.length))
 |_=>none
def XY (C:dI)(ev:aW)(fuel:Nat)(f:FuncId)(args:List TV)(aX:List aV):Option bG:=
 iy (C.P.fn f) fun fn=>iy fn.body fun body=>if fn.name= "runtime.NumGoroutine" then none else Z5 C ev fuel f args aX fn body
theorem XZ (C:dI)(ev:aW)(fuel:Nat)(f:FuncId)(args:List TV)(aX:List aV):XY C ev fuel f args aX=Jd C ev fuel f args aX:=by
  unfold XY Jd
  rcases h:C.P.fn f with _|fn
  · rfl
  · simp only[dr]
    rcases h2:fn.body with _|body
    · rfl
    · simp only[dr,Z5,codeF_eq]
      rfl
def fe (C:dI)(X:Ext)(n:Nat):aW:=
 Nat.rec (motive:=fun _=>aW) (fun _ _ _=>none)
  (fun n ih f args aX=>Option.rec (motive:=fun _=>Option bG) (XY C ih n f args aX) (fun s=>s ih args aX) (X f)) n
theorem qx (C:dI)(X:Ext):∀n,fe C X n=CM C X n:=by
 intro n
 induction n with
 |zero=>rfl
 |succ n ih=>
  funext f args aX
  rw[CM]
  show Option.rec (motive:=fun _=>Option bG) (XY C (fe C X n) n f args aX) (fun s=>s (fe C X n) args aX) (X f)=_
  rw[ih,XZ]
  cases X f<;>rfl
def Tc:Option bG→Bool
 |some (.ret (.t (.bool true)) [] [])=>true
 |_=>false
theorem Td {r:Option bG}(h:Tc r=true):r=some (.ret (.t (.bool true)) [] []):=by
 unfold Tc at h
 split at h
 · rfl
 · cases h
def y7:List UInt8→List UInt8→Bool
 | [],[]=>true
 |a::r,b::t=>cond (Nat.beq a.toNat b.toNat) (y7 r t) false
 |_,_=>false
theorem DF:∀{a b:List UInt8},y7 a b=true→a=b
 | [],[],_=>rfl
 | [],_::_,h=>by simp[y7] at h
 |_::_,[],h=>by simp[y7] at h
 | a::r,b::t,h=>by
   simp only[y7] at h
   cases hn:Nat.beq a.toNat b.toNat with
   |false=>rw[hn] at h;cases h
   |true=>
    rw[hn] at h
    have e:a=b:=UInt8.toNat_inj.1 (Nat.eq_of_beq_eq_true hn)
    rw[e,DF (show y7 r t=true from h)]
def BQ:List Tree→List (List UInt8)→Bool
 | [],[]=>true
 |.str s::r,b::t=>cond (y7 s b) (BQ r t) false
 |_,_=>false
theorem JW:∀{a:List Tree} {b:List (List UInt8)},BQ a b=true→a=b.map .str
 | [],[],_=>rfl
 | [],_::_,h=>by simp[BQ] at h
 |x::r,[],h=>by cases x<;>simp[BQ] at h
 | x ::r,b::t,h=>by
   cases x with
   | str s=>
    simp only[BQ] at h
    cases hs:y7 s b with
    |false=>rw[hs] at h;cases h
    |true=>
     rw[hs] at h
     rw[DF hs,JW (show BQ r t=true from h)]
     rfl
   |_=>simp[BQ] at h
def wE (ws:List (List UInt8)):Option bG→Bool
 |some (.ret (.t (.sl es)) [] [])=>BQ es ws
 |_=>false
theorem tL {ws:List (List UInt8)}{r:Option bG}(h:wE ws r=true):r=some (.ret (.t (.sl (ws.map .str))) [] []):=by
 unfold wE at h
 split at h
 · rw[JW h]
 · cases h
end Go.Abs
end

noncomputable section
namespace Go.Abs
open Go Go.RowKit
def Cs (C:dI)(fn:Func)(n:Nat)(st:St):Option bG:=
 match iP C st fn.results.toList with
 |none=>none
 | some vs=>
  match mg st.H 0 n with
  |none=>none
  |some os=>match reach st.H fL [] ((qd vs).names++os.flatMap aV.names) with
   |none=>none
   |some R=>(j7 st.H R).map fun h=>.ret (qd vs) os h
def aeY (C:dI)(fn:Func)(n:Nat):Option (aP×St)→Option bG
 |some (.normal,st)=>Cs C fn n st
 |some (.ret,st)=>Cs C fn n st
 |_=>none
def abz (C:dI)(ev:aW)(fuel:Nat)(f:FuncId)(args:List TV)(aX:List aV):Option bG:=
 iy (C.P.fn f) fun fn=>iy fn.body fun body=>
  if fn.name= "runtime.NumGoroutine" then none else
   aeY C fn aX.length (codeF C ev f fuel body {slots:=args++List.replicate (fn.ntmps - args.length) cz,H:=cU 0 aX,tick:=0})
def ov (C:dI)(fuel:Nat)(f:FuncId):rF:=fun ev args aX=>match args with
 | [.t (.sl [])]=>some (.ret (.t (.sl [])) aX [])
 |_=>abz C ev fuel f args aX
section
variable {C:dI}{g f:FuncId}{G:Gh}{w:World}{vs:List Value}{ev:aW}
theorem DG {fn:Func}{n:Nat}{st:St}{a:Act}{r:bG}{G0:Gh}{w0:World}(h:Cs C fn n st=some r)(hs:dS G0 w0 G w)(hst:yf C G w st a):
    ∃v,(results fn a.tmps).run C.P w=.ok v w∧wR G0 w0 n r (.returned v) w:=by
  unfold Cs at h
  split at h
  · simp at h
  rename_i vs hvs
  obtain⟨v,hv,hr⟩:=xE hst hvs
  refine⟨v,hv, ?_⟩
  split at h
  · simp at h
  rename_i os hos
  split at h
  · simp at h
  rename_i R hR
  cases L9:j7 st.H R with
  |none=>rw[L9] at h;simp at h
  | some nw=>
    rw[L9] at h
    simp only[Option.map_some,Option.some.injEq] at h
    subst h
    obtain⟨e1,e2⟩:=vq hos
    refine⟨v,G,rfl,hs,e1,fun i o ho=> ?_,fun k o hm=> ?_,hr⟩
    · have:=e2 i o ho
      rw[Nat.zero_add] at this
      exact hst.heap _ _ this
    · obtain⟨e3,e4⟩:=rB L9 k o hm
      exact⟨e3,hst.heap _ _ e4⟩
theorem X0 (hm:C.P.prog.follows .mixedOrders=true)(ai:aF C ev){fuel:Nat}{args:List TV}{aX:List aV}{r:bG}(h:abz C ev fuel f args aX=some r)(hw:WF G w)(hg:jV C G)(had:AY G aX.length)
    (hH:HR G w (cU 0 aX))(hv:cZ G args vs):mB C.P f vs.toArray w (wR G w aX.length r):=by
  unfold abz at h
  rcases Df:C.P.fn f with _|fn
  · rw[Df] at h;cases h
  rw[Df,dr] at h
  have hfn:=C.P.RP _ _ Df
  rcases hbody:fn.body with _|body
  · rw[hbody] at h;cases h
  rw[hbody,dr] at h
  split at h
  · cases h
  rename_i hname
  rw[codeF_eq] at h
  have hst:yf C G w {slots:=args++List.replicate (fn.ntmps - args.length) cz,H:=cU 0 aX,tick:=0} {tmps:=vs.toArray++Array.replicate (fn.ntmps - vs.toArray.size) undef,defers:=[]}:=by
    refine⟨hw,hg, ?_,hH,fun p hp=>absurd hp (had.2 p)⟩
    have e:(vs.toArray++Array.replicate (fn.ntmps - vs.toArray.size) undef).toList=vs++List.replicate (fn.ntmps - args.length) undef:=by simp[hv.1]
    unfold SR
    rw[e]
    refine cZ.append hv ⟨by simp,fun j c u hc hu=> ?_⟩
    rw[List.getElem?_replicate] at hc hu
    by_cases hl:j<fn.ntmps - args.length
    · rw[if_pos hl] at hc hu
      simp at hc hu;subst hc;subst hu;exact oh G
    · rw[if_neg hl] at hc;simp at hc
  refine .inl ⟨?_,calls_of_wp hfn hbody ?_⟩
  · simp[callFunc,hfn,hname,hbody]
  · unfold aeY at h
    split at h
    · rename_i st he
      refine wp_mono (lM hm ai body _ _ _ he G w _ hst) fun ex a' w' hgd=> ?_
      obtain⟨G',hs,hd,rfl,o8⟩:=hgd
      exact⟨hd,DG h hs o8⟩
    · rename_i st he
      refine wp_mono (lM hm ai body _ _ _ he G w _ hst) fun ex a' w' hgd=> ?_
      obtain⟨G',hs,hd,rfl,o8⟩:=hgd
      exact⟨hd,DG h hs o8⟩
    · cases h
theorem vC (hm:C.P.prog.follows .mixedOrders=true){fuel:Nat}(Mx:∀args w,(callFunc g args).run C.P.prog w=.ok (.enter g args) w)
    (hc:∀(a:Option Addr) (cap:Nat) (w:World),Calls C.P.prog g #[.slice a 0 cap] w fun e w'=>(∃a' c',e=.returned (.slice a' 0 c'))∧Below w.heap.size w w'):mG C g (ov C fuel g):=by
  intro ev ai args aX r h G w vs hw hg had hH hv
  unfold ov at h
  split at h
  · simp at h
    subst h
    obtain⟨x,rfl,hx⟩:=hv.only
    obtain⟨a,cap,rfl⟩:∃a cap,x=.slice a 0 cap:=by
      cases hx with|t _ _ hx=>
      cases hx with
      |xg a cap=>exact⟨a,cap,rfl⟩
      |sl _ _ _ _ _ _ hne=>exact absurd rfl hne
    refine .inl ⟨Mx _ _,(hc a cap w).mono ?_⟩
    rintro e w' ⟨⟨a',c',rfl⟩,hb⟩
    have hst:Step (fun _=>False) (fun _=>False) G w G w':=by
      refine⟨.refl G,⟨fun b o v hf=> ?_,hw.inj,fun k d=>Nat.lt_of_lt_of_le (hw.lt k d) hb.size⟩,fun _ _ _=>⟨rfl,rfl⟩,fun b hlt _=>⟨hb.block b hlt,fun _=>rfl⟩,fun _ d=>.inl d,fun _ d=>.inl ⟨d,rfl⟩,hb.size,hb.os,hb.tape,hb.output⟩
      obtain⟨us,ty,fr,h1,h2⟩:=hw.F b o v hf
      exact⟨us,ty,fr,by rw[hb.block b (Array.getElem?_eq_some_iff.1 h1).1];exact h1,h2⟩
    refine⟨_,G,rfl,hst.mono (fun _ _ h=>h.elim) (fun _ h=>h.elim),rfl,fun i o ho=> ?_,fun _ _ h=>by simp at h,.t _ _ (.xg a' c')⟩
    obtain⟨d,BB⟩:=iz hH i o ho
    exact⟨d,hst.keeps hw d (fun h=>h) BB⟩
  · exact X0 hm ai h hw hg had hH hv
end
def Te (a b:IntKind):Bool:=match a,b with
 |.i8,.i8|.i16,.i16|.i32,.i32|.i64,.i64|.u8,.u8|.u16,.u16|.u32,.u32|.u64,.u64=>true
 |_,_=>false
theorem Tf {a b:IntKind}(h:Te a b=true):a=b:=by cases a<;>cases b<;>first|rfl|cases h
def Oj:Int→Int→Bool
 |.ofNat a,.ofNat b=>Nat.beq a b
 |.negSucc a,.negSucc b=>Nat.beq a b
 |_,_=>false
theorem Tg {a b:Int}(h:Oj a b=true):a=b:=by
 cases a<;>cases b<;>simp only[Oj] at h<;>first|(rw[Nat.eq_of_beq_eq_true h])|cases h
def DI (f:Tree→Tree→Bool):List Tree→List Tree→Bool
 | [],[]=>true
 |a::r,b::t=>cond (f a b) (DI f r t) false
 |_,_=>false
theorem y8 {f:Tree→Tree→Bool}(hf:∀a b,f a b=true→a=b):∀{a b:List Tree},DI f a b=true→a=b
 | [],[],_=>rfl
 | [],_::_,h=>by cases h
 |_::_,[],h=>by cases h
 | a::r,b::t,h=>by
   simp only[DI] at h
   cases hq:f a b with
   |false=>rw[hq] at h;cases h
   |true=>
    rw[hq] at h
    rw[hf a b hq,y8 hf (show DI f r t=true from h)]
def F6:Nat→Tree→Tree→Bool
 |0,_,_=>false
 |n+1,a,b=>match a,b with
  |.bool x,.bool y=>cond x y (!y)
  |.int k x,.int k' y=>cond (Te k k') (Oj x y) false
  |.str x,.str y=>y7 x y
  |.sl x,.sl y=>DI (F6 n) x y
  |.agg x,.agg y=>DI (F6 n) x y
  |.bX x,.bX y=>DI (F6 n) x y
  |_,_=>false
theorem y9:∀(n:Nat) (a b:Tree),F6 n a b=true→a=b
  |0,_,_,h=>by cases h
  |n  + 1,a,b,h=>by
      unfold F6 at h
      split at h
      · rename_i x y;cases x<;>cases y<;>first|rfl|cases h
      · rename_i k x k' y
        cases hk:Te k k' with
        |false=>rw[hk] at h;cases h
        |true=>rw[hk] at h;rw[Tf hk,Tg (show Oj x y=true from h)]
      · rw[DF h]
      · rw[y8 (y9 n) h]
      · rw[y8 (y9 n) h]
      · rw[y8 (y9 n) h]
      · cases h
def tM (t:Tree):Option bG→Bool
 |some (.ret (.t x) [] [])=>F6 30 x t
 |_=>false
theorem nH {t:Tree}{r:Option bG}(h:tM t r=true):r=some (.ret (.t t) [] []):=by
 unfold tM at h
 split at h
 · rw[y9 _ _ _ h]
 · cases h
end Go.Abs
end
