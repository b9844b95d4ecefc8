/- The same interpreter, laid out for the kernel: bare recursors, small bodies. -/
import Derived.Test.YtijfhoelihclbaaGreatDoorD
import Derived.Test.YtijfhoelihclbaaGreatDoorJ
import Derived.Below
noncomputable section
namespace Go.Abs
open Go
abbrev tq:=dh→aS→FuncId→Heap→List TV→Nat→Oper→Option vS
def gC {α β:Type}(x:Option α)(k:α→Option β):Option β:=Option.rec (motive:=fun _=>Option β) none k x
theorem C1 {α β:Type}(k:α→Option β):gC none k=none:=rfl
theorem cQ {α β:Type}(a:α)(k:α→Option β):gC (some a) k=k a:=rfl
def YT (v:TV):Option vS:=some (.val v [])
def tF (C:dh)(slots:List TV)(x:Operand):Option TV:=
 Operand.rec (motive:=fun _=>Option TV) (fun t=>some (Ww slots t)) (fun v=>valOf v) (fun g=>cU C slots (.global g)) (fun f=>some (.t (.fn (.func f)))) x
theorem lF (C:dh)(slots:List TV)(x:Operand):tF C slots x=cU C slots x:=by
 cases x<;>rfl
def gj:tq:=fun C ev f H slots t o=>aX C ev f H slots t o
def GF (x:Operand):tq:=fun C _ _ _ slots _ _=>gC (tF C slots x) YT
def adO (a b:TV):TV→Option vS
 |.t (.bool c)=>YT (cond c a b)
 |_=>none
def Sg (c a b:Operand):tq:=fun C _ _ _ slots _ _=>
 gC (tF C slots c) fun c=>gC (tF C slots a) fun a=>gC (tF C slots b) fun b=>adO a b c
def Sh (t:TypeId)(a:Operand):tq:=fun C _ _ H slots _ _=>gC (tF C slots a) fun a=>gC (loadT C.P H t a) YT
def YU (op:BinOp)(t:TypeId)(x y:Operand)(_:TypeId):tq:=fun C _ _ _ slots _ _=>
 gC (tF C slots x) fun a=>gC (tF C slots y) fun b=>gC (F4 C.P op t x y a b) YT
def adP (op:UnOp)(_:TypeId)(x:Operand):tq:=fun C _ _ _ slots _ _=>gC (tF C slots x) fun a=>gC (unT C.P op a) YT
def A1 (t:TypeId)(x i:Operand):tq:=fun C _ _ H slots _ _=>
 gC (tF C slots x) fun a=>gC (tF C slots i) fun b=>gC (eN C.P H t a b) YT
def Nv (t:TypeId)(x i:Operand):tq:=fun C _ _ _ slots _ _=>
 gC (tF C slots x) fun a=>gC (tF C slots i) fun b=>gC (ox C.P t a b) YT
def Nw (t:TypeId)(a x:Operand):tq:=fun C _ _ H slots _ _=>
 gC (tF C slots a) fun a=>gC (tF C slots x) fun x=>gC (storeT C.P H t a x) fun u=>some (.val b8 u)
def YV (x:Operand):tq:=fun C _ _ _ slots _ _=>gC (tF C slots x) fun v=>cond (EM v) (YT v) none
def rz (o:Oper):tq:=
 Op.rec (motive:=fun _=>tq) GF GF Sg (fun _=>gj) (fun _ _=>gj) (fun _ _=>gj) (fun _ _ _=>gj) (fun _ _ _ _=>gj) Sh Nw
  (fun _=>gj) (fun _=>gj) YV YU adP (fun _ _ _=>gj) (fun _ _=>gj) (fun _ _=>gj) (fun _ _ _=>gj) (fun _ _=>gj) (fun _ _=>gj)
  (fun _ _ _=>gj) (fun _ _ _ _ _=>gj) (fun _ _ _=>gj) (fun _ _ _=>gj) A1 Nv (fun _ _ _ _=>gj) (fun _ _ _ _=>gj) (fun _ _ _=>gj)
  (fun _ _ _ _=>gj) (fun _ _=>gj) (fun _ _=>gj) (fun _=>gj) (fun _ _ _ _=>gj) (fun _ _=>gj) (fun _=>gj) (fun _=>gj) (fun _=>gj) (fun _=>gj)
  (fun _ _=>gj) (fun _ _ _=>gj) (fun _ _=>gj) o.op
theorem Si (C:dh)(ev:aS)(f:FuncId)(H:Heap)(slots:List TV)(t:Nat)(o:Oper):rz o C ev f H slots t o=aX C ev f H slots t o:=by
 obtain⟨dst,op,type,pos,after,guard⟩:=o
 cases op with
 |move x=>simp only[rz,GF,aX,evalOp,lF];cases cU C slots x<;>rfl
 |assign x=>simp only[rz,GF,aX,evalOp,lF];cases cU C slots x<;>rfl
 | pick c a b=>
  simp only[rz,Sg,aX,evalOp,lF]
  cases h1:cU C slots c with
  |none=>rfl
  | some c=>
   cases h2:cU C slots a with
   |none=>simp only[cQ,C1]
   | some a=>
    cases h3:cU C slots b with
    |none=>simp only[cQ,C1]
    | some b=>
     simp only[cQ]
     cases c with
     |t c=>
      cases c with
      |bool c=>cases c<;>rfl
      |_=>rfl
     |_=>rfl
 |load t a=>simp only[rz,Sh,aX,evalOp,lF];cases cU C slots a with
  |none=>rfl
  |some a=>simp only[cQ];cases loadT C.P H t a<;>rfl
 | store t a x=>simp only[rz,Nw,aX,evalOp,lF];cases cU C slots a with
  |none=>rfl
  |some a=>simp only[cQ];cases cU C slots x with
   |none=>rfl
   |some x=>simp only[cQ];cases storeT C.P H t a x<;>rfl
 |nilCheck x=>simp only[rz,YV,aX,evalOp,lF];cases cU C slots x with
  |none=>rfl
  |some v=>simp only[cQ];cases EM v<;>rfl
 | binOp op t x y t'=>simp only[rz,YU,aX,evalOp,lF];cases cU C slots x with
  |none=>rfl
  |some a=>simp only[cQ];cases cU C slots y with
   |none=>rfl
   |some b=>simp only[cQ];cases F4 C.P op t x y a b<;>rfl
 |unOp op t x=>simp only[rz,adP,aX,evalOp,lF];cases cU C slots x with
  |none=>rfl
  |some a=>simp only[cQ];cases unT C.P op a<;>rfl
 | indexAddr t x i=>simp only[rz,A1,aX,evalOp,lF];cases cU C slots x with
  |none=>rfl
  |some a=>simp only[cQ];cases cU C slots i with
   |none=>rfl
   |some b=>simp only[cQ];cases eN C.P H t a b<;>rfl
 | index t x i=>simp only[rz,Nv,aX,evalOp,lF];cases cU C slots x with
  |none=>rfl
  |some a=>simp only[cQ];cases cU C slots i with
   |none=>rfl
   |some b=>simp only[cQ];cases ox C.P t a b<;>rfl
 |_=>rfl
def Sj (ops:Array Oper)(slots:List TV)(o:Oper):Option Bool:=
 Option.rec (motive:=fun _=>Option Bool) (some true) (fun _=>dF ops slots o) o.guard
theorem Sk (ops:Array Oper)(slots:List TV)(o:Oper):Sj ops slots o=dF ops slots o:=by
 obtain⟨dst,op,type,pos,after,guard⟩:=o
 cases guard<;>rfl
def aau (slots:List TV)(d:Option Tmp)(v:TV):List TV:=Option.rec (motive:=fun _=>List TV) slots (fun d=>Wy v slots d) d
theorem Nx (slots:List TV)(d:Option Tmp)(v:TV):aau slots d v=eG slots d v:=by cases d<;>rfl
def Sl (C:dh)(ev:aS)(f:FuncId)(ops:Array Oper)(l:List Oper):List TV→Heap→Nat→Option (aV×St):=
 List.rec (motive:=fun _=>List TV→Heap→Nat→Option (aV×St)) (fun slots H t=>some (.normal,{slots:=slots,H:=H,tick:=t}))
  (fun o _ ih slots H t=>gC (Sj ops slots o) fun b=>
   Bool.rec (motive:=fun _=>Option (aV×St)) (ih (aau slots o.dst b8) H (t+1))
    (gC (rz o C ev f H slots t o) fun r=>vS.rec (motive:=fun _=>Option (aV×St)) (fun v u=>ih (aau slots o.dst v) (H.dJ u) (t+1))
     (fun v u l=>some (.panic v,{slots:=slots,H:=(H.tB l).dJ u,tick:=t+1})) r) b) l
theorem WW (C:dh)(ev:aS)(f:FuncId)(ops:Array Oper):∀(l:List Oper) (slots:List TV) (H:Heap) (t:Nat),Sl C ev f ops l slots H t=Bf C ev f ops l {slots:=slots,H:=H,tick:=t}:=by
 intro l
 induction l with
 |nil=>intro slots H t;rfl
 | cons o r ih=>
  intro slots H t
  show(gC (Sj ops slots o) fun b=>_)=_
  rw[Bf,Sk]
  cases dF ops slots o with
  |none=>rfl
  | some b=>
   rw[cQ]
   cases b with
   |false=>show Sl C ev f ops r _ _ _=_;rw[ih,Nx]
   | true=>
    show(gC (rz o C ev f H slots t o) fun r=>_)=_
    rw[Si]
    cases aX C ev f H slots t o with
    |none=>rfl
    |some res=>
     rw[cQ]
     cases res with
     |val v u=>show Sl C ev f ops r _ _ _=_;rw[ih,Nx]
     |panic v u l=>rfl
abbrev A2:=St→Option (aV×St)
def WX (r:Option (aV×St))(k:A2):Option (aV×St):=
 gC r fun p=>aV.rec (motive:=fun _=>Option (aV×St)) (k p.2) (fun _=>some p) (some p) (fun _=>some p) p.1
def l8 (a b:A2)(st:St):Option TV→Option (aV×St)
 |some (.t (.bool true))=>a st
 |some (.t (.bool false))=>b st
 |_=>none
def Sm (id:Nat):Option (aV×St)→Option (aV×St)
 |some (.exit id',st')=>cond (Nat.beq id' id) (some (.normal,st')) (some (.exit id',st'))
 |r=>r
def Ny (body:A2)(n:Nat):A2:=
 Nat.rec (motive:=fun _=>A2) (fun _=>none) (fun _ ih st=>WX (body st) ih) n
def codeF (C:dh)(ev:aS)(f:FuncId)(fuel:Nat)(c:Code):A2:=
 Code.rec (motive:=fun _=>A2)
  (fun st=>some (.normal,st))
  (fun _ ops draw st=>cond draw (p7 C ev f ops st) (Sl C ev f ops ops.toList st.slots st.H st.tick))
  (fun _ _ iha ihb st=>WX (iha st) ihb)
  (fun c _ _ iha ihb st=>l8 iha ihb st (tF C st.slots c))
  (fun id _ ih st=>Sm id (ih st))
  (fun _ ih=>Ny ih fuel)
  (fun _ _ _ _ _ _ _=>none)
  (fun id st=>some (.exit id,st))
  (fun _ _ _=>none)
  (fun _ st=>some (.normal,st))
  (fun _ _=>none)
  (fun st=>some (.ret,st))
  (fun _ _=>none) c
theorem Sn (body:A2):∀(n:Nat) (st:St),Ny body n st=B2 body n st:=by
 intro n
 induction n with
 |zero=>intro st;rfl
 | succ n ih=>
  intro st
  show WX (body st) (Ny body n)=_
  rw[B2]
  cases body st with
  |none=>rfl
  |some p=>
   obtain⟨e,st'⟩:=p
   cases e with
   |normal=>exact ih st'
   |exit _=>rfl
   |ret=>rfl
   |panic _=>rfl
theorem codeF_eq (C:dh)(ev:aS)(f:FuncId)(fuel:Nat):∀(c:Code) (st:St),codeF C ev f fuel c st=evalCode C ev f fuel c st:=by
  intro c
  induction c with
  |skip=>intro st;rfl
  | region id ops draw=>
    intro st
    show cond draw _ (Sl C ev f ops ops.toList st.slots st.H st.tick)=_
    rw[WW,evalCode]
    cases draw<;>rfl
  | seq a b iha ihb=>
    intro st
    show WX (codeF C ev f fuel a st) (codeF C ev f fuel b)=_
    rw[iha,evalCode]
    cases evalCode C ev f fuel a st with
    |none=>rfl
    | some p=>
      obtain⟨e,st'⟩:=p
      cases e with
      |normal=>exact ihb st'
      |exit _=>rfl
      |ret=>rfl
      |panic _=>rfl
  | cond c a b iha ihb=>
    intro st
    show l8 (codeF C ev f fuel a) (codeF C ev f fuel b) st (tF C st.slots c)=_
    rw[lF,evalCode]
    unfold l8
    split
    · rename_i h;rw[h];exact iha st
    · rename_i h;rw[h];exact ihb st
    · rename_i h1 h2
      split
      · rename_i h;exact absurd h h1
      · rename_i h;exact absurd h h2
      · rfl
  | block id body ih=>
    intro st
    show Sm id (codeF C ev f fuel body st)=_
    rw[ih,evalCode]
    cases evalCode C ev f fuel body st with
    |none=>rfl
    | some p=>
      obtain⟨e,st'⟩:=p
      cases e with
      | exit id'=>
        show cond (Nat.beq id' id) _ _=if id'=id then _ else _
        by_cases h:id'=id
        · rw[if_pos h,h,Nat.beq_refl];rfl
        · rw[if_neg h,show Nat.beq id' id=false from by rw[Bool.eq_false_iff];exact fun e=>h (Nat.eq_of_beq_eq_true e)];rfl
      |normal=>rfl
      |ret=>rfl
      |panic _=>rfl
  | loop body ih=>
    intro st
    show Ny (codeF C ev f fuel body) fuel st=_
    rw[Sn,evalCode,show codeF C ev f fuel body=evalCode C ev f fuel body from funext ih]
  |_=>intros;rfl
def YW (C:dh)(ev:aS)(fuel:Nat)(f:FuncId)(args:List TV)(aR:List aQ)(fn:Func)(body:Code):Option bG:=
 match codeF C ev f fuel body {slots:=args++List.replicate (fn.ntmps - args.length) b8,H:=cH 0 aR,tick:=0} with
 |some (.normal,st)=>finish C fn aR.length st
 |some (.ret,st)=>finish C fn aR.length st
 |some (.panic v,st)=>if v.names.any Nm.gy then none else some (.panic v (p8 st.H 0 aR.length))
 |_=>none
def WY (C:dh)(ev:aS)(fuel:Nat)(f:FuncId)(args:List TV)(aR:List aQ):Option bG:=
 gC (C.P.fn f) fun fn=>gC fn.body fun body=>if fn.name= "runtime.NumGoroutine" then none else YW C ev fuel f args aR fn body
theorem WZ (C:dh)(ev:aS)(fuel:Nat)(f:FuncId)(args:List TV)(aR:List aQ):WY C ev fuel f args aR=Iu C ev fuel f args aR:=by
  unfold WY Iu
  rcases h:C.P.fn f with _|fn
  · rfl
  · simp only[cQ]
    rcases h2:fn.body with _|body
    · rfl
    · simp only[cQ,YW,codeF_eq]
      rfl
def eA (C:dh)(X:Ext)(n:Nat):aS:=
 Nat.rec (motive:=fun _=>aS) (fun _ _ _=>none)
  (fun n ih f args aR=>Option.rec (motive:=fun _=>Option bG) (WY C ih n f args aR) (fun s=>s ih args aR) (X f)) n
theorem pF (C:dh)(X:Ext):∀n,eA C X n=B3 C X n:=by
 intro n
 induction n with
 |zero=>rfl
 |succ n ih=>
  funext f args aR
  rw[B3]
  show Option.rec (motive:=fun _=>Option bG) (WY C (eA C X n) n f args aR) (fun s=>s (eA C X n) args aR) (X f)=_
  rw[ih,WZ]
  cases X f<;>rfl
def Sq:Option bG→Bool
 |some (.ret (.t (.bool true)) [] [])=>true
 |_=>false
theorem Sr {r:Option bG}(h:Sq r=true):r=some (.ret (.t (.bool true)) [] []):=by
 unfold Sq at h
 split at h
 · rfl
 · cases h
def yc:List UInt8→List UInt8→Bool
 | [],[]=>true
 |a::r,b::t=>cond (Nat.beq a.toNat b.toNat) (yc r t) false
 |_,_=>false
theorem C2:∀{a b:List UInt8},yc a b=true→a=b
 | [],[],_=>rfl
 | [],_::_,h=>by simp[yc] at h
 |_::_,[],h=>by simp[yc] at h
 | a::r,b::t,h=>by
   simp only[yc] at h
   cases hn:Nat.beq a.toNat b.toNat with
   |false=>rw[hn] at h;cases h
   |true=>
    rw[hn] at h
    have e:a=b:=UInt8.toNat_inj.1 (Nat.eq_of_beq_eq_true hn)
    rw[e,C2 (show yc r t=true from h)]
def A3:List Tree→List (List UInt8)→Bool
 | [],[]=>true
 |.str s::r,b::t=>cond (yc s b) (A3 r t) false
 |_,_=>false
theorem Jc:∀{a:List Tree} {b:List (List UInt8)},A3 a b=true→a=b.map .str
 | [],[],_=>rfl
 | [],_::_,h=>by simp[A3] at h
 |x::r,[],h=>by cases x<;>simp[A3] at h
 | x ::r,b::t,h=>by
   cases x with
   | str s=>
    simp only[A3] at h
    cases hs:yc s b with
    |false=>rw[hs] at h;cases h
    |true=>
     rw[hs] at h
     rw[C2 hs,Jc (show A3 r t=true from h)]
     rfl
   |_=>simp[A3] at h
def uY (ws:List (List UInt8)):Option bG→Bool
 |some (.ret (.t (.sl es)) [] [])=>A3 es ws
 |_=>false
theorem sG {ws:List (List UInt8)}{r:Option bG}(h:uY ws r=true):r=some (.ret (.t (.sl (ws.map .str))) [] []):=by
 unfold uY at h
 split at h
 · rw[Jc h]
 · cases h
end Go.Abs
end

noncomputable section
namespace Go.Abs
open Go Go.RowKit
def BK (C:dh)(fn:Func)(n:Nat)(st:St):Option bG:=
 match iW C st fn.results.toList with
 |none=>none
 | some vs=>
  match nA st.H 0 n with
  |none=>none
  |some os=>match reach st.H fD [] ((qO vs).names++os.flatMap aQ.names) with
   |none=>none
   |some R=>(j3 st.H R).map fun h=>.ret (qO vs) os h
def adQ (C:dh)(fn:Func)(n:Nat):Option (aV×St)→Option bG
 |some (.normal,st)=>BK C fn n st
 |some (.ret,st)=>BK C fn n st
 |_=>none
def aav (C:dh)(ev:aS)(fuel:Nat)(f:FuncId)(args:List TV)(aR:List aQ):Option bG:=
 gC (C.P.fn f) fun fn=>gC fn.body fun body=>
  if fn.name= "runtime.NumGoroutine" then none else
   adQ C fn aR.length (codeF C ev f fuel body {slots:=args++List.replicate (fn.ntmps - args.length) b8,H:=cH 0 aR,tick:=0})
def nh (C:dh)(fuel:Nat)(f:FuncId):qh:=fun ev args aR=>match args with
 | [.t (.sl [])]=>some (.ret (.t (.sl [])) aR [])
 |_=>aav C ev fuel f args aR
section
variable {C:dh}{g f:FuncId}{G:Gh}{w:World}{vs:List Value}{ev:aS}
theorem C3 {fn:Func}{n:Nat}{st:St}{a:Act}{r:bG}{G0:Gh}{w0:World}(h:BK C fn n st=some r)(hs:dG G0 w0 G w)(hst:w5 C G w st a):
    ∃v,(results fn a.tmps).run C.P w=.ok v w∧vw G0 w0 n r (.returned v) w:=by
  unfold BK at h
  split at h
  · simp at h
  rename_i vs hvs
  obtain⟨v,hv,hr⟩:=vZ hst hvs
  refine⟨v,hv, ?_⟩
  split at h
  · simp at h
  rename_i os hos
  split at h
  · simp at h
  rename_i R hR
  cases K6:j3 st.H R with
  |none=>rw[K6] at h;simp at h
  | some nw=>
    rw[K6] at h
    simp only[Option.map_some,Option.some.injEq] at h
    subst h
    obtain⟨e1,e2⟩:=ua hos
    refine⟨v,G,rfl,hs,e1,fun i o ho=> ?_,fun k o hm=> ?_,hr⟩
    · have:=e2 i o ho
      rw[Nat.zero_add] at this
      exact hst.heap _ _ this
    · obtain⟨e3,e4⟩:=qc K6 k o hm
      exact⟨e3,hst.heap _ _ e4⟩
theorem W4 (hm:C.P.prog.follows .mixedOrders=true)(ai:aF C ev){fuel:Nat}{args:List TV}{aR:List aQ}{r:bG}(h:aav C ev fuel f args aR=some r)(hw:WF G w)(hg:jq C G)(had:zV G aR.length)
    (hH:HR G w (cH 0 aR))(hv:cK G args vs):lu C.P f vs.toArray w (vw G w aR.length r):=by
  unfold aav at h
  rcases Cy:C.P.fn f with _|fn
  · rw[Cy] at h;cases h
  rw[Cy,cQ] at h
  have hfn:=C.P.Q5 _ _ Cy
  rcases hbody:fn.body with _|body
  · rw[hbody] at h;cases h
  rw[hbody,cQ] at h
  split at h
  · cases h
  rename_i hname
  rw[codeF_eq] at h
  have hst:w5 C G w {slots:=args++List.replicate (fn.ntmps - args.length) b8,H:=cH 0 aR,tick:=0} {tmps:=vs.toArray++Array.replicate (fn.ntmps - vs.toArray.size) undef,defers:=[]}:=by
    refine⟨hw,hg, ?_,hH,fun p hp=>absurd hp (had.2 p)⟩
    have e:(vs.toArray++Array.replicate (fn.ntmps - vs.toArray.size) undef).toList=vs++List.replicate (fn.ntmps - args.length) undef:=by simp[hv.1]
    unfold SR
    rw[e]
    refine cK.append hv ⟨by simp,fun j c u hc hu=> ?_⟩
    rw[List.getElem?_replicate] at hc hu
    by_cases hl:j<fn.ntmps - args.length
    · rw[if_pos hl] at hc hu
      simp at hc hu;subst hc;subst hu;exact mX G
    · rw[if_neg hl] at hc;simp at hc
  refine .inl ⟨?_,calls_of_wp hfn hbody ?_⟩
  · simp[callFunc,hfn,hname,hbody]
  · unfold adQ at h
    split at h
    · rename_i st he
      refine wp_mono (kN hm ai body _ _ _ he G w _ hst) fun ex a' w' hgd=> ?_
      obtain⟨G',hs,hd,rfl,nG⟩:=hgd
      exact⟨hd,C3 h hs nG⟩
    · rename_i st he
      refine wp_mono (kN hm ai body _ _ _ he G w _ hst) fun ex a' w' hgd=> ?_
      obtain⟨G',hs,hd,rfl,nG⟩:=hgd
      exact⟨hd,C3 h hs nG⟩
    · cases h
theorem uv (hm:C.P.prog.follows .mixedOrders=true){fuel:Nat}(Lx:∀args w,(callFunc g args).run C.P.prog w=.ok (.enter g args) w)
    (hc:∀(a:Option Addr) (cap:Nat) (w:World),Calls C.P.prog g #[.slice a 0 cap] w fun e w'=>(∃a' c',e=.returned (.slice a' 0 c'))∧Below w.heap.size w w'):lD C g (nh C fuel g):=by
  intro ev ai args aR r h G w vs hw hg had hH hv
  unfold nh at h
  split at h
  · simp at h
    subst h
    obtain⟨x,rfl,hx⟩:=hv.only
    obtain⟨a,cap,rfl⟩:∃a cap,x=.slice a 0 cap:=by
      cases hx with|t _ _ hx=>
      cases hx with
      |vO a cap=>exact⟨a,cap,rfl⟩
      |sl _ _ _ _ _ _ hne=>exact absurd rfl hne
    refine .inl ⟨Lx _ _,(hc a cap w).mono ?_⟩
    rintro e w' ⟨⟨a',c',rfl⟩,hb⟩
    have hst:Step (fun _=>False) (fun _=>False) G w G w':=by
      refine⟨.refl G,⟨fun b o v hf=> ?_,hw.inj,fun k d=>Nat.lt_of_lt_of_le (hw.lt k d) hb.size⟩,fun _ _ _=>⟨rfl,rfl⟩,fun b hlt _=>⟨hb.block b hlt,fun _=>rfl⟩,fun _ d=>.inl d,fun _ d=>.inl ⟨d,rfl⟩,hb.size,hb.os,hb.tape,hb.output⟩
      obtain⟨us,ty,fr,h1,h2⟩:=hw.F b o v hf
      exact⟨us,ty,fr,by rw[hb.block b (Array.getElem?_eq_some_iff.1 h1).1];exact h1,h2⟩
    refine⟨_,G,rfl,hst.mono (fun _ _ h=>h.elim) (fun _ h=>h.elim),rfl,fun i o ho=> ?_,fun _ _ h=>by simp at h,.t _ _ (.vO a' c')⟩
    obtain⟨d,zH⟩:=gD hH i o ho
    exact⟨d,hst.keeps hw d (fun h=>h) zH⟩
  · exact W4 hm ai h hw hg had hH hv
end
def Ss (a b:IntKind):Bool:=match a,b with
 |.i8,.i8|.i16,.i16|.i32,.i32|.i64,.i64|.u8,.u8|.u16,.u16|.u32,.u32|.u64,.u64=>true
 |_,_=>false
theorem Sv {a b:IntKind}(h:Ss a b=true):a=b:=by cases a<;>cases b<;>first|rfl|cases h
def Nz:Int→Int→Bool
 |.ofNat a,.ofNat b=>Nat.beq a b
 |.negSucc a,.negSucc b=>Nat.beq a b
 |_,_=>false
theorem Sw {a b:Int}(h:Nz a b=true):a=b:=by
 cases a<;>cases b<;>simp only[Nz] at h<;>first|(rw[Nat.eq_of_beq_eq_true h])|cases h
def C4 (f:Tree→Tree→Bool):List Tree→List Tree→Bool
 | [],[]=>true
 |a::r,b::t=>cond (f a b) (C4 f r t) false
 |_,_=>false
theorem yd {f:Tree→Tree→Bool}(hf:∀a b,f a b=true→a=b):∀{a b:List Tree},C4 f a b=true→a=b
 | [],[],_=>rfl
 | [],_::_,h=>by cases h
 |_::_,[],h=>by cases h
 | a::r,b::t,h=>by
   simp only[C4] at h
   cases hq:f a b with
   |false=>rw[hq] at h;cases h
   |true=>
    rw[hq] at h
    rw[hf a b hq,yd hf (show C4 f r t=true from h)]
def Fs:Nat→Tree→Tree→Bool
 |0,_,_=>false
 |n+1,a,b=>match a,b with
  |.bool x,.bool y=>cond x y (!y)
  |.int k x,.int k' y=>cond (Ss k k') (Nz x y) false
  |.str x,.str y=>yc x y
  |.sl x,.sl y=>C4 (Fs n) x y
  |.agg x,.agg y=>C4 (Fs n) x y
  |.bN x,.bN y=>C4 (Fs n) x y
  |_,_=>false
theorem ye:∀(n:Nat) (a b:Tree),Fs n a b=true→a=b
  |0,_,_,h=>by cases h
  |n  + 1,a,b,h=>by
      unfold Fs at h
      split at h
      · rename_i x y;cases x<;>cases y<;>first|rfl|cases h
      · rename_i k x k' y
        cases hk:Ss k k' with
        |false=>rw[hk] at h;cases h
        |true=>rw[hk] at h;rw[Sv hk,Sw (show Nz x y=true from h)]
      · rw[C2 h]
      · rw[yd (ye n) h]
      · rw[yd (ye n) h]
      · rw[yd (ye n) h]
      · cases h
def sH (t:Tree):Option bG→Bool
 |some (.ret (.t x) [] [])=>Fs 30 x t
 |_=>false
theorem mF {t:Tree}{r:Option bG}(h:sH t r=true):r=some (.ret (.t t) [] []):=by
 unfold sH at h
 split at h
 · rw[ye _ _ _ h]
 · cases h
end Go.Abs
end
