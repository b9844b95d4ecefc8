/- The same interpreter, laid out for the kernel: bare recursors, small bodies. -/
import Derived.Test.YtnfnihgmankidaaGreatDoorD
import Derived.Test.YtnfnihgmankidaaGreatDoorJ
import Derived.Below
set_option linter.unusedVariables false
set_option linter.unusedSimpArgs false
noncomputable section
namespace Go.Abs
open Go
abbrev vn:=cE->aW->FuncId->Heap->List TV->Nat->Oper->Option qu
def gC {α β:Type}(x:Option α)(k:α->Option β):Option β:=Option.rec (motive:=λ_=>Option β) none k x
theorem DR {α β:Type}(k:α->Option β):gC none k=none:=rfl
theorem cO {α β:Type}(a:α)(k:α->Option β):gC (some a) k=k a:=rfl
def Z8 (v:TV):Option qu:=some (.val v [])
def vA (C:cE)(slots:List TV)(x:Operand):Option TV:=
 Operand.rec (motive:=λ_=>Option TV) (λt=>some (Xx slots t)) (λv=>valOf v) (λg=>cg C slots (.global g)) (λf=>some (.t (.fn (.func f)))) x
theorem mG (C:cE)(slots:List TV)(x:Operand):vA C slots x=cg C slots x:=by
 cases x<;>rfl
def gx:vn:=λC ev f H slots t o=>aT C ev f H slots t o
def Ir (x:Operand):vn:=λC _ _ _ slots _ _=>gC (vA C slots x) Z8
def adT (a b:TV):TV->Option qu
 |.t (.bool c)=>Z8 (cond c a b)
 |_=>none
def Tx (c a b:Operand):vn:=λC _ _ _ slots _ _=>
 gC (vA C slots c) λc=>gC (vA C slots a) λa=>gC (vA C slots b) λb=>adT a b c
def Tz (t:TypeId)(a:Operand):vn:=λC _ _ H slots _ _=>gC (vA C slots a) λa=>gC (loadT C.P H t a) Z8
def Z9 (op:BinOp)(t:TypeId)(x y:Operand)(_:TypeId):vn:=λC _ _ _ slots _ _=>
 gC (vA C slots x) λa=>gC (vA C slots y) λb=>gC (r8 C.P op t x y a b) Z8
def adU (op:UnOp)(_:TypeId)(x:Operand):vn:=λC _ _ _ slots _ _=>gC (vA C slots x) λa=>gC (unT C.P op a) Z8
def BW (t:TypeId)(x i:Operand):vn:=λC _ _ H slots _ _=>
 gC (vA C slots x) λa=>gC (vA C slots i) λb=>gC (dI C.P H t a b) Z8
def OV (t:TypeId)(x i:Operand):vn:=λC _ _ _ slots _ _=>
 gC (vA C slots x) λa=>gC (vA C slots i) λb=>gC (qp C.P t a b) Z8
def OW (t:TypeId)(a x:Operand):vn:=λC _ _ H slots _ _=>
 gC (vA C slots a) λa=>gC (vA C slots x) λx=>gC (storeT C.P H t a x) λu=>some (.val bS u)
def aac (x:Operand):vn:=λC _ _ _ slots _ _=>gC (vA C slots x) λv=>cond (JM v) (Z8 v) none
def sW (o:Oper):vn:=
 Op.rec (motive:=λ_=>vn) Ir Ir Tx (λ_=>gx) (λ_ _=>gx) (λ_ _=>gx) (λ_ _ _=>gx) (λ_ _ _ _=>gx) Tz OW
  (λ_=>gx) (λ_=>gx) aac Z9 adU (λ_ _ _=>gx) (λ_ _=>gx) (λ_ _=>gx) (λ_ _ _=>gx) (λ_ _=>gx) (λ_ _=>gx)
  (λ_ _ _=>gx) (λ_ _ _ _ _=>gx) (λ_ _ _=>gx) (λ_ _ _=>gx) BW OV (λ_ _ _ _=>gx) (λ_ _ _ _=>gx) (λ_ _ _=>gx)
  (λ_ _ _ _=>gx) (λ_ _=>gx) (λ_ _=>gx) (λ_=>gx) (λ_ _ _ _=>gx) (λ_ _=>gx) (λ_=>gx) (λ_=>gx) (λ_=>gx) (λ_=>gx)
  (λ_ _=>gx) (λ_ _ _=>gx) (λ_ _=>gx) o.op
theorem TA (C:cE)(ev:aW)(f:FuncId)(H:Heap)(slots:List TV)(t:Nat)(o:Oper):sW o C ev f H slots t o=aT C ev f H slots t o:=by
 obtain⟨dst,op,type,pos,after,guard⟩:=o;cases op with
 |move x=>simp only[sW,Ir,aT,evalOp,mG];cases cg C slots x<;>rfl
 |assign x=>simp only[sW,Ir,aT,evalOp,mG];cases cg C slots x<;>rfl
 | pick c a b=>
  simp only[sW,Tx,aT,evalOp,mG]
  cases h1:cg C slots c with
  |none=>rfl
  | some c=>
   cases h2:cg C slots a with
   |none=>simp only[cO,DR]
   | some a=>
    cases h3:cg C slots b with
    |none=>simp only[cO,DR]
    | some b=>
     simp only[cO]
     cases c with
     |t c=>
      cases c with
      |bool c=>cases c<;>rfl
      |_=>rfl
     |_=>rfl
 |load t a=>simp only[sW,Tz,aT,evalOp,mG];cases cg C slots a with
  |none=>rfl
  |some a=>simp only[cO];cases loadT C.P H t a<;>rfl
 | store t a x=>simp only[sW,OW,aT,evalOp,mG];cases cg C slots a with
  |none=>rfl
  |some a=>simp only[cO];cases cg C slots x with
   |none=>rfl
   |some x=>simp only[cO];cases storeT C.P H t a x<;>rfl
 |nilCheck x=>simp only[sW,aac,aT,evalOp,mG];cases cg C slots x with
  |none=>rfl
  |some v=>simp only[cO];cases JM v<;>rfl
 | binOp op t x y t'=>simp only[sW,Z9,aT,evalOp,mG];cases cg C slots x with
  |none=>rfl
  |some a=>simp only[cO];cases cg C slots y with
   |none=>rfl
   |some b=>simp only[cO];cases r8 C.P op t x y a b<;>rfl
 |unOp op t x=>simp only[sW,adU,aT,evalOp,mG];cases cg C slots x with
  |none=>rfl
  |some a=>simp only[cO];cases unT C.P op a<;>rfl
 | indexAddr t x i=>simp only[sW,BW,aT,evalOp,mG];cases cg C slots x with
  |none=>rfl
  |some a=>simp only[cO];cases cg C slots i with
   |none=>rfl
   |some b=>simp only[cO];cases dI C.P H t a b<;>rfl
 | index t x i=>simp only[sW,OV,aT,evalOp,mG];cases cg C slots x with
  |none=>rfl
  |some a=>simp only[cO];cases cg C slots i with
   |none=>rfl
   |some b=>simp only[cO];cases qp C.P t a b<;>rfl
 |_=>rfl
def TB (ops:Array Oper)(slots:List TV)(o:Oper):Option Bool:=
 Option.rec (motive:=λ_=>Option Bool) (some true) (λ_=>dH ops slots o) o.guard
theorem TC (ops:Array Oper)(slots:List TV)(o:Oper):TB ops slots o=dH ops slots o:=by
 obtain⟨dst,op,type,pos,after,guard⟩:=o;cases guard<;>rfl
def abi (slots:List TV)(d:Option Tmp)(v:TV):List TV:=Option.rec (motive:=λ_=>List TV) slots (λd=>Xy v slots d) d
theorem OX (slots:List TV)(d:Option Tmp)(v:TV):abi slots d v=cU slots d v:=by cases d<;>rfl
def TD (C:cE)(ev:aW)(f:FuncId)(ops:Array Oper)(l:List Oper):List TV->Heap->Nat->Option (aK×St):=
 List.rec (motive:=λ_=>List TV->Heap->Nat->Option (aK×St)) (λslots H t=>some (.normal,{slots:=slots,H:=H,tick:=t}))
  (λo _ ih slots H t=>gC (TB ops slots o) λb=>
   Bool.rec (motive:=λ_=>Option (aK×St)) (ih (abi slots o.dst bS) H (t+1))
    (gC (sW o C ev f H slots t o) λr=>qu.rec (motive:=λ_=>Option (aK×St)) (λv u=>ih (abi slots o.dst v) (H.dX u) (t+1))
     (λv u l=>some (.panic v,{slots:=slots,H:=(H.tU l).dX u,tick:=t+1})) r) b) l
theorem XT (C:cE)(ev:aW)(f:FuncId)(ops:Array Oper):∀(l:List Oper) (slots:List TV) (H:Heap) (t:Nat),TD C ev f ops l slots H t=Ch C ev f ops l {slots:=slots,H:=H,tick:=t}:=by
 intro l;induction l with
 |nil=>intro slots H t;rfl
 | cons o r ih=>
  intro slots H t
  show(gC (TB ops slots o) λb=>_)=_
  rw[Ch,TC]
  cases dH ops slots o with
  |none=>rfl
  | some b=>
   rw[cO]
   cases b with
   |false=>show TD C ev f ops r _ _ _=_;rw[ih,OX]
   | true=>
    show(gC (sW o C ev f H slots t o) λr=>_)=_
    rw[TA]
    cases aT C ev f H slots t o with
    |none=>rfl
    |some res=>
     rw[cO]
     cases res with
     |val v u=>show TD C ev f ops r _ _ _=_;rw[ih,OX]
     |panic v u l=>rfl
abbrev BX:=St->Option (aK×St)
def XU (r:Option (aK×St))(k:BX):Option (aK×St):=
 gC r λp=>aK.rec (motive:=λ_=>Option (aK×St)) (k p.2) (λ_=>some p) (some p) (λ_=>some p) p.1
def ov (a b:BX)(st:St):Option TV->Option (aK×St)
 |some (.t (.bool true))=>a st
 |some (.t (.bool false))=>b st
 |_=>none
def TE (id:Nat):Option (aK×St)->Option (aK×St)
 |some (.exit id',st')=>cond (Nat.beq id' id) (some (.normal,st')) (some (.exit id',st'))
 |r=>r
def OY (body:BX)(n:Nat):BX:=
 Nat.rec (motive:=λ_=>BX) (λ_=>none) (λ_ ih st=>XU (body st) ih) n
def codeF (C:cE)(ev:aW)(f:FuncId)(fuel:Nat)(c:Code):BX:=
 Code.rec (motive:=λ_=>BX)
  (λst=>some (.normal,st))
  (λ_ ops draw st=>cond draw (w6 C ev f ops st) (TD C ev f ops ops.toList st.slots st.H st.tick))
  (λ_ _ iha ihb st=>XU (iha st) ihb)
  (λc _ _ iha ihb st=>ov iha ihb st (vA C st.slots c))
  (λid _ ih st=>TE id (ih st))
  (λ_ ih=>OY ih fuel)
  (λ_ _ _ _ _ _ _=>none)
  (λid st=>some (.exit id,st))
  (λ_ _ _=>none)
  (λ_ st=>some (.normal,st))
  (λ_ _=>none)
  (λst=>some (.ret,st))
  (λ_ _=>none) c
theorem TF (body:BX):∀(n:Nat) (st:St),OY body n st=CZ body n st:=by
 intro n;induction n with
 |zero=>intro st;rfl
 | succ n ih=>
  intro st
  show XU (body st) (OY body n)=_
  rw[CZ]
  cases body st with
  |none=>rfl
  |some p=>
   obtain⟨e,st'⟩:=p
   cases e with
   |normal=>exact ih st'
   |exit _=>rfl
   |ret=>rfl
   |panic _=>rfl
theorem codeF_eq (C:cE)(ev:aW)(f:FuncId)(fuel:Nat):∀(c:Code) (st:St),codeF C ev f fuel c st=evalCode C ev f fuel c st:=by
 intro c;induction c with
 |skip=>intro st;rfl
 | region id ops draw=>
   intro st
   show cond draw _ (TD C ev f ops ops.toList st.slots st.H st.tick)=_
   rw[XT,evalCode]
   cases draw<;>rfl
 | seq a b iha ihb=>
   intro st
   show XU (codeF C ev f fuel a st) (codeF C ev f fuel b)=_
   rw[iha,evalCode]
   cases evalCode C ev f fuel a st with
   |none=>rfl
   | some p=>
     obtain⟨e,st'⟩:=p
     cases e with
     |normal=>exact ihb st'
     |exit _=>rfl
     |ret=>rfl
     |panic _=>rfl
 | cond c a b iha ihb=>
   intro st
   show ov (codeF C ev f fuel a) (codeF C ev f fuel b) st (vA C st.slots c)=_
   rw[mG,evalCode]
   unfold ov
   split
   · rename_i h;rw[h];exact iha st
   · rename_i h;rw[h];exact ihb st
   · rename_i h1 h2
     split
     · rename_i h;exact absurd h h1
     · rename_i h;exact absurd h h2
     · rfl
 | block id body ih=>
   intro st
   show TE id (codeF C ev f fuel body st)=_
   rw[ih,evalCode]
   cases evalCode C ev f fuel body st with
   |none=>rfl
   | some p=>
     obtain⟨e,st'⟩:=p
     cases e with
     | exit id'=>
       show cond (Nat.beq id' id) _ _=if id'=id then _ else _
       by_cases h:id'=id
       · rw[if_pos h,h,Nat.beq_refl];rfl
       · rw[if_neg h,show Nat.beq id' id=false from by rw[Bool.eq_false_iff];exactλe=>h (Nat.eq_of_beq_eq_true e)];rfl
     |normal=>rfl
     |ret=>rfl
     |panic _=>rfl
 | loop body ih=>
   intro st
   show OY (codeF C ev f fuel body) fuel st=_
   rw[TF,evalCode,show codeF C ev f fuel body=evalCode C ev f fuel body from funext ih]
 |_=>intros;rfl
def aad (C:cE)(ev:aW)(fuel:Nat)(f:FuncId)(args:List TV)(aU:List aO)(fn:Func)(body:Code):Option bk:=
 match codeF C ev f fuel body {slots:=args++List.replicate (fn.ntmps - args.length) bS,H:=bX 0 aU,tick:=0} with
 |some (.normal,st)=>finish C fn aU.length st
 |some (.ret,st)=>finish C fn aU.length st
 |some (.panic v,st)=>if v.names.any Nm.dS then none else some (.panic v (pV st.H 0 aU.length))
 |_=>none
def XV (C:cE)(ev:aW)(fuel:Nat)(f:FuncId)(args:List TV)(aU:List aO):Option bk:=
 gC (C.P.fn f) λfn=>gC fn.body λbody=>if fn.name= "runtime.NumGoroutine" then none else aad C ev fuel f args aU fn body
theorem XW (C:cE)(ev:aW)(fuel:Nat)(f:FuncId)(args:List TV)(aU:List aO):XV C ev fuel f args aU=JP C ev fuel f args aU:=by
 unfold XV JP;rcases h:C.P.fn f with _|fn
 ·rfl
 ·simp only[cO];rcases h2:fn.body with _|body
  ·rfl
  ·simp only[cO,aad,codeF_eq];rfl
def vp (C:cE)(X:Ext)(n:Nat):aW:=
 Nat.rec (motive:=λ_=>aW) (λ_ _ _=>none)
  (λn ih f args aU=>Option.rec (motive:=λ_=>Option bk) (XV C ih n f args aU) (λs=>s ih args aU) (X f)) n
theorem wq (C:cE)(X:Ext):∀n,vp C X n=C0 C X n:=by
 intro n;induction n with
 |zero=>rfl
 |succ n ih=>
  funext f args aU
  rw[C0]
  show Option.rec (motive:=λ_=>Option bk) (XV C (vp C X n) n f args aU) (λs=>s (vp C X n) args aU) (X f)=_
  rw[ih,XW]
  cases X f<;>rfl
def ai7:Option bk->Bool
 |some (.ret (.t (.bool true)) [] [])=>true
 |_=>false
def zN:List UInt8->List UInt8->Bool
 | [],[]=>true
 |a::r,b::t=>cond (Nat.beq a.toNat b.toNat) (zN r t) false
 |_,_=>false
theorem DS:∀{a b:List UInt8},zN a b=true->a=b
 | [],[],_=>rfl
 | [],_::_,h=>by simp[zN] at h
 |_::_,[],h=>by simp[zN] at h
 | a::r,b::t,h=>by
   simp only[zN] at h
   cases hn:Nat.beq a.toNat b.toNat with
   |false=>rw[hn] at h;cases h
   |true=>
    rw[hn] at h
    have e:a=b:=UInt8.toNat_inj.1 (Nat.eq_of_beq_eq_true hn)
    rw[e,DS (show zN r t=true from h)]
def BZ:List Tree->List (List UInt8)->Bool
 | [],[]=>true
 |.str s::r,b::t=>cond (zN s b) (BZ r t) false
 |_,_=>false
theorem KC:∀{a:List Tree} {b:List (List UInt8)},BZ a b=true->a=b.map .str
 | [],[],_=>rfl
 | [],_::_,h=>by simp[BZ] at h
 |x::r,[],h=>by cases x<;>simp[BZ] at h
 | x ::r,b::t,h=>by
   cases x with
   | str s=>
    simp only[BZ] at h
    cases hs:zN s b with
    |false=>rw[hs] at h;cases h
    |true=>
     rw[hs] at h
     rw[DS hs,KC (show BZ r t=true from h)]
     rfl
   |_=>simp[BZ] at h
def xw (ws:List (List UInt8)):Option bk->Bool
 |some (.ret (.t (.sl es)) [] [])=>BZ es ws
 |_=>false
theorem ux {ws:List (List UInt8)}{r:Option bk}(h:xw ws r=true):r=some (.ret (.t (.sl (ws.map .str))) [] []):=by
 unfold xw at h;split at h
 ·rw[KC h]
 ·cases h
end Go.Abs
end
noncomputable section
namespace Go.Abs
open Go Go.RowKit
def CG (C:cE)(fn:Func)(n:Nat)(st:St):Option bk:=
 match iP C st fn.results.toList with
 |none=>none
 | some vs=>
  match nj st.H 0 n with
  |none=>none
  |some os=>match reach st.H eB [] ((u7 vs).names++os.flatMap aO.names) with
   |none=>none
   |some R=>(jY st.H R).map λh=>.ret (u7 vs) os h
def adV (C:cE)(fn:Func)(n:Nat):Option (aK×St)->Option bk
 |some (.normal,st)=>CG C fn n st
 |some (.ret,st)=>CG C fn n st
 |_=>none
def QS (C:cE)(ev:aW)(fuel:Nat)(f:FuncId)(args:List TV)(aU:List aO):Option bk:=
 gC (C.P.fn f) λfn=>gC fn.body λbody=>
  if fn.name= "runtime.NumGoroutine" then none else
   adV C fn aU.length (codeF C ev f fuel body {slots:=args++List.replicate (fn.ntmps - args.length) bS,H:=bX 0 aU,tick:=0})
def adW (C:cE)(fuel:Nat)(f:FuncId):iy:=λev args aU=>match args with
 | [.t (.sl [])]=>some (.ret (.t (.sl [])) aU [])
 |_=>QS C ev fuel f args aU
section
variable {C:cE}{g f:FuncId}{G:Gh}{w:World}{vs:List Value}{ev:aW}
theorem DT {fn:Func}{n:Nat}{st:St}{a:Act}{r:bk}{G0:Gh}{w0:World}(h:CG C fn n st=some r)(hs:dz G0 w0 G w)(hst:vG C G w st a):
 ∃v,(results fn a.tmps).run C.P w=.ok v w/\sL G0 w0 n r (.returned v) w:=by
 unfold CG at h
 split at h
 ·simp at h
 rename_i vs hvs
 obtain⟨v,hv,hr⟩:=yH hst hvs
 refine⟨v,hv, ?_⟩
 split at h
 ·simp at h
 rename_i os hos
 split at h
 ·simp at h
 rename_i R hR
 cases Qx:jY st.H R with
 |none=>rw[Qx] at h;simp at h
 | some nw=>
   rw[Qx] at h
   simp only[Option.map_some,Option.some.injEq] at h
   subst h
   obtain⟨e1,e2⟩:=vY hos
   refine⟨v,G,rfl,hs,e1,λi o ho=> ?_,λk o hm=> ?_,hr⟩
   · have:=e2 i o ho
     rw[Nat.zero_add] at this
     exact hst.heap _ _ this
   · obtain⟨e3,e4⟩:=rI Qx k o hm
     exact⟨e3,hst.heap _ _ e4⟩
theorem Is (hm:C.P.prog.follows .mixedOrders=true)(aC:aI C ev){fuel:Nat}{args:List TV}{aU:List aO}{r:bk}(h:QS C ev fuel f args aU=some r)(hw:WF G w)(hg:jO C G)(had:yD G aU.length)
 (hH:HR G w (bX 0 aU))(hv:cB G args vs):nk C.P f vs.toArray w (sL G w aU.length r):=by
 unfold QS at h
 rcases A8:C.P.fn f with _|fn
 ·rw[A8] at h;cases h
 rw[A8,cO] at h
 have hfn:=C.P.P9 _ _ A8
 rcases hbody:fn.body with _|body
 ·rw[hbody] at h;cases h
 rw[hbody,cO] at h
 split at h
 ·cases h
 rename_i hname
 rw[codeF_eq] at h
 have hst:vG C G w {slots:=args++List.replicate (fn.ntmps - args.length) bS,H:=bX 0 aU,tick:=0} {tmps:=vs.toArray++Array.replicate (fn.ntmps - vs.toArray.size) undef,defers:=[]}:=by
  refine⟨hw,hg, ?_,hH,λp hp=>absurd hp (had.2 p)⟩;have e:(vs.toArray++Array.replicate (fn.ntmps - vs.toArray.size) undef).toList=vs++List.replicate (fn.ntmps - args.length) undef:=by simp[hv.1]
  unfold SR;rw[e];refine cB.append hv ⟨by simp,λj c u hc hu=> ?_⟩;rw[List.getElem?_replicate] at hc hu;by_cases hl:j<fn.ntmps - args.length
  ·rw[if_pos hl] at hc hu;simp at hc hu;subst hc;subst hu;exact l9 G
  ·rw[if_neg hl] at hc;simp at hc
 refine .inl ⟨?_,calls_of_wp hfn hbody ?_⟩
 ·simp[callFunc,hfn,hname,hbody]
 ·unfold adV at h;split at h
  ·rename_i st he;refine wp_mono (lB hm aC body _ _ _ he G w _ hst) λex a' w' hgd=> ?_
   obtain⟨G',hs,hd,rfl,jk⟩:=hgd;exact⟨hd,DT h hs jk⟩
  ·rename_i st he;refine wp_mono (lB hm aC body _ _ _ he G w _ hst) λex a' w' hgd=> ?_
   obtain⟨G',hs,hd,rfl,jk⟩:=hgd;exact⟨hd,DT h hs jk⟩
  ·cases h
end
def TG (a b:IntKind):Bool:=match a,b with
 |.i8,.i8|.i16,.i16|.i32,.i32|.i64,.i64|.u8,.u8|.u16,.u16|.u32,.u32|.u64,.u64=>true
 |_,_=>false
theorem TH {a b:IntKind}(h:TG a b=true):a=b:=by cases a<;>cases b<;>first|rfl|cases h
def OZ:Int->Int->Bool
 |.ofNat a,.ofNat b=>Nat.beq a b
 |.negSucc a,.negSucc b=>Nat.beq a b
 |_,_=>false
theorem TJ {a b:Int}(h:OZ a b=true):a=b:=by
 cases a<;>cases b<;>simp only[OZ] at h<;>first|(rw[Nat.eq_of_beq_eq_true h])|cases h
def B0 (f:Tree->Tree->Bool):List Tree->List Tree->Bool
 | [],[]=>true
 |a::r,b::t=>cond (f a b) (B0 f r t) false
 |_,_=>false
theorem wu {f:Tree->Tree->Bool}(hf:∀a b,f a b=true->a=b):∀{a b:List Tree},B0 f a b=true->a=b
 | [],[],_=>rfl
 | [],_::_,h=>by cases h
 |_::_,[],h=>by cases h
 | a::r,b::t,h=>by
   simp only[B0] at h
   cases hq:f a b with
   |false=>rw[hq] at h;cases h
   |true=>
    rw[hq] at h
    rw[hf a b hq,wu hf (show B0 f r t=true from h)]
def B1:Nat->Tree->Tree->Bool
 |0,_,_=>false
 |n+1,a,b=>match a,b with
  |.bool x,.bool y=>cond x y (!y)
  |.int k x,.int k' y=>cond (TG k k') (OZ x y) false
  |.str x,.str y=>zN x y
  |.sl x,.sl y=>B0 (B1 n) x y
  |.agg x,.agg y=>B0 (B1 n) x y
  |.cv x,.cv y=>B0 (B1 n) x y
  |_,_=>false
theorem wA:∀(n:Nat) (a b:Tree),B1 n a b=true->a=b
 |0,_,_,h=>by cases h
 |n  + 1,a,b,h=>by
  unfold B1 at h;split at h
  ·rename_i x y;cases x<;>cases y<;>first|rfl|cases h
  ·rename_i k x k' y;cases hk:TG k k' with
   |false=>rw[hk] at h;cases h
   |true=>rw[hk] at h;rw[TH hk,TJ (show OZ x y=true from h)]
  ·rw[DS h]
  ·rw[wu (wA n) h]
  ·rw[wu (wA n) h]
  ·rw[wu (wA n) h]
  ·cases h
end Go.Abs
end
