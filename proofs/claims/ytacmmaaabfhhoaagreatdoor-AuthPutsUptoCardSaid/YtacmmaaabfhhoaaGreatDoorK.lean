/- The same interpreter, laid out for the kernel: bare recursors, small bodies. -/
import Derived.Test.YtacmmaaabfhhoaaGreatDoorD
import Derived.Test.YtacmmaaabfhhoaaGreatDoorJ
import Derived.Below
set_option linter.unusedVariables false
set_option linter.unusedSimpArgs false
noncomputable section
namespace Go.Abs
open Go
abbrev tP:=cE->aX->FuncId->Heap->List TV->Nat->Oper->Option pY
def gS {α β:Type}(x:Option α)(k:α->Option β):Option β:=Option.rec (motive:=λ_=>Option β) none k x
theorem Ct {α β:Type}(k:α->Option β):gS none k=none:=rfl
theorem cM {α β:Type}(a:α)(k:α->Option β):gS (some a) k=k a:=rfl
def X4 (v:TV):Option pY:=some (.val v [])
def tW (C:cE)(slots:List TV)(x:Operand):Option TV:=
 Operand.rec (motive:=λ_=>Option TV) (λt=>some (Vd slots t)) (λv=>valOf v) (λg=>bU C slots (.global g)) (λf=>some (.t (.fn (.func f)))) x
theorem mM (C:cE)(slots:List TV)(x:Operand):tW C slots x=bU C slots x:=by
 cases x<;>rfl
def gN:tP:=λC ev f H slots t o=>aR C ev f H slots t o
def F4 (x:Operand):tP:=λC _ _ _ slots _ _=>gS (tW C slots x) X4
def abF (a b:TV):TV->Option pY
 |.t (.bool c)=>X4 (cond c a b)
 |_=>none
def QV (c a b:Operand):tP:=λC _ _ _ slots _ _=>
 gS (tW C slots c) λc=>gS (tW C slots a) λa=>gS (tW C slots b) λb=>abF a b c
def QW (t:TypeId)(a:Operand):tP:=λC _ _ H slots _ _=>gS (tW C slots a) λa=>gS (loadT C.P H t a) X4
def X5 (op:BinOp)(t:TypeId)(x y:Operand)(_:TypeId):tP:=λC _ _ _ slots _ _=>
 gS (tW C slots x) λa=>gS (tW C slots y) λb=>gS (qT C.P op t x y a b) X4
def abG (op:UnOp)(_:TypeId)(x:Operand):tP:=λC _ _ _ slots _ _=>gS (tW C slots x) λa=>gS (unT C.P op a) X4
def Ar (t:TypeId)(x i:Operand):tP:=λC _ _ H slots _ _=>
 gS (tW C slots x) λa=>gS (tW C slots i) λb=>gS (dW C.P H t a b) X4
def Mk (t:TypeId)(x i:Operand):tP:=λC _ _ _ slots _ _=>
 gS (tW C slots x) λa=>gS (tW C slots i) λb=>gS (pV C.P t a b) X4
def Ml (t:TypeId)(a x:Operand):tP:=λC _ _ H slots _ _=>
 gS (tW C slots a) λa=>gS (tW C slots x) λx=>gS (storeT C.P H t a x) λu=>some (.val bR u)
def X6 (x:Operand):tP:=λC _ _ _ slots _ _=>gS (tW C slots x) λv=>cond (Hw v) (X4 v) none
def rL (o:Oper):tP:=
 Op.rec (motive:=λ_=>tP) F4 F4 QV (λ_=>gN) (λ_ _=>gN) (λ_ _=>gN) (λ_ _ _=>gN) (λ_ _ _ _=>gN) QW Ml
  (λ_=>gN) (λ_=>gN) X6 X5 abG (λ_ _ _=>gN) (λ_ _=>gN) (λ_ _=>gN) (λ_ _ _=>gN) (λ_ _=>gN) (λ_ _=>gN)
  (λ_ _ _=>gN) (λ_ _ _ _ _=>gN) (λ_ _ _=>gN) (λ_ _ _=>gN) Ar Mk (λ_ _ _ _=>gN) (λ_ _ _ _=>gN) (λ_ _ _=>gN)
  (λ_ _ _ _=>gN) (λ_ _=>gN) (λ_ _=>gN) (λ_=>gN) (λ_ _ _ _=>gN) (λ_ _=>gN) (λ_=>gN) (λ_=>gN) (λ_=>gN) (λ_=>gN)
  (λ_ _=>gN) (λ_ _ _=>gN) (λ_ _=>gN) o.op
theorem QX (C:cE)(ev:aX)(f:FuncId)(H:Heap)(slots:List TV)(t:Nat)(o:Oper):rL o C ev f H slots t o=aR C ev f H slots t o:=by
 obtain⟨dst,op,type,pos,after,guard⟩:=o;cases op with
 |move x=>simp only[rL,F4,aR,evalOp,mM];cases bU C slots x<;>rfl
 |assign x=>simp only[rL,F4,aR,evalOp,mM];cases bU C slots x<;>rfl
 | pick c a b=>
  simp only[rL,QV,aR,evalOp,mM]
  cases h1:bU C slots c with
  |none=>rfl
  | some c=>
   cases h2:bU C slots a with
   |none=>simp only[cM,Ct]
   | some a=>
    cases h3:bU C slots b with
    |none=>simp only[cM,Ct]
    | some b=>
     simp only[cM]
     cases c with
     |t c=>
      cases c with
      |bool c=>cases c<;>rfl
      |_=>rfl
     |_=>rfl
 |load t a=>simp only[rL,QW,aR,evalOp,mM];cases bU C slots a with
  |none=>rfl
  |some a=>simp only[cM];cases loadT C.P H t a<;>rfl
 | store t a x=>simp only[rL,Ml,aR,evalOp,mM];cases bU C slots a with
  |none=>rfl
  |some a=>simp only[cM];cases bU C slots x with
   |none=>rfl
   |some x=>simp only[cM];cases storeT C.P H t a x<;>rfl
 |nilCheck x=>simp only[rL,X6,aR,evalOp,mM];cases bU C slots x with
  |none=>rfl
  |some v=>simp only[cM];cases Hw v<;>rfl
 | binOp op t x y t'=>simp only[rL,X5,aR,evalOp,mM];cases bU C slots x with
  |none=>rfl
  |some a=>simp only[cM];cases bU C slots y with
   |none=>rfl
   |some b=>simp only[cM];cases qT C.P op t x y a b<;>rfl
 |unOp op t x=>simp only[rL,abG,aR,evalOp,mM];cases bU C slots x with
  |none=>rfl
  |some a=>simp only[cM];cases unT C.P op a<;>rfl
 | indexAddr t x i=>simp only[rL,Ar,aR,evalOp,mM];cases bU C slots x with
  |none=>rfl
  |some a=>simp only[cM];cases bU C slots i with
   |none=>rfl
   |some b=>simp only[cM];cases dW C.P H t a b<;>rfl
 | index t x i=>simp only[rL,Mk,aR,evalOp,mM];cases bU C slots x with
  |none=>rfl
  |some a=>simp only[cM];cases bU C slots i with
   |none=>rfl
   |some b=>simp only[cM];cases pV C.P t a b<;>rfl
 |_=>rfl
def QY (ops:Array Oper)(slots:List TV)(o:Oper):Option Bool:=
 Option.rec (motive:=λ_=>Option Bool) (some true) (λ_=>dL ops slots o) o.guard
theorem QZ (ops:Array Oper)(slots:List TV)(o:Oper):QY ops slots o=dL ops slots o:=by
 obtain⟨dst,op,type,pos,after,guard⟩:=o;cases guard<;>rfl
def Y8 (slots:List TV)(d:Option Tmp)(v:TV):List TV:=Option.rec (motive:=λ_=>List TV) slots (λd=>Ve v slots d) d
theorem Mm (slots:List TV)(d:Option Tmp)(v:TV):Y8 slots d v=cI slots d v:=by cases d<;>rfl
def Q0 (C:cE)(ev:aX)(f:FuncId)(ops:Array Oper)(l:List Oper):List TV->Heap->Nat->Option (aJ×St):=
 List.rec (motive:=λ_=>List TV->Heap->Nat->Option (aJ×St)) (λslots H t=>some (.normal,{slots:=slots,H:=H,tick:=t}))
  (λo _ ih slots H t=>gS (QY ops slots o) λb=>
   Bool.rec (motive:=λ_=>Option (aJ×St)) (ih (Y8 slots o.dst bR) H (t+1))
    (gS (rL o C ev f H slots t o) λr=>pY.rec (motive:=λ_=>Option (aJ×St)) (λv u=>ih (Y8 slots o.dst v) (H.dH u) (t+1))
     (λv u l=>some (.panic v,{slots:=slots,H:=(H.sC l).dH u,tick:=t+1})) r) b) l
theorem VC (C:cE)(ev:aX)(f:FuncId)(ops:Array Oper):∀(l:List Oper) (slots:List TV) (H:Heap) (t:Nat),Q0 C ev f ops l slots H t=AN C ev f ops l {slots:=slots,H:=H,tick:=t}:=by
 intro l;induction l with
 |nil=>intro slots H t;rfl
 | cons o r ih=>
  intro slots H t
  show(gS (QY ops slots o) λb=>_)=_
  rw[AN,QZ]
  cases dL ops slots o with
  |none=>rfl
  | some b=>
   rw[cM]
   cases b with
   |false=>show Q0 C ev f ops r _ _ _=_;rw[ih,Mm]
   | true=>
    show(gS (rL o C ev f H slots t o) λr=>_)=_
    rw[QX]
    cases aR C ev f H slots t o with
    |none=>rfl
    |some res=>
     rw[cM]
     cases res with
     |val v u=>show Q0 C ev f ops r _ _ _=_;rw[ih,Mm]
     |panic v u l=>rfl
abbrev Au:=St->Option (aJ×St)
def VD (r:Option (aJ×St))(k:Au):Option (aJ×St):=
 gS r λp=>aJ.rec (motive:=λ_=>Option (aJ×St)) (k p.2) (λ_=>some p) (some p) (λ_=>some p) p.1
def nU (a b:Au)(st:St):Option TV->Option (aJ×St)
 |some (.t (.bool true))=>a st
 |some (.t (.bool false))=>b st
 |_=>none
def Q5 (id:Nat):Option (aJ×St)->Option (aJ×St)
 |some (.exit id',st')=>cond (Nat.beq id' id) (some (.normal,st')) (some (.exit id',st'))
 |r=>r
def Mn (body:Au)(n:Nat):Au:=
 Nat.rec (motive:=λ_=>Au) (λ_=>none) (λ_ ih st=>VD (body st) ih) n
def codeF (C:cE)(ev:aX)(f:FuncId)(fuel:Nat)(c:Code):Au:=
 Code.rec (motive:=λ_=>Au)
  (λst=>some (.normal,st))
  (λ_ ops draw st=>cond draw (vz C ev f ops st) (Q0 C ev f ops ops.toList st.slots st.H st.tick))
  (λ_ _ Y9 Za st=>VD (Y9 st) Za)
  (λc _ _ Y9 Za st=>nU Y9 Za st (tW C st.slots c))
  (λid _ ih st=>Q5 id (ih st))
  (λ_ ih=>Mn ih fuel)
  (λ_ _ _ _ _ _ _=>none)
  (λid st=>some (.exit id,st))
  (λ_ _ _=>none)
  (λ_ st=>some (.normal,st))
  (λ_ _=>none)
  (λst=>some (.ret,st))
  (λ_ _=>none) c
theorem Q6 (body:Au):∀(n:Nat) (st:St),Mn body n st=BB body n st:=by
 intro n;induction n with
 |zero=>intro st;rfl
 | succ n ih=>
  intro st
  show VD (body st) (Mn body n)=_
  rw[BB]
  cases body st with
  |none=>rfl
  |some p=>
   obtain⟨e,st'⟩:=p
   cases e with
   |normal=>exact ih st'
   |exit _=>rfl
   |ret=>rfl
   |panic _=>rfl
theorem codeF_eq (C:cE)(ev:aX)(f:FuncId)(fuel:Nat):∀(c:Code) (st:St),codeF C ev f fuel c st=evalCode C ev f fuel c st:=by
 intro c;induction c with
 |skip=>intro st;rfl
 | region id ops draw=>
   intro st
   show cond draw _ (Q0 C ev f ops ops.toList st.slots st.H st.tick)=_
   rw[VC,evalCode]
   cases draw<;>rfl
 | seq a b Y9 Za=>
   intro st
   show VD (codeF C ev f fuel a st) (codeF C ev f fuel b)=_
   rw[Y9,evalCode]
   cases evalCode C ev f fuel a st with
   |none=>rfl
   | some p=>
     obtain⟨e,st'⟩:=p
     cases e with
     |normal=>exact Za st'
     |exit _=>rfl
     |ret=>rfl
     |panic _=>rfl
 | cond c a b Y9 Za=>
   intro st
   show nU (codeF C ev f fuel a) (codeF C ev f fuel b) st (tW C st.slots c)=_
   rw[mM,evalCode]
   unfold nU
   split
   · rename_i h;rw[h];exact Y9 st
   · rename_i h;rw[h];exact Za st
   · rename_i h1 h2
     split
     · rename_i h;exact absurd h h1
     · rename_i h;exact absurd h h2
     · rfl
 | block id body ih=>
   intro st
   show Q5 id (codeF C ev f fuel body st)=_
   rw[ih,evalCode]
   cases evalCode C ev f fuel body st with
   |none=>rfl
   | some p=>
     obtain⟨e,st'⟩:=p
     cases e with
     | exit id'=>
       show cond (Nat.beq id' id) _ _=if id'=id then _ else _
       by_cases h:id'=id
       · rw[if_pos h,h,Nat.beq_refl];rfl
       · rw[if_neg h,show Nat.beq id' id=false from by rw[Bool.eq_false_iff];exactλe=>h (Nat.eq_of_beq_eq_true e)];rfl
     |normal=>rfl
     |ret=>rfl
     |panic _=>rfl
 | loop body ih=>
   intro st
   show Mn (codeF C ev f fuel body) fuel st=_
   rw[Q6,evalCode,show codeF C ev f fuel body=evalCode C ev f fuel body from funext ih]
 |_=>intros;rfl
def X7 (C:cE)(ev:aX)(fuel:Nat)(f:FuncId)(args:List TV)(aP:List aO)(fn:Func)(body:Code):Option bz:=
 match codeF C ev f fuel body {slots:=args++List.replicate (fn.ntmps - args.length) bR,H:=bK 0 aP,tick:=0} with
 |some (.normal,st)=>finish C fn aP.length st
 |some (.ret,st)=>finish C fn aP.length st
 |some (.panic v,st)=>if v.names.any Nm.eR then none else some (.panic v (qA st.H 0 aP.length))
 |_=>none
def VE (C:cE)(ev:aX)(fuel:Nat)(f:FuncId)(args:List TV)(aP:List aO):Option bz:=
 gS (C.P.fn f) λfn=>gS fn.body λbody=>if fn.name= "runtime.NumGoroutine" then none else X7 C ev fuel f args aP fn body
theorem VG (C:cE)(ev:aX)(fuel:Nat)(f:FuncId)(args:List TV)(aP:List aO):VE C ev fuel f args aP=Hz C ev fuel f args aP:=by
 unfold VE Hz;rcases h:C.P.fn f with _|fn
 ·rfl
 ·simp only[cM];rcases h2:fn.body with _|body
  ·rfl
  ·simp only[cM,X7,codeF_eq];rfl
def rM (C:cE)(X:Ext)(n:Nat):aX:=
 Nat.rec (motive:=λ_=>aX) (λ_ _ _=>none)
  (λn ih f args aP=>Option.rec (motive:=λ_=>Option bz) (VE C ih n f args aP) (λs=>s ih args aP) (X f)) n
theorem rN (C:cE)(X:Ext):∀n,rM C X n=BD C X n:=by
 intro n;induction n with
 |zero=>rfl
 |succ n ih=>
  funext f args aP
  rw[BD]
  show Option.rec (motive:=λ_=>Option bz) (VE C (rM C X n) n f args aP) (λs=>s (rM C X n) args aP) (X f)=_
  rw[ih,VG]
  cases X f<;>rfl
def ajx:Option bz->Bool
 |some (.ret (.t (.bool true)) [] [])=>true
 |_=>false
def yx:List UInt8->List UInt8->Bool
 | [],[]=>true
 |a::r,b::t=>cond (Nat.beq a.toNat b.toNat) (yx r t) false
 |_,_=>false
theorem Cu:∀{a b:List UInt8},yx a b=true->a=b
 | [],[],_=>rfl
 | [],_::_,h=>by simp[yx] at h
 |_::_,[],h=>by simp[yx] at h
 | a::r,b::t,h=>by
   simp only[yx] at h
   cases hn:Nat.beq a.toNat b.toNat with
   |false=>rw[hn] at h;cases h
   |true=>
    rw[hn] at h
    have e:a=b:=UInt8.toNat_inj.1 (Nat.eq_of_beq_eq_true hn)
    rw[e,Cu (show yx r t=true from h)]
def Av:List Tree->List (List UInt8)->Bool
 | [],[]=>true
 |.str s::r,b::t=>cond (yx s b) (Av r t) false
 |_,_=>false
theorem Is:∀{a:List Tree} {b:List (List UInt8)},Av a b=true->a=b.map .str
 | [],[],_=>rfl
 | [],_::_,h=>by simp[Av] at h
 |x::r,[],h=>by cases x<;>simp[Av] at h
 | x ::r,b::t,h=>by
   cases x with
   | str s=>
    simp only[Av] at h
    cases hs:yx s b with
    |false=>rw[hs] at h;cases h
    |true=>
     rw[hs] at h
     rw[Cu hs,Is (show Av r t=true from h)]
     rfl
   |_=>simp[Av] at h
def vK (ws:List (List UInt8)):Option bz->Bool
 |some (.ret (.t (.sl es)) [] [])=>Av es ws
 |_=>false
theorem sX {ws:List (List UInt8)}{r:Option bz}(h:vK ws r=true):r=some (.ret (.t (.sl (ws.map .str))) [] []):=by
 unfold vK at h;split at h
 ·rw[Is h]
 ·cases h
end Go.Abs
end
noncomputable section
namespace Go.Abs
open Go Go.RowKit
def Bg (C:cE)(fn:Func)(n:Nat)(st:St):Option bz:=
 match jb C st fn.results.toList with
 |none=>none
 | some vs=>
  match nh st.H 0 n with
  |none=>none
  |some os=>match reach st.H eE [] ((tJ vs).names++os.flatMap aO.names) with
   |none=>none
   |some R=>(ke st.H R).map λh=>.ret (tJ vs) os h
def abH (C:cE)(fn:Func)(n:Nat):Option (aJ×St)->Option bz
 |some (.normal,st)=>Bg C fn n st
 |some (.ret,st)=>Bg C fn n st
 |_=>none
def N2 (C:cE)(ev:aX)(fuel:Nat)(f:FuncId)(args:List TV)(aP:List aO):Option bz:=
 gS (C.P.fn f) λfn=>gS fn.body λbody=>
  if fn.name= "runtime.NumGoroutine" then none else
   abH C fn aP.length (codeF C ev f fuel body {slots:=args++List.replicate (fn.ntmps - args.length) bR,H:=bK 0 aP,tick:=0})
def abI (C:cE)(fuel:Nat)(f:FuncId):jy:=λev args aP=>match args with
 | [.t (.sl [])]=>some (.ret (.t (.sl [])) aP [])
 |_=>N2 C ev fuel f args aP
section
variable {C:cE}{g f:FuncId}{G:Gh}{w:World}{vs:List Value}{ev:aX}
theorem Cv {fn:Func}{n:Nat}{st:St}{a:Act}{r:bz}{G0:Gh}{w0:World}(h:Bg C fn n st=some r)(hs:cx G0 w0 G w)(hst:tV C G w st a):
 ∃v,(results fn a.tmps).run C.P w=.ok v w/\p9 G0 w0 n r (.returned v) w:=by
 unfold Bg at h
 split at h
 ·simp at h
 rename_i vs hvs
 obtain⟨v,hv,hr⟩:=w6 hst hvs
 refine⟨v,hv, ?_⟩
 split at h
 ·simp at h
 rename_i os hos
 split at h
 ·simp at h
 rename_i R hR
 cases J3:ke st.H R with
 |none=>rw[J3] at h;simp at h
 | some nw=>
   rw[J3] at h
   simp only[Option.map_some,Option.some.injEq] at h
   subst h
   obtain⟨e1,e2⟩:=uG hos
   refine⟨v,G,rfl,hs,e1,λi o ho=> ?_,λk o hm=> ?_,hr⟩
   · have:=e2 i o ho
     rw[Nat.zero_add] at this
     exact hst.heap _ _ this
   · obtain⟨e3,e4⟩:=qE J3 k o hm
     exact⟨e3,hst.heap _ _ e4⟩
theorem F5 (hm:C.P.prog.follows .mixedOrders=true)(az:aF C ev){fuel:Nat}{args:List TV}{aP:List aO}{r:bz}(h:N2 C ev fuel f args aP=some r)(hw:WF G w)(hg:iA C G)(had:uD G aP.length)
 (hH:HR G w (bK 0 aP))(hv:cr G args vs):mG C.P f vs.toArray w (p9 G w aP.length r):=by
 unfold N2 at h
 rcases zF:C.P.fn f with _|fn
 ·rw[zF] at h;cases h
 rw[zF,cM] at h
 have hfn:=C.P.Nh _ _ zF
 rcases hbody:fn.body with _|body
 ·rw[hbody] at h;cases h
 rw[hbody,cM] at h
 split at h
 ·cases h
 rename_i hname
 rw[codeF_eq] at h
 have hst:tV C G w {slots:=args++List.replicate (fn.ntmps - args.length) bR,H:=bK 0 aP,tick:=0} {tmps:=vs.toArray++Array.replicate (fn.ntmps - vs.toArray.size) undef,defers:=[]}:=by
  refine⟨hw,hg, ?_,hH,λp hp=>absurd hp (had.2 p)⟩;have e:(vs.toArray++Array.replicate (fn.ntmps - vs.toArray.size) undef).toList=vs++List.replicate (fn.ntmps - args.length) undef:=by simp[hv.1]
  unfold SR;rw[e];refine cr.append hv ⟨by simp,λj c u hc hu=> ?_⟩;rw[List.getElem?_replicate] at hc hu;by_cases hl:j<fn.ntmps - args.length
  ·rw[if_pos hl] at hc hu;simp at hc hu;subst hc;subst hu;exact mB G
  ·rw[if_neg hl] at hc;simp at hc
 refine .inl ⟨?_,calls_of_wp hfn hbody ?_⟩
 ·simp[callFunc,hfn,hname,hbody]
 ·unfold abH at h;split at h
  ·rename_i st he;refine wp_mono (lU hm az body _ _ _ he G w _ hst) λex a' w' hgd=> ?_
   obtain⟨G',hs,hd,rfl,lK⟩:=hgd;exact⟨hd,Cv h hs lK⟩
  ·rename_i st he;refine wp_mono (lU hm az body _ _ _ he G w _ hst) λex a' w' hgd=> ?_
   obtain⟨G',hs,hd,rfl,lK⟩:=hgd;exact⟨hd,Cv h hs lK⟩
  ·cases h
end
def Q7 (a b:IntKind):Bool:=match a,b with
 |.i8,.i8|.i16,.i16|.i32,.i32|.i64,.i64|.u8,.u8|.u16,.u16|.u32,.u32|.u64,.u64=>true
 |_,_=>false
theorem Q8 {a b:IntKind}(h:Q7 a b=true):a=b:=by cases a<;>cases b<;>first|rfl|cases h
def Mp:Int->Int->Bool
 |.ofNat a,.ofNat b=>Nat.beq a b
 |.negSucc a,.negSucc b=>Nat.beq a b
 |_,_=>false
theorem Q9 {a b:Int}(h:Mp a b=true):a=b:=by
 cases a<;>cases b<;>simp only[Mp] at h<;>first|(rw[Nat.eq_of_beq_eq_true h])|cases h
def Aw (f:Tree->Tree->Bool):List Tree->List Tree->Bool
 | [],[]=>true
 |a::r,b::t=>cond (f a b) (Aw f r t) false
 |_,_=>false
theorem uN {f:Tree->Tree->Bool}(hf:∀a b,f a b=true->a=b):∀{a b:List Tree},Aw f a b=true->a=b
 | [],[],_=>rfl
 | [],_::_,h=>by cases h
 |_::_,[],h=>by cases h
 | a::r,b::t,h=>by
   simp only[Aw] at h
   cases hq:f a b with
   |false=>rw[hq] at h;cases h
   |true=>
    rw[hq] at h
    rw[hf a b hq,uN hf (show Aw f r t=true from h)]
def Ew:Nat->Tree->Tree->Bool
 |0,_,_=>false
 |n+1,a,b=>match a,b with
  |.bool x,.bool y=>cond x y (!y)
  |.int k x,.int k' y=>cond (Q7 k k') (Mp x y) false
  |.str x,.str y=>yx x y
  |.sl x,.sl y=>Aw (Ew n) x y
  |.agg x,.agg y=>Aw (Ew n) x y
  |.dr x,.dr y=>Aw (Ew n) x y
  |_,_=>false
theorem yy:∀(n:Nat) (a b:Tree),Ew n a b=true->a=b
 |0,_,_,h=>by cases h
 |n  + 1,a,b,h=>by
  unfold Ew at h;split at h
  ·rename_i x y;cases x<;>cases y<;>first|rfl|cases h
  ·rename_i k x k' y;cases hk:Q7 k k' with
   |false=>rw[hk] at h;cases h
   |true=>rw[hk] at h;rw[Q8 hk,Q9 (show Mp x y=true from h)]
  ·rw[Cu h]
  ·rw[uN (yy n) h]
  ·rw[uN (yy n) h]
  ·rw[uN (yy n) h]
  ·cases h
end Go.Abs
end
