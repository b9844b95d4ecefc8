/- The same interpreter, laid out for the kernel: bare recursors, small bodies. -/
import Derived.Test.YtijfhoelihclbaaGreatDoorB
import Derived.Test.YtijfhoelihclbaaGreatDoorG
import Derived.Below
noncomputable section
namespace Go.Abs
open Go

abbrev ExecA := Cfg → CallF → FuncId → Heap → List TV → Nat → Oper → Option ORes

def obind {α β : Type} (x : Option α) (k : α → Option β) : Option β := Option.rec (motive := fun _ => Option β) none k x

theorem obind_none {α β : Type} (k : α → Option β) : obind none k = none := rfl
theorem obind_some {α β : Type} (a : α) (k : α → Option β) : obind (some a) k = k a := rfl

def okv (v : TV) : Option ORes := some (.val v [])
def okp (p : TV × List (Nm × AObj)) : Option ORes := some (.val p.1 p.2)

def rhoF (C : Cfg) (slots : List TV) (x : Operand) : Option TV :=
  Operand.rec (motive := fun _ => Option TV) (fun t => some (getS slots t)) (fun v => valOf v) (fun g => rhoT C slots (.global g)) (fun f => some (.t (.fn (.func f)))) x

theorem rhoF_eq (C : Cfg) (slots : List TV) (x : Operand) : rhoF C slots x = rhoT C slots x := by
  cases x <;> rfl

def brOld : ExecA := fun C ev f H slots t o => execT C ev f H slots t o
def brMove (x : Operand) : ExecA := fun C _ _ _ slots _ _ => obind (rhoF C slots x) okv
def pickF (a b : TV) : TV → Option ORes
  | .t (.bool c) => okv (cond c a b)
  | _ => none
def brPick (c a b : Operand) : ExecA := fun C _ _ _ slots _ _ =>
  obind (rhoF C slots c) fun c => obind (rhoF C slots a) fun a => obind (rhoF C slots b) fun b => pickF a b c
def brLoad (t : TypeId) (a : Operand) : ExecA := fun C _ _ H slots _ _ => obind (rhoF C slots a) fun a => obind (loadT C.P H t a) okv
def brBin (op : BinOp) (t : TypeId) (x y : Operand) (_ : TypeId) : ExecA := fun C _ _ _ slots _ _ =>
  obind (rhoF C slots x) fun a => obind (rhoF C slots y) fun b => obind (binT C.P op t x y a b) okv
def brUn (op : UnOp) (_ : TypeId) (x : Operand) : ExecA := fun C _ _ _ slots _ _ => obind (rhoF C slots x) fun a => obind (unT C.P op a) okv
def brIndexAddr (t : TypeId) (x i : Operand) : ExecA := fun C _ _ H slots _ _ =>
  obind (rhoF C slots x) fun a => obind (rhoF C slots i) fun b => obind (indexAddrT C.P H t a b) okv
def brIndex (t : TypeId) (x i : Operand) : ExecA := fun C _ _ _ slots _ _ =>
  obind (rhoF C slots x) fun a => obind (rhoF C slots i) fun b => obind (indexT C.P t a b) okv
def brStore (t : TypeId) (a x : Operand) : ExecA := fun C _ _ H slots _ _ =>
  obind (rhoF C slots a) fun a => obind (rhoF C slots x) fun x => obind (storeT C.P H t a x) fun u => some (.val undefT u)
def brNil (x : Operand) : ExecA := fun C _ _ _ slots _ _ => obind (rhoF C slots x) fun v => cond (nilOk v) (okv v) none

def execF (o : Oper) : ExecA :=
  Op.rec (motive := fun _ => ExecA) brMove brMove brPick (fun _ => brOld) (fun _ _ => brOld) (fun _ _ => brOld) (fun _ _ _ => brOld) (fun _ _ _ _ => brOld) brLoad brStore
    (fun _ => brOld) (fun _ => brOld) brNil brBin brUn (fun _ _ _ => brOld) (fun _ _ => brOld) (fun _ _ => brOld) (fun _ _ _ => brOld) (fun _ _ => brOld) (fun _ _ => brOld)
    (fun _ _ _ => brOld) (fun _ _ _ _ _ => brOld) (fun _ _ _ => brOld) (fun _ _ _ => brOld) brIndexAddr brIndex (fun _ _ _ _ => brOld) (fun _ _ _ _ => brOld) (fun _ _ _ => brOld)
    (fun _ _ _ _ => brOld) (fun _ _ => brOld) (fun _ _ => brOld) (fun _ => brOld) (fun _ _ _ _ => brOld) (fun _ _ => brOld) (fun _ => brOld) (fun _ => brOld) (fun _ => brOld) (fun _ => brOld)
    (fun _ _ => brOld) (fun _ _ _ => brOld) (fun _ _ => brOld) o.op

theorem execF_eq (C : Cfg) (ev : CallF) (f : FuncId) (H : Heap) (slots : List TV) (t : Nat) (o : Oper) : execF o C ev f H slots t o = execT C ev f H slots t o := by
  obtain ⟨dst, op, type, pos, after, guard⟩ := o
  cases op with
  | move x => simp only [execF, brMove, execT, evalOp, rhoF_eq]; cases rhoT C slots x <;> rfl
  | assign x => simp only [execF, brMove, execT, evalOp, rhoF_eq]; cases rhoT C slots x <;> rfl
  | pick c a b =>
    simp only [execF, brPick, execT, evalOp, rhoF_eq]
    cases h1 : rhoT C slots c with
    | none => rfl
    | some c =>
      cases h2 : rhoT C slots a with
      | none => simp only [obind_some, obind_none]
      | some a =>
        cases h3 : rhoT C slots b with
        | none => simp only [obind_some, obind_none]
        | some b =>
          simp only [obind_some]
          cases c with
          | t c =>
            cases c with
            | bool c => cases c <;> rfl
            | _ => rfl
          | _ => rfl
  | load t a => simp only [execF, brLoad, execT, evalOp, rhoF_eq]; cases rhoT C slots a with
    | none => rfl
    | some a => simp only [obind_some]; cases loadT C.P H t a <;> rfl
  | store t a x => simp only [execF, brStore, execT, evalOp, rhoF_eq]; cases rhoT C slots a with
    | none => rfl
    | some a => simp only [obind_some]; cases rhoT C slots x with
      | none => rfl
      | some x => simp only [obind_some]; cases storeT C.P H t a x <;> rfl
  | nilCheck x => simp only [execF, brNil, execT, evalOp, rhoF_eq]; cases rhoT C slots x with
    | none => rfl
    | some v => simp only [obind_some]; cases nilOk v <;> rfl
  | binOp op t x y t' => simp only [execF, brBin, execT, evalOp, rhoF_eq]; cases rhoT C slots x with
    | none => rfl
    | some a => simp only [obind_some]; cases rhoT C slots y with
      | none => rfl
      | some b => simp only [obind_some]; cases binT C.P op t x y a b <;> rfl
  | unOp op t x => simp only [execF, brUn, execT, evalOp, rhoF_eq]; cases rhoT C slots x with
    | none => rfl
    | some a => simp only [obind_some]; cases unT C.P op a <;> rfl
  | indexAddr t x i => simp only [execF, brIndexAddr, execT, evalOp, rhoF_eq]; cases rhoT C slots x with
    | none => rfl
    | some a => simp only [obind_some]; cases rhoT C slots i with
      | none => rfl
      | some b => simp only [obind_some]; cases indexAddrT C.P H t a b <;> rfl
  | index t x i => simp only [execF, brIndex, execT, evalOp, rhoF_eq]; cases rhoT C slots x with
    | none => rfl
    | some a => simp only [obind_some]; cases rhoT C slots i with
      | none => rfl
      | some b => simp only [obind_some]; cases indexT C.P t a b <;> rfl
  | _ => rfl

/-- is it wanted? -/
def wantF (ops : Array Oper) (slots : List TV) (o : Oper) : Option Bool :=
  Option.rec (motive := fun _ => Option Bool) (some true) (fun _ => wantedT ops slots o) o.guard

theorem wantF_eq (ops : Array Oper) (slots : List TV) (o : Oper) : wantF ops slots o = wantedT ops slots o := by
  obtain ⟨dst, op, type, pos, after, guard⟩ := o
  cases guard <;> rfl

def putF (slots : List TV) (d : Option Tmp) (v : TV) : List TV := Option.rec (motive := fun _ => List TV) slots (fun d => setS v slots d) d
theorem putF_eq (slots : List TV) (d : Option Tmp) (v : TV) : putF slots d v = putSlot slots d v := by cases d <;> rfl

def opsF (C : Cfg) (ev : CallF) (f : FuncId) (ops : Array Oper) (l : List Oper) : List TV → Heap → Nat → Option (AExit × St) :=
  List.rec (motive := fun _ => List TV → Heap → Nat → Option (AExit × St)) (fun slots H t => some (.normal, { slots := slots, H := H, tick := t }))
    (fun o _ ih slots H t => obind (wantF ops slots o) fun b =>
      Bool.rec (motive := fun _ => Option (AExit × St)) (ih (putF slots o.dst undefT) H (t + 1))
        (obind (execF o C ev f H slots t o) fun r => ORes.rec (motive := fun _ => Option (AExit × St)) (fun v u => ih (putF slots o.dst v) (H.puts u) (t + 1))
          (fun v u l => some (.panic v, { slots := slots, H := (H.hide l).puts u, tick := t + 1 })) r) b) l

theorem opsF_eq (C : Cfg) (ev : CallF) (f : FuncId) (ops : Array Oper) : ∀ (l : List Oper) (slots : List TV) (H : Heap) (t : Nat), opsF C ev f ops l slots H t = opsS C ev f ops l { slots := slots, H := H, tick := t } := by
  intro l
  induction l with
  | nil => intro slots H t; rfl
  | cons o r ih =>
    intro slots H t
    show (obind (wantF ops slots o) fun b => _) = _
    rw [opsS, wantF_eq]
    cases wantedT ops slots o with
    | none => rfl
    | some b =>
      rw [obind_some]
      cases b with
      | false => show opsF C ev f ops r _ _ _ = _; rw [ih, putF_eq]
      | true =>
        show (obind (execF o C ev f H slots t o) fun r => _) = _
        rw [execF_eq]
        cases execT C ev f H slots t o with
        | none => rfl
        | some res =>
          rw [obind_some]
          cases res with
          | val v u => show opsF C ev f ops r _ _ _ = _; rw [ih, putF_eq]
          | panic v u l => rfl

/-! ### Code -/
abbrev CodeA := St → Option (AExit × St)

def seqF (r : Option (AExit × St)) (k : CodeA) : Option (AExit × St) :=
  obind r fun p => AExit.rec (motive := fun _ => Option (AExit × St)) (k p.2) (fun _ => some p) (some p) (fun _ => some p) p.1

def condF (a b : CodeA) (st : St) : Option TV → Option (AExit × St)
  | some (.t (.bool true)) => a st
  | some (.t (.bool false)) => b st
  | _ => none

def blockF (id : Nat) : Option (AExit × St) → Option (AExit × St)
  | some (.exit id', st') => cond (Nat.beq id' id) (some (.normal, st')) (some (.exit id', st'))
  | r => r

def iterF (body : CodeA) (n : Nat) : CodeA :=
  Nat.rec (motive := fun _ => CodeA) (fun _ => none) (fun _ ih st => seqF (body st) ih) n

def codeF (C : Cfg) (ev : CallF) (f : FuncId) (fuel : Nat) (c : Code) : CodeA :=
  Code.rec (motive := fun _ => CodeA)
    (fun st => some (.normal, st))
    (fun _ ops draw st => cond draw (regionD C ev f ops st) (opsF C ev f ops ops.toList st.slots st.H st.tick))
    (fun _ _ iha ihb st => seqF (iha st) ihb)
    (fun c _ _ iha ihb st => condF iha ihb st (rhoF C st.slots c))
    (fun id _ ih st => blockF id (ih st))
    (fun _ ih => iterF ih fuel)
    (fun _ _ _ _ _ _ _ => none)
    (fun id st => some (.exit id, st))
    (fun _ _ _ => none)
    (fun _ st => some (.normal, st))
    (fun _ _ => none)
    (fun st => some (.ret, st))
    (fun _ _ => none) c

theorem iterF_eq (body : CodeA) : ∀ (n : Nat) (st : St), iterF body n st = iterC body n st := by
  intro n
  induction n with
  | zero => intro st; rfl
  | succ n ih =>
    intro st
    show seqF (body st) (iterF body n) = _
    rw [iterC]
    cases body st with
    | none => rfl
    | some p =>
      obtain ⟨e, st'⟩ := p
      cases e with
      | normal => exact ih st'
      | exit _ => rfl
      | ret => rfl
      | panic _ => rfl

theorem codeF_eq (C : Cfg) (ev : CallF) (f : FuncId) (fuel : Nat) : ∀ (c : Code) (st : St), codeF C ev f fuel c st = evalCode C ev f fuel c st := by
  intro c
  induction c with
  | skip => intro st; rfl
  | region id ops draw =>
    intro st
    show cond draw _ (opsF C ev f ops ops.toList st.slots st.H st.tick) = _
    rw [opsF_eq, evalCode]
    cases draw <;> rfl
  | seq a b iha ihb =>
    intro st
    show seqF (codeF C ev f fuel a st) (codeF C ev f fuel b) = _
    rw [iha, evalCode]
    cases evalCode C ev f fuel a st with
    | none => rfl
    | some p =>
      obtain ⟨e, st'⟩ := p
      cases e with
      | normal => exact ihb st'
      | exit _ => rfl
      | ret => rfl
      | panic _ => rfl
  | cond c a b iha ihb =>
    intro st
    show condF (codeF C ev f fuel a) (codeF C ev f fuel b) st (rhoF C st.slots c) = _
    rw [rhoF_eq, evalCode]
    unfold condF
    split
    · rename_i h; rw [h]; exact iha st
    · rename_i h; rw [h]; exact ihb st
    · rename_i h1 h2
      split
      · rename_i h; exact absurd h h1
      · rename_i h; exact absurd h h2
      · rfl
  | block id body ih =>
    intro st
    show blockF id (codeF C ev f fuel body st) = _
    rw [ih, evalCode]
    cases evalCode C ev f fuel body st with
    | none => rfl
    | some p =>
      obtain ⟨e, st'⟩ := p
      cases e with
      | exit id' =>
        show cond (Nat.beq id' id) _ _ = if id' = id then _ else _
        by_cases h : id' = id
        · rw [if_pos h, h, Nat.beq_refl]; rfl
        · rw [if_neg h, show Nat.beq id' id = false from by rw [Bool.eq_false_iff]; exact fun e => h (Nat.eq_of_beq_eq_true e)]; rfl
      | normal => rfl
      | ret => rfl
      | panic _ => rfl
  | loop body ih =>
    intro st
    show iterF (codeF C ev f fuel body) fuel st = _
    rw [iterF_eq, evalCode, show codeF C ev f fuel body = evalCode C ev f fuel body from funext ih]
  | _ => intros; rfl

/-! ### Functions -/
def bodyF (C : Cfg) (ev : CallF) (fuel : Nat) (f : FuncId) (args : List TV) (objs : List AObj) (fn : Func) (body : Code) : Option FRes :=
  match codeF C ev f fuel body { slots := args ++ List.replicate (fn.ntmps - args.length) undefT, H := argHeap 0 objs, tick := 0 } with
  | some (.normal, st) => finish C fn objs.length st
  | some (.ret, st) => finish C fn objs.length st
  | some (.panic v, st) => if v.names.any Nm.isLoc then none else some (.panic v (objsAtP st.H 0 objs.length))
  | _ => none

def runF (C : Cfg) (ev : CallF) (fuel : Nat) (f : FuncId) (args : List TV) (objs : List AObj) : Option FRes :=
  obind (C.P.fn f) fun fn => obind fn.body fun body => if fn.name = "runtime.NumGoroutine" then none else bodyF C ev fuel f args objs fn body

theorem runF_eq (C : Cfg) (ev : CallF) (fuel : Nat) (f : FuncId) (args : List TV) (objs : List AObj) : runF C ev fuel f args objs = runFn C ev fuel f args objs := by
  unfold runF runFn
  rcases h : C.P.fn f with _ | fn
  · rfl
  · simp only [obind_some]
    rcases h2 : fn.body with _ | body
    · rfl
    · simp only [obind_some, bodyF, codeF_eq]
      rfl

def evalF (C : Cfg) (X : Ext) (n : Nat) : CallF :=
  Nat.rec (motive := fun _ => CallF) (fun _ _ _ => none)
    (fun n ih f args objs => Option.rec (motive := fun _ => Option FRes) (runF C ih n f args objs) (fun s => s ih args objs) (X f)) n

theorem evalF_eq (C : Cfg) (X : Ext) : ∀ n, evalF C X n = evalN C X n := by
  intro n
  induction n with
  | zero => rfl
  | succ n ih =>
    funext f args objs
    rw [evalN]
    show Option.rec (motive := fun _ => Option FRes) (runF C (evalF C X n) n f args objs) (fun s => s (evalF C X n) args objs) (X f) = _
    rw [ih, runF_eq]
    cases X f <;> rfl

/-! ### what is asked of the kernel -/
def isYes : Option FRes → Bool
  | some (.ret (.t (.bool true)) [] []) => true
  | _ => false

theorem isYes_eq {r : Option FRes} (h : isYes r = true) : r = some (.ret (.t (.bool true)) [] []) := by
  unfold isYes at h
  split at h
  · rfl
  · cases h

def sameB : List UInt8 → List UInt8 → Bool
  | [], [] => true
  | a :: r, b :: t => cond (Nat.beq a.toNat b.toNat) (sameB r t) false
  | _, _ => false

theorem sameB_eq : ∀ {a b : List UInt8}, sameB a b = true → a = b
  | [], [], _ => rfl
  | [], _ :: _, h => by simp [sameB] at h
  | _ :: _, [], h => by simp [sameB] at h
  | a :: r, b :: t, h => by
      simp only [sameB] at h
      cases hn : Nat.beq a.toNat b.toNat with
      | false => rw [hn] at h; cases h
      | true =>
        rw [hn] at h
        have e : a = b := UInt8.toNat_inj.1 (Nat.eq_of_beq_eq_true hn)
        rw [e, sameB_eq (show sameB r t = true from h)]

def sameW : List Tree → List (List UInt8) → Bool
  | [], [] => true
  | .str s :: r, b :: t => cond (sameB s b) (sameW r t) false
  | _, _ => false

theorem sameW_eq : ∀ {a : List Tree} {b : List (List UInt8)}, sameW a b = true → a = b.map .str
  | [], [], _ => rfl
  | [], _ :: _, h => by simp [sameW] at h
  | x :: r, [], h => by cases x <;> simp [sameW] at h
  | x :: r, b :: t, h => by
      cases x with
      | str s =>
        simp only [sameW] at h
        cases hs : sameB s b with
        | false => rw [hs] at h; cases h
        | true =>
          rw [hs] at h
          rw [sameB_eq hs, sameW_eq (show sameW r t = true from h)]
          rfl
      | _ => simp [sameW] at h

def isWords (ws : List (List UInt8)) : Option FRes → Bool
  | some (.ret (.t (.sl es)) [] []) => sameW es ws
  | _ => false

theorem isWords_eq {ws : List (List UInt8)} {r : Option FRes} (h : isWords ws r = true) : r = some (.ret (.t (.sl (ws.map .str))) [] []) := by
  unfold isWords at h
  split at h
  · rw [sameW_eq h]
  · cases h

end Go.Abs
end

noncomputable section
namespace Go.Abs
open Go Go.RowKit

def finishR (C : Cfg) (fn : Func) (n : Nat) (st : St) : Option FRes :=
  match resultT C st fn.results.toList with
  | none => none
  | some vs =>
    match objsAt st.H 0 n with
    | none => none
    | some os => match reach st.H reachFuel [] ((oneOr vs).names ++ os.flatMap AObj.names) with
      | none => none
      | some R => (newsAt st.H R).map fun h => .ret (oneOr vs) os h

def endR (C : Cfg) (fn : Func) (n : Nat) : Option (AExit × St) → Option FRes
  | some (.normal, st) => finishR C fn n st
  | some (.ret, st) => finishR C fn n st
  | _ => none

def runR (C : Cfg) (ev : CallF) (fuel : Nat) (f : FuncId) (args : List TV) (objs : List AObj) : Option FRes :=
  obind (C.P.fn f) fun fn => obind fn.body fun body =>
    if fn.name = "runtime.NumGoroutine" then none else
      endR C fn objs.length (codeF C ev f fuel body { slots := args ++ List.replicate (fn.ntmps - args.length) undefT, H := argHeap 0 objs, tick := 0 })

/-- slices.Clone -/
def extClone (C : Cfg) (fuel : Nat) (f : FuncId) : Summary := fun ev args objs => match args with
  | [.t (.sl [])] => some (.ret (.t (.sl [])) objs [])
  | _ => runR C ev fuel f args objs

section
variable {C : Cfg} {g f : FuncId} {G : Gh} {w : World} {vs : List Value} {ev : CallF}

theorem finishR_ok {fn : Func} {n : Nat} {st : St} {a : Act} {r : FRes} {G0 : Gh} {w0 : World} (h : finishR C fn n st = some r) (hs : AnyStep G0 w0 G w) (hst : StR C G w st a) :
    ∃ v, (results fn a.tmps).run C.P w = .ok v w ∧ retP G0 w0 n r (.returned v) w := by
  unfold finishR at h
  split at h
  · simp at h
  rename_i vs hvs
  obtain ⟨v, hv, hr⟩ := results_ok hst hvs
  refine ⟨v, hv, ?_⟩
  split at h
  · simp at h
  rename_i os hos
  split at h
  · simp at h
  rename_i R hR
  cases hnw : newsAt st.H R with
  | none => rw [hnw] at h; simp at h
  | some nw =>
    rw [hnw] at h
    simp only [Option.map_some, Option.some.injEq] at h
    subst h
    obtain ⟨e1, e2⟩ := objsAt_some hos
    refine ⟨v, G, rfl, hs, e1, fun i o ho => ?_, fun k o hm => ?_, hr⟩
    · have := e2 i o ho
      rw [Nat.zero_add] at this
      exact hst.heap _ _ this
    · obtain ⟨e3, e4⟩ := newsAt_some hnw k o hm
      exact ⟨e3, hst.heap _ _ e4⟩

theorem runR_ok (hm : C.P.prog.follows .mixedOrders = true) (hev : CallOk C ev) {fuel : Nat} {args : List TV} {objs : List AObj} {r : FRes} (h : runR C ev fuel f args objs = some r) (hw : WF G w) (hg : GlobR C G) (had : ArgDom G objs.length)
    (hH : HR G w (argHeap 0 objs)) (hv : VRs G args vs) : CallsF C.P f vs.toArray w (retP G w objs.length r) := by
  unfold runR at h
  rcases hfn0 : C.P.fn f with _ | fn
  · rw [hfn0] at h; cases h
  rw [hfn0, obind_some] at h
  have hfn := C.P.fnOk _ _ hfn0
  rcases hbody : fn.body with _ | body
  · rw [hbody] at h; cases h
  rw [hbody, obind_some] at h
  split at h
  · cases h
  rename_i hname
  rw [codeF_eq] at h
  have hst : StR C G w { slots := args ++ List.replicate (fn.ntmps - args.length) undefT, H := argHeap 0 objs, tick := 0 } { tmps := vs.toArray ++ Array.replicate (fn.ntmps - vs.toArray.size) undef, defers := [] } := by
    refine ⟨hw, hg, ?_, hH, fun p hp => absurd hp (had.2 p)⟩
    have e : (vs.toArray ++ Array.replicate (fn.ntmps - vs.toArray.size) undef).toList = vs ++ List.replicate (fn.ntmps - args.length) undef := by simp [hv.1]
    unfold SR
    rw [e]
    refine VRs.append hv ⟨by simp, fun j c u hc hu => ?_⟩
    rw [List.getElem?_replicate] at hc hu
    by_cases hl : j < fn.ntmps - args.length
    · rw [if_pos hl] at hc hu
      simp at hc hu; subst hc; subst hu; exact undef_VR G
    · rw [if_neg hl] at hc; simp at hc
  refine .inl ⟨?_, calls_of_wp hfn hbody ?_⟩
  · simp [callFunc, hfn, hname, hbody]
  · unfold endR at h
    split at h
    · rename_i st he
      refine wp_mono (evalCode_ok hm hev body _ _ _ he G w _ hst) fun ex a' w' hgd => ?_
      obtain ⟨G', hs, hd, rfl, hst'⟩ := hgd
      exact ⟨hd, finishR_ok h hs hst'⟩
    · rename_i st he
      refine wp_mono (evalCode_ok hm hev body _ _ _ he G w _ hst) fun ex a' w' hgd => ?_
      obtain ⟨G', hs, hd, rfl, hst'⟩ := hgd
      exact ⟨hd, finishR_ok h hs hst'⟩
    · cases h

theorem extClone_ok (hm : C.P.prog.follows .mixedOrders = true) {fuel : Nat} (hen : ∀ args w, (callFunc g args).run C.P.prog w = .ok (.enter g args) w)
    (hc : ∀ (a : Option Addr) (cap : Nat) (w : World), Calls C.P.prog g #[.slice a 0 cap] w fun e w' => (∃ a' c', e = .returned (.slice a' 0 c')) ∧ Below w.heap.size w w') : SumOk C g (extClone C fuel g) := by
  intro ev hev args objs r h G w vs hw hg had hH hv
  unfold extClone at h
  split at h
  · simp at h
    subst h
    obtain ⟨x, rfl, hx⟩ := hv.only
    obtain ⟨a, cap, rfl⟩ : ∃ a cap, x = .slice a 0 cap := by
      cases hx with | t _ _ hx =>
      cases hx with
      | sl0 a cap => exact ⟨a, cap, rfl⟩
      | sl _ _ _ _ _ _ hne => exact absurd rfl hne
    refine .inl ⟨hen _ _, (hc a cap w).mono ?_⟩
    rintro e w' ⟨⟨a', c', rfl⟩, hb⟩
    have hst : Step (fun _ => False) (fun _ => False) G w G w' := by
      refine ⟨.refl G, ⟨fun b o v hf => ?_, hw.inj, fun k d => Nat.lt_of_lt_of_le (hw.lt k d) hb.size⟩, fun _ _ _ => ⟨rfl, rfl⟩, fun b hlt _ => ⟨hb.block b hlt, fun _ => rfl⟩, fun _ d => .inl d, fun _ d => .inl ⟨d, rfl⟩, hb.size, hb.os, hb.tape, hb.output⟩
      obtain ⟨us, ty, fr, h1, h2⟩ := hw.F b o v hf
      exact ⟨us, ty, fr, by rw [hb.block b (Array.getElem?_eq_some_iff.1 h1).1]; exact h1, h2⟩
    refine ⟨_, G, rfl, hst.mono (fun _ _ h => h.elim) (fun _ h => h.elim), rfl, fun i o ho => ?_, fun _ _ h => by simp at h, .t _ _ (.sl0 a' c')⟩
    obtain ⟨d, ho2⟩ := same_objs hH i o ho
    exact ⟨d, hst.keeps hw d (fun h => h) ho2⟩
  · exact runR_ok hm hev h hw hg had hH hv

end

/-! ### trees that are the same -/
def sameK (a b : IntKind) : Bool := match a, b with
  | .i8, .i8 | .i16, .i16 | .i32, .i32 | .i64, .i64 | .u8, .u8 | .u16, .u16 | .u32, .u32 | .u64, .u64 => true
  | _, _ => false
theorem sameK_eq {a b : IntKind} (h : sameK a b = true) : a = b := by cases a <;> cases b <;> first | rfl | cases h

def sameI : Int → Int → Bool
  | .ofNat a, .ofNat b => Nat.beq a b
  | .negSucc a, .negSucc b => Nat.beq a b
  | _, _ => false
theorem sameI_eq {a b : Int} (h : sameI a b = true) : a = b := by
  cases a <;> cases b <;> simp only [sameI] at h <;> first | (rw [Nat.eq_of_beq_eq_true h]) | cases h

def sameL (f : Tree → Tree → Bool) : List Tree → List Tree → Bool
  | [], [] => true
  | a :: r, b :: t => cond (f a b) (sameL f r t) false
  | _, _ => false

theorem sameL_eq {f : Tree → Tree → Bool} (hf : ∀ a b, f a b = true → a = b) : ∀ {a b : List Tree}, sameL f a b = true → a = b
  | [], [], _ => rfl
  | [], _ :: _, h => by cases h
  | _ :: _, [], h => by cases h
  | a :: r, b :: t, h => by
      simp only [sameL] at h
      cases hq : f a b with
      | false => rw [hq] at h; cases h
      | true =>
        rw [hq] at h
        rw [hf a b hq, sameL_eq hf (show sameL f r t = true from h)]

def sameT : Nat → Tree → Tree → Bool
  | 0, _, _ => false
  | n + 1, a, b => match a, b with
    | .bool x, .bool y => cond x y (!y)
    | .int k x, .int k' y => cond (sameK k k') (sameI x y) false
    | .str x, .str y => sameB x y
    | .sl x, .sl y => sameL (sameT n) x y
    | .agg x, .agg y => sameL (sameT n) x y
    | .tup x, .tup y => sameL (sameT n) x y
    | _, _ => false

theorem sameT_eq : ∀ (n : Nat) (a b : Tree), sameT n a b = true → a = b
  | 0, _, _, h => by cases h
  | n + 1, a, b, h => by
      unfold sameT at h
      split at h
      · rename_i x y; cases x <;> cases y <;> first | rfl | cases h
      · rename_i k x k' y
        cases hk : sameK k k' with
        | false => rw [hk] at h; cases h
        | true => rw [hk] at h; rw [sameK_eq hk, sameI_eq (show sameI x y = true from h)]
      · rw [sameB_eq h]
      · rw [sameL_eq (sameT_eq n) h]
      · rw [sameL_eq (sameT_eq n) h]
      · rw [sameL_eq (sameT_eq n) h]
      · cases h

/-- an answer that is this tree, with nothing beside it -/
def isTree (t : Tree) : Option FRes → Bool
  | some (.ret (.t x) [] []) => sameT 30 x t
  | _ => false

theorem isTree_eq {t : Tree} {r : Option FRes} (h : isTree t r = true) : r = some (.ret (.t t) [] []) := by
  unfold isTree at h
  split at h
  · rw [sameT_eq _ _ _ h]
  · cases h

end Go.Abs
end
