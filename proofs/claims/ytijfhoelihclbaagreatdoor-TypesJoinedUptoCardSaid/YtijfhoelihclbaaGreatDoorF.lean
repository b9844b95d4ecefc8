/- Sparse states: the slots of which something is known; one operation at a time. -/
import Derived.Test.YtijfhoelihclbaaGreatDoorD
noncomputable section
namespace Go.Abs
open Go

/-! ### Slots -/
def look : List (Nat × TV) → Nat → TV
  | [], _ => .any
  | (j, v) :: r, i => bif Nat.beq i j then v else look r i

def frm (n : Nat) (sp : List (Nat × TV)) : List TV := (List.range n).map (look sp)

theorem frm_length (n : Nat) (sp : List (Nat × TV)) : (frm n sp).length = n := by simp [frm]

theorem frm_at {n : Nat} {sp : List (Nat × TV)} {i : Nat} (h : i < n) : (frm n sp)[i]? = some (look sp i) := by
  simp [frm, h]

theorem getS_frm {n : Nat} {sp : List (Nat × TV)} {i : Nat} (h : i < n) : getS (frm n sp) i = look sp i := by
  rw [getS_eq, List.getD_eq_getElem?_getD, frm_at h]
  rfl

theorem look_cons (i j : Nat) (v : TV) (sp : List (Nat × TV)) : look ((j, v) :: sp) i = if i = j then v else look sp i := by
  show (bif Nat.beq i j then v else look sp i) = _
  cases hb : Nat.beq i j with
  | true => rw [if_pos (Nat.eq_of_beq_eq_true hb)]; rfl
  | false => rw [if_neg (Nat.ne_of_beq_eq_false hb)]; rfl

theorem setS_frm (n : Nat) (sp : List (Nat × TV)) (d : Nat) (v : TV) : setS v (frm n sp) d = frm n ((d, v) :: sp) := by
  rw [setS_eq]
  refine List.ext_getElem? fun i => ?_
  rw [List.getElem?_set, frm_length]
  by_cases hi : i < n
  · have h1 : (frm n ((d, v) :: sp))[i]? = some (look ((d, v) :: sp) i) := frm_at hi
    rw [h1, look_cons]
    by_cases e : d = i
    · subst e; simp [hi]
    · rw [if_neg e, if_neg (fun h => e h.symm), frm_at hi]
  · have h1 : (frm n ((d, v) :: sp))[i]? = none := by rw [List.getElem?_eq_none_iff, frm_length]; omega
    rw [h1]
    by_cases e : d = i
    · subst e; simp [hi]
    · rw [if_neg e, List.getElem?_eq_none_iff, frm_length]; omega

section
variable {C : Cfg}

def putP (sp : List (Nat × TV)) (d : Option Tmp) (v : TV) : List (Nat × TV) := match d with
  | some d => (d, v) :: sp
  | none => sp

theorem putSlot_frm (n : Nat) (sp : List (Nat × TV)) (d : Option Tmp) (v : TV) : putSlot (frm n sp) d v = frm n (putP sp d v) := by
  cases d with
  | none => rfl
  | some d => exact setS_frm n sp d v

/-- an operand -/
def rhoS (C : Cfg) (n : Nat) (sp : List (Nat × TV)) : Operand → Option TV
  | .tmp t => bif Nat.blt t n then some (look sp t) else none
  | .const v => valOf v
  | .global g => match C.glob g with
    | some cs => some (.tptr cs 0)
    | none => none
  | .func f => some (.t (.fn (.func f)))

theorem rhoS_ok {n : Nat} {sp : List (Nat × TV)} {x : Operand} {v : TV} (h : rhoS C n sp x = some v) : rhoT C (frm n sp) x = some v := by
  cases x with
  | tmp t =>
    simp only [rhoS] at h
    cases hb : Nat.blt t n with
    | false => rw [hb] at h; simp at h
    | true =>
      rw [hb] at h
      simp only [cond_true, Option.some.injEq] at h
      have : t < n := by simpa [Nat.blt, Nat.succ_le_iff] using hb
      simp only [rhoT, getS_frm this, h]
  | const v => exact h
  | global g => exact h
  | func f => exact h

def rhosS (C : Cfg) (n : Nat) (sp : List (Nat × TV)) : List Operand → Option (List TV)
  | [] => some []
  | x :: r => match rhoS C n sp x, rhosS C n sp r with
    | some v, some vs => some (v :: vs)
    | _, _ => none

theorem rhosS_ok {n : Nat} {sp : List (Nat × TV)} : ∀ {xs : List Operand} {vs : List TV}, rhosS C n sp xs = some vs → rhosT C (frm n sp) xs = some vs := by
  intro xs
  induction xs with
  | nil => intro vs h; exact h
  | cons x r ih =>
    intro vs h
    simp only [rhosS] at h
    cases h1 : rhoS C n sp x <;> cases h2 : rhosS C n sp r <;> simp only [h1, h2, reduceCtorEq] at h
    simp only [rhosT, rhoS_ok h1, ih h2]
    exact h

/-! ### Fewer slots -/
theorem into_look (S : List Nm) (sp sp' : List (Nat × TV)) (h : ∀ i, look sp' i = .any ∨ (look sp i).rn (sTo S) = some (look sp' i)) : ∀ (l : List Nat), into (sTo S) (l.map (look sp)) (l.map (look sp'))
  | [] => trivial
  | i :: l => ⟨h i, into_look S sp sp' h l⟩

/-- what is said of a slot was so before -/
def fits (S : List Nm) (sp : List (Nat × TV)) : List (Nat × TV) → Prop
  | [] => True
  | (i, v) :: r => (look sp i).rn (sTo S) = some v ∧ fits S sp r

theorem fits_look {S : List Nm} {sp : List (Nat × TV)} : ∀ {sp' : List (Nat × TV)}, fits S sp sp' → ∀ i, look sp' i = .any ∨ (look sp i).rn (sTo S) = some (look sp' i)
  | [], _, i => .inl rfl
  | (j, v) :: r, h, i => by
    rw [look_cons]
    by_cases e : i = j
    · subst e; rw [if_pos rfl]; exact .inr h.1
    · rw [if_neg e]; exact fits_look h.2 i

/-- a state of which less is told, by other names: S are the names that are kept -/
theorem Re.sp (S : List Nm) {n : Nat} {sp sp' : List (Nat × TV)} {H H' : Heap} {t t' : Nat} (h1 : fits S sp sp') (h2 : hInto (sTo S) H H') (hn : S.Nodup) (hl : S.all Nm.isLoc = true) (hS : ∀ k ∈ S, (H.get k).isSome = true) (ht : S.length ≤ t') :
    Re C ⟨frm n sp, H, t⟩ ⟨frm n sp', H', t'⟩ :=
  Re.mk S (into_look S sp sp' (fits_look h1) _) h2 hn hl hS ht

theorem Re.sq (S : List Nm) {n : Nat} {sp sp' : List (Nat × TV)} {H H' : Heap} {t t' : Nat} (h1 : fits S sp sp') (h2 : hInto (sTo S) H H') (hn : S.Nodup) (hl : S.all Nm.isLoc = true) (hS : S.all (fun k => (H.get k).isSome) = true) (ht : S.length ≤ t') :
    Re C ⟨frm n sp, H, t⟩ ⟨frm n sp', H', t'⟩ := Re.sp S h1 h2 hn hl (fun k hk => List.all_eq_true.1 hS k hk) ht

/-- a slot as it was -/
def same (sp : List (Nat × TV)) : List (Nat × TV) → Prop
  | [] => True
  | (i, v) :: r => look sp i = v ∧ same sp r

theorem same_look {sp : List (Nat × TV)} : ∀ {sp' : List (Nat × TV)}, same sp sp' → ∀ i, look sp' i = .any ∨ look sp i = look sp' i
  | [], _, i => .inl rfl
  | (j, v) :: r, h, i => by
    rw [look_cons]
    by_cases e : i = j
    · subst e; rw [if_pos rfl]; exact .inr h.1
    · rw [if_neg e]; exact same_look h.2 i

theorem VRs.less {G : Gh} {xs ys : List TV} {vs : List Value} (h : VRs G xs vs) (hl : ys.length = xs.length) (hh : ∀ (i : Nat) (x y : TV), xs[i]? = some x → ys[i]? = some y → y = .any ∨ x = y) : VRs G ys vs := by
  refine ⟨by rw [hl]; exact h.1, fun j c v hc hv => ?_⟩
  have hj : j < xs.length := by rw [← hl]; exact (List.getElem?_eq_some_iff.1 hc).1
  rcases hh j xs[j] c (List.getElem?_eq_getElem hj) hc with rfl | e
  · exact .any _
  · rw [← e]; exact h.2 j _ v (List.getElem?_eq_getElem hj) hv

/-- less of the slots, the heap as it is -/
theorem Re.slots {n : Nat} {sp sp' : List (Nat × TV)} {H : Heap} {t : Nat} (h : same sp sp') : Re C ⟨frm n sp, H, t⟩ ⟨frm n sp', H, t⟩ := by
  intro G0 w0 G w a h0 hs hst
  refine ⟨G, hs, hst.wf, hst.glob, VRs.less hst.slots (by simp [frm_length]) fun i x y hx hy => ?_, hst.heap, hst.fresh⟩
  have hi : i < n := by have := (List.getElem?_eq_some_iff.1 hx).1; simpa [frm_length] using this
  simp only [frm_at hi, Option.some.injEq] at hx hy
  subst hx; subst hy
  exact same_look h i

/-- objects of the heap that are looked at no more -/
theorem Re.heap {sl : List TV} {H H' : Heap} {t : Nat} (h : ∀ k o, H'.get k = some o → H.get k = some o) : Re C ⟨sl, H, t⟩ ⟨sl, H', t⟩ :=
  fun G0 w0 G w a h0 hs hst => ⟨G, hs, hst.wf, hst.glob, hst.slots, fun k o hk => hst.heap k o (h k o hk), hst.fresh⟩

def startP : Nat → List TV → List (Nat × TV)
  | _, [] => []
  | i, v :: r => (i, v) :: startP (i + 1) r

theorem look_start : ∀ (l : List TV) (i j : Nat), i ≤ j → look (startP i l) j = .any ∨ l[j - i]? = some (look (startP i l) j)
  | [], _, _, _ => .inl rfl
  | v :: r, i, j, h => by
    simp only [startP]
    rw [look_cons]
    by_cases e : j = i
    · subst e; simp
    · rw [if_neg e]
      have := look_start r (i + 1) j (by omega)
      have e2 : j - i = (j - (i + 1)) + 1 := by omega
      rw [e2, List.getElem?_cons_succ]
      exact this

/-- the first state of a function -/
theorem Re.start (args : List TV) (k : Nat) (H : Heap) (t : Nat) : Re C ⟨args ++ List.replicate k undefT, H, t⟩ ⟨frm (args.length + k) (startP 0 args), H, t⟩ := by
  intro G0 w0 G w a h0 hs hst
  refine ⟨G, hs, hst.wf, hst.glob, VRs.less hst.slots (by simp [frm_length]) fun i x y hx hy => ?_, hst.heap, hst.fresh⟩
  have hi : i < args.length + k := by have := (List.getElem?_eq_some_iff.1 hx).1; simpa using this
  rw [frm_at hi, Option.some.injEq] at hy
  subst hy
  rcases look_start args 0 i (Nat.zero_le _) with h | h
  · exact .inl h
  · right
    rw [Nat.sub_zero] at h
    have hl := (List.getElem?_eq_some_iff.1 h).1
    rw [List.getElem?_append_left hl, h] at hx
    exact (Option.some.inj hx).symm

/-- a function, from its first state on -/
theorem fn_start {f : FuncId} {fn : Func} {body : Code} {args : List TV} {objs : List AObj} {r : FRes} (n : Nat) (hfn0 : C.P.fn f = some fn) (hbody : fn.body = some body) (hname : fn.name ≠ "runtime.NumGoroutine")
    (hn : fn.ntmps = n) (ha : args.length ≤ n) (h : AW C body ⟨frm n (startP 0 args), argHeap 0 objs, 0⟩ (Fin C fn objs.length r)) : CallRel C f args objs r := by
  refine fn_ok hfn0 hbody hname (AW.re (Re.start args (fn.ntmps - args.length) _ _) ?_)
  rw [show args.length + (fn.ntmps - args.length) = n by omega]
  exact h

end
end Go.Abs
end

noncomputable section
namespace Go.Abs
open Go

section
variable {C : Cfg} {ev : CallF} {f : FuncId} {ops : Array Oper} {Q : AExit → St → Prop} {n : Nat} {sp : List (Nat × TV)} {H : Heap} {t : Nat} {r : List Oper}

/-- what an operation gives, and writes -/
def Does (C : Cfg) (ev : CallF) (f : FuncId) (H : Heap) (n : Nat) (sp : List (Nat × TV)) (t : Nat) (d : Option Tmp) (op : Op) (v : TV) (u : Heap) : Prop :=
  ∀ ty pos af g, execT C ev f H (frm n sp) t ⟨d, op, ty, pos, af, g⟩ = some (.val v u)

/-! ### The four ways of an operation -/
theorem AWo.go {d : Tmp} {op : Op} {ty pos af} {v : TV} {u : Heap} (hev : CallOk C ev) (h : Does C ev f H n sp t (some d) op v u) (k : AWo C ops r ⟨frm n ((d, v) :: sp), H.puts u, t + 1⟩ Q) :
    AWo C ops (⟨some d, op, ty, pos, af, none⟩ :: r) ⟨frm n sp, H, t⟩ Q := by
  refine AWo.step hev rfl (h _ _ _ _) ?_
  rw [putSlot_frm]
  exact k

/-- an operation whose answer is not kept -/
theorem AWo.go0 {op : Op} {ty pos af} {v : TV} {u : Heap} (hev : CallOk C ev) (h : Does C ev f H n sp t none op v u) (k : AWo C ops r ⟨frm n sp, H.puts u, t + 1⟩ Q) :
    AWo C ops (⟨none, op, ty, pos, af, none⟩ :: r) ⟨frm n sp, H, t⟩ Q := by
  refine AWo.step hev rfl (h _ _ _ _) ?_
  rw [putSlot_frm]
  exact k

/-- a value that is there if something holds -/
def gv (g : Bool) (v : TV) : TV := bif g then v else undefT

theorem rho_gv {g : Bool} {x : Operand} {v : TV} (hg : g = true) (h : rhoS C n sp x = some (gv g v)) : rhoS C n sp x = some v := by
  subst hg; exact h

theorem wanted_of {j gd : Nat} {w : Bool} {o : Oper} (ho : o.guard = some (j, w)) (hj : (ops[j]?).bind (·.dst) = some gd) (hn : Nat.blt gd n = true) :
    wantedT ops (frm n sp) o = match look sp gd with | .t (.bool b) => some (b == w) | .t (.tup []) => some false | _ => none := by
  have : gd < n := by simpa [Nat.blt, Nat.succ_le_iff] using hn
  unfold wantedT
  simp only [ho, hj, frm_at this]
  generalize look sp gd = x
  cases x with
  | t y => cases y with
    | tup vs => cases vs <;> rfl
    | _ => rfl
  | _ => rfl

/-- under a guard -/
theorem AWo.guarded {d : Tmp} {op : Op} {ty pos af} {j gd : Nat} {w : Bool} {b g : Bool} {v : TV} (hev : CallOk C ev) (hj : (ops[j]?).bind (·.dst) = some gd) (hn : Nat.blt gd n = true)
    (hl : (look sp gd = .t (.bool b) ∧ g = (b == w)) ∨ ∃ g1, look sp gd = gv g1 (.t (.bool b)) ∧ g = (g1 && (b == w)))
    (h : g = true → Does C ev f H n sp t (some d) op v []) (k : AWo C ops r ⟨frm n ((d, gv g v) :: sp), H, t + 1⟩ Q) : AWo C ops (⟨some d, op, ty, pos, af, some (j, w)⟩ :: r) ⟨frm n sp, H, t⟩ Q := by
  have hw : wantedT ops (frm n sp) ⟨some d, op, ty, pos, af, some (j, w)⟩ = some g := by
    rcases hl with ⟨hl, rfl⟩ | ⟨g1, hl, rfl⟩
    · rw [wanted_of rfl hj hn, hl]
    · rw [wanted_of rfl hj hn, hl]
      cases g1 <;> rfl
  cases g with
  | true =>
    refine AWo.step hev hw (h rfl _ _ _ _) ?_
    rw [putSlot_frm]
    exact k
  | false =>
    refine AWo.unwanted hw ?_
    rw [putSlot_frm]
    exact k

/-- wanted where the guard is true -/
theorem AWo.gT {d : Tmp} {op : Op} {ty pos af} {j gd : Nat} {b : Bool} {v : TV} (hev : CallOk C ev) (hj : (ops[j]?).bind (·.dst) = some gd) (hn : Nat.blt gd n = true) (hl : look sp gd = .t (.bool b))
    (h : b = true → Does C ev f H n sp t (some d) op v []) (k : AWo C ops r ⟨frm n ((d, gv b v) :: sp), H, t + 1⟩ Q) : AWo C ops (⟨some d, op, ty, pos, af, some (j, true)⟩ :: r) ⟨frm n sp, H, t⟩ Q :=
  AWo.guarded hev hj hn (.inl ⟨hl, by cases b <;> rfl⟩) h k

theorem AWo.gF {d : Tmp} {op : Op} {ty pos af} {j gd : Nat} {b : Bool} {v : TV} (hev : CallOk C ev) (hj : (ops[j]?).bind (·.dst) = some gd) (hn : Nat.blt gd n = true) (hl : look sp gd = .t (.bool b))
    (h : (!b) = true → Does C ev f H n sp t (some d) op v []) (k : AWo C ops r ⟨frm n ((d, gv (!b) v) :: sp), H, t + 1⟩ Q) : AWo C ops (⟨some d, op, ty, pos, af, some (j, false)⟩ :: r) ⟨frm n sp, H, t⟩ Q :=
  AWo.guarded hev hj hn (.inl ⟨hl, by cases b <;> rfl⟩) h k

theorem AWo.nT {d : Tmp} {op : Op} {ty pos af} {j gd : Nat} {b g : Bool} {v : TV} (hev : CallOk C ev) (hj : (ops[j]?).bind (·.dst) = some gd) (hn : Nat.blt gd n = true) (hl : look sp gd = gv g (.t (.bool b)))
    (h : (g && b) = true → Does C ev f H n sp t (some d) op v []) (k : AWo C ops r ⟨frm n ((d, gv (g && b) v) :: sp), H, t + 1⟩ Q) : AWo C ops (⟨some d, op, ty, pos, af, some (j, true)⟩ :: r) ⟨frm n sp, H, t⟩ Q :=
  AWo.guarded hev hj hn (.inr ⟨g, hl, by cases b <;> rfl⟩) h k

theorem AWo.nF {d : Tmp} {op : Op} {ty pos af} {j gd : Nat} {b g : Bool} {v : TV} (hev : CallOk C ev) (hj : (ops[j]?).bind (·.dst) = some gd) (hn : Nat.blt gd n = true) (hl : look sp gd = gv g (.t (.bool b)))
    (h : (g && !b) = true → Does C ev f H n sp t (some d) op v []) (k : AWo C ops r ⟨frm n ((d, gv (g && !b) v) :: sp), H, t + 1⟩ Q) : AWo C ops (⟨some d, op, ty, pos, af, some (j, false)⟩ :: r) ⟨frm n sp, H, t⟩ Q :=
  AWo.guarded hev hj hn (.inr ⟨g, hl, by cases b <;> rfl⟩) h k

theorem and_l {a b : Bool} (h : (a && b) = true) : a = true := by cases a <;> simp_all
theorem and_r {a b : Bool} (h : (a && b) = true) : b = true := by cases a <;> simp_all

/-! ### Plain ones -/
variable {d : Option Tmp}

theorem d_move {x : Operand} {v : TV} (h : rhoS C n sp x = some v) : Does C ev f H n sp t d (.move x) v [] := fun _ _ _ _ => by
  simp only [execT, evalOp, rhoS_ok h, noU, Option.map_some]
theorem d_assign {x : Operand} {v : TV} (h : rhoS C n sp x = some v) : Does C ev f H n sp t d (.assign x) v [] := fun _ _ _ _ => by
  simp only [execT, evalOp, rhoS_ok h, noU, Option.map_some]

theorem d_moveT {x : Operand} {v : Tree} (h : rhoS C n sp x = some (.t v)) : Does C ev f H n sp t d (.move x) (.t v) [] := d_move h
theorem d_assignT {x : Operand} {v : Tree} (h : rhoS C n sp x = some (.t v)) : Does C ev f H n sp t d (.assign x) (.t v) [] := d_assign h

theorem d_pick {c x y : Operand} {b : Bool} {u v : TV} (hc : rhoS C n sp c = some (.t (.bool b))) (hx : rhoS C n sp x = some u) (hy : rhoS C n sp y = some v) : Does C ev f H n sp t d (.pick c x y) (if b then u else v) [] := fun _ _ _ _ => by
  simp only [execT, evalOp, rhoS_ok hc, rhoS_ok hx, rhoS_ok hy]

/-- 'and': what stands behind it is asked where what stands ahead is true -/
theorem d_and {c x : Operand} {b y g : Bool} (hc : rhoS C n sp c = some (.t (.bool b))) (hx : rhoS C n sp x = some (gv g (.t (.bool y)))) (hg : b = true → g = true) : Does C ev f H n sp t d (.pick c x (.const (.bool false))) (.t (.bool (b && y))) [] := fun _ _ _ _ => by
  simp only [execT, evalOp, rhoS_ok hc, rhoS_ok hx]
  cases b with
  | true => have := hg rfl; subst this; rfl
  | false => rfl

theorem d_or {c x : Operand} {b y g : Bool} (hc : rhoS C n sp c = some (.t (.bool b))) (hx : rhoS C n sp x = some (gv g (.t (.bool y)))) (hg : b = false → g = true) : Does C ev f H n sp t d (.pick c (.const (.bool true)) x) (.t (.bool (b || y))) [] := fun _ _ _ _ => by
  simp only [execT, evalOp, rhoS_ok hc, rhoS_ok hx]
  cases b with
  | false => have := hg rfl; subst this; rfl
  | true => rfl

theorem d_not {ty : TypeId} {x : Operand} {b : Bool} (h : rhoS C n sp x = some (.t (.bool b))) : Does C ev f H n sp t d (.unOp .not ty x) (.t (.bool (!b))) [] := fun _ _ _ _ => by
  simp only [execT, evalOp, rhoS_ok h]
  cases b <;> rfl

theorem d_box {elem : TypeId} {x : Operand} {v : TV} (h : rhoS C n sp x = some v) (hl : v.cells.all TV.leaf = true) : Does C ev f H n sp t d (.box elem x) (.ptr (.loc [t]) 0) [(.loc [t], .cells elem v.cells)] := fun _ _ _ _ => by
  simp only [execT, evalOp, rhoS_ok h, hl, if_true]

theorem d_alloc {elem : TypeId} {ti : TI} {z : TV} (ht : C.P.ty elem = some ti) (hz : ti.zero = some z) (hl : z.cells.all TV.leaf = true) : Does C ev f H n sp t d (.alloc elem) (.ptr (.loc [t]) 0) [(.loc [t], .cells elem z.cells)] := fun _ _ _ _ => by
  simp only [execT, evalOp, tyOf, ht, hz, hl, if_true]

theorem d_load {ty : TypeId} {x : Operand} {a v : TV} (h : rhoS C n sp x = some a) (hl : loadT C.P H ty a = some v) : Does C ev f H n sp t d (.load ty x) v [] := fun _ _ _ _ => by
  simp only [execT, evalOp, rhoS_ok h, hl, noU, Option.map_some]

theorem d_loadT {ty : TypeId} {x : Operand} {a : TV} {v : Tree} (h : rhoS C n sp x = some a) (hl : loadT C.P H ty a = some (.t v)) : Does C ev f H n sp t d (.load ty x) (.t v) [] := d_load h hl

theorem ld {P : Prg} {ty : TypeId} {ti : TI} {a v : TV} {cs : List TV} {off : Nat} (ht : P.ty ty = some ti) (hc : cellsAt H a = some (cs, off)) (hp : partT ti.agg ti.size cs off = some v) : loadT P H ty a = some v := by
  simp only [loadT, tyOf, ht, hc, hp]

theorem stt {P : Prg} {ty : TypeId} {ti : TI} {x : TV} {k : Nm} {off : Nat} {g : TypeId} {cs : List TV} (ht : P.ty ty = some ti) (hc : H.get k = some (.cells g cs)) (hl : (decide (x.cells.length = ti.size) && x.cells.all TV.leaf && decide (off + ti.size ≤ cs.length)) = true) :
    storeT P H ty (.ptr k off) x = some [(k, .cells g (setRange cs off x.cells))] := by
  simp only [Bool.and_eq_true, decide_eq_true_eq] at hl
  obtain ⟨⟨h1, h2⟩, h3⟩ := hl
  simp only [storeT, tyOf, ht, h1, h2, hc, h3, and_self, if_true]

theorem d_store {ty : TypeId} {x y : Operand} {a v : TV} {u : Heap} (h : rhoS C n sp x = some a) (h2 : rhoS C n sp y = some v) (hl : storeT C.P H ty a v = some u) : Does C ev f H n sp t d (.store ty x y) undefT u := fun _ _ _ _ => by
  simp only [execT, evalOp, rhoS_ok h, rhoS_ok h2, hl, unitU, Option.map_some]

/-- where a field lies -/
def fieldOff (P : Prg) (s i : Nat) : Option Nat := match tyOf P s with
  | some ti => match ti.desc with
    | .struct fs => match fs[i]? with
      | some fd => match tyOf P fd.type with
        | some tf => if tf.size = 0 then none else some fd.offset
        | none => none
      | none => none
    | _ => none
  | none => none

theorem d_fieldAddr {s i off : Nat} {x : Operand} {a v : TV} (h : rhoS C n sp x = some a) (ho : fieldOff C.P s i = some off) (hp : ptrAdd H a off = some v) : Does C ev f H n sp t d (.fieldAddr s x i) v [] := fun _ _ _ _ => by
  unfold fieldOff at ho
  split at ho <;> try (simp at ho; done)
  rename_i ti hti
  split at ho <;> try (simp at ho; done)
  rename_i fs hfs
  split at ho <;> try (simp at ho; done)
  rename_i fd hfd
  split at ho <;> try (simp at ho; done)
  rename_i tf htf
  split at ho <;> try (simp at ho; done)
  rename_i hz
  simp at ho
  subst ho
  simp only [execT, evalOp, rhoS_ok h, hti, hfs, hfd, htf, if_neg hz, hp, noU, Option.map_some]

/-- a field's place and type -/
def fieldAt (P : Prg) (s i : Nat) : Option (Nat × Bool × Nat) := match tyOf P s with
  | some ti => match ti.desc with
    | .struct fs => match fs[i]? with
      | some fd => match tyOf P fd.type with
        | some tf => some (fd.offset, tf.agg, tf.size)
        | none => none
      | none => none
    | _ => none
  | none => none

theorem d_field {s i off sz : Nat} {ag : Bool} {x : Operand} {a v : TV} (h : rhoS C n sp x = some a) (hag : isAggT a = true) (ho : fieldAt C.P s i = some (off, ag, sz)) (hp : partT ag sz a.cells off = some v) : Does C ev f H n sp t d (.field s x i) v [] := fun _ _ _ _ => by
  unfold fieldAt at ho
  split at ho <;> try (simp at ho; done)
  rename_i ti hti
  split at ho <;> try (simp at ho; done)
  rename_i fs hfs
  split at ho <;> try (simp at ho; done)
  rename_i fd hfd
  split at ho <;> try (simp at ho; done)
  rename_i tf htf
  simp at ho
  obtain ⟨rfl, rfl, rfl⟩ := ho
  simp only [execT, evalOp, rhoS_ok h, hti, hfs, hfd, htf, hag, if_true, hp, noU, Option.map_some]

theorem d_indexAddr {ty : TypeId} {x i : Operand} {a j v : TV} (h : rhoS C n sp x = some a) (hi : rhoS C n sp i = some j) (hv : indexAddrT C.P H ty a j = some v) : Does C ev f H n sp t d (.indexAddr ty x i) v [] := fun _ _ _ _ => by
  simp only [execT, evalOp, rhoS_ok h, rhoS_ok hi, hv, noU, Option.map_some]

theorem d_index {ty : TypeId} {x i : Operand} {a j v : TV} (h : rhoS C n sp x = some a) (hi : rhoS C n sp i = some j) (hv : indexT C.P ty a j = some v) : Does C ev f H n sp t d (.index ty x i) v [] := fun _ _ _ _ => by
  simp only [execT, evalOp, rhoS_ok h, rhoS_ok hi, hv, noU, Option.map_some]

theorem d_extract {x : Operand} {i : Nat} {a v : TV} (h : rhoS C n sp x = some a) (hv : extractT a i = some v) : Does C ev f H n sp t d (.extract x i) v [] := fun _ _ _ _ => by
  simp only [execT, evalOp, rhoS_ok h, hv, noU, Option.map_some]

theorem d_extractT {x : Operand} {i : Nat} {a : TV} {v : Tree} (h : rhoS C n sp x = some a) (hv : extractT a i = some (.t v)) : Does C ev f H n sp t d (.extract x i) (.t v) [] := d_extract h hv

theorem d_bin {op : BinOp} {ty r2 : TypeId} {x y : Operand} {a b v : TV} (h : rhoS C n sp x = some a) (h2 : rhoS C n sp y = some b) (hv : binT C.P op ty x y a b = some v) : Does C ev f H n sp t d (.binOp op ty x y r2) v [] := fun _ _ _ _ => by
  simp only [execT, evalOp, rhoS_ok h, rhoS_ok h2, hv, noU, Option.map_some]

/-! ### Numbers, texts -/
theorem wrap64 {x : Int} (h1 : -9223372036854775808 ≤ x) (h2 : x ≤ 9223372036854775807) : IntKind.i64.wrap x = x := by
  simp only [IntKind.wrap, IntKind.bits, IntKind.signed]
  first | omega | (simp; omega)

theorem d_int {op : BinOp} {ty r2 : TypeId} {x y : Operand} {k : IntKind} {a b : Int} {v : TV} (h : rhoS C n sp x = some (.t (.int k a))) (h2 : rhoS C n sp y = some (.t (.int k b))) (hv : intT op k a b = some v) : Does C ev f H n sp t d (.binOp op ty x y r2) v [] :=
  d_bin h h2 (by simp only [binT, if_true, hv])

theorem d_eqI {ty r2 : TypeId} {x y : Operand} {k : IntKind} {a b : Int} (h : rhoS C n sp x = some (.t (.int k a))) (h2 : rhoS C n sp y = some (.t (.int k b))) : Does C ev f H n sp t d (.binOp .eql ty x y r2) (.t (.bool (a == b))) [] := d_int h h2 rfl
theorem d_neI {ty r2 : TypeId} {x y : Operand} {k : IntKind} {a b : Int} (h : rhoS C n sp x = some (.t (.int k a))) (h2 : rhoS C n sp y = some (.t (.int k b))) : Does C ev f H n sp t d (.binOp .neq ty x y r2) (.t (.bool (a != b))) [] := d_int h h2 rfl
theorem d_ltI {ty r2 : TypeId} {x y : Operand} {k : IntKind} {a b : Int} (h : rhoS C n sp x = some (.t (.int k a))) (h2 : rhoS C n sp y = some (.t (.int k b))) : Does C ev f H n sp t d (.binOp .lss ty x y r2) (.t (.bool (decide (a < b)))) [] := d_int h h2 rfl
theorem d_leI {ty r2 : TypeId} {x y : Operand} {k : IntKind} {a b : Int} (h : rhoS C n sp x = some (.t (.int k a))) (h2 : rhoS C n sp y = some (.t (.int k b))) : Does C ev f H n sp t d (.binOp .leq ty x y r2) (.t (.bool (decide (a ≤ b)))) [] := d_int h h2 rfl
theorem d_gtI {ty r2 : TypeId} {x y : Operand} {k : IntKind} {a b : Int} (h : rhoS C n sp x = some (.t (.int k a))) (h2 : rhoS C n sp y = some (.t (.int k b))) : Does C ev f H n sp t d (.binOp .gtr ty x y r2) (.t (.bool (decide (a > b)))) [] := d_int h h2 rfl
theorem d_geI {ty r2 : TypeId} {x y : Operand} {k : IntKind} {a b : Int} (h : rhoS C n sp x = some (.t (.int k a))) (h2 : rhoS C n sp y = some (.t (.int k b))) : Does C ev f H n sp t d (.binOp .geq ty x y r2) (.t (.bool (decide (a ≥ b)))) [] := d_int h h2 rfl
theorem d_add64 {ty r2 : TypeId} {x y : Operand} {a b : Int} (h : rhoS C n sp x = some (.t (.int .i64 a))) (h2 : rhoS C n sp y = some (.t (.int .i64 b))) (h3 : -9223372036854775808 ≤ a + b) (h4 : a + b ≤ 9223372036854775807) : Does C ev f H n sp t d (.binOp .add ty x y r2) (.t (.int .i64 (a + b))) [] :=
  d_int h h2 (by simp only [intT, wrap64 h3 h4])
theorem d_sub64 {ty r2 : TypeId} {x y : Operand} {a b : Int} (h : rhoS C n sp x = some (.t (.int .i64 a))) (h2 : rhoS C n sp y = some (.t (.int .i64 b))) (h3 : -9223372036854775808 ≤ a - b) (h4 : a - b ≤ 9223372036854775807) : Does C ev f H n sp t d (.binOp .sub ty x y r2) (.t (.int .i64 (a - b))) [] :=
  d_int h h2 (by simp only [intT, wrap64 h3 h4])

theorem d_eqS {ty r2 : TypeId} {x y : Operand} {a b : List UInt8} (h : rhoS C n sp x = some (.t (.str a))) (h2 : rhoS C n sp y = some (.t (.str b))) : Does C ev f H n sp t d (.binOp .eql ty x y r2) (.t (.bool (a == b))) [] := d_bin h h2 rfl
theorem d_neS {ty r2 : TypeId} {x y : Operand} {a b : List UInt8} (h : rhoS C n sp x = some (.t (.str a))) (h2 : rhoS C n sp y = some (.t (.str b))) : Does C ev f H n sp t d (.binOp .neq ty x y r2) (.t (.bool (!(a == b)))) [] := d_bin h h2 rfl
theorem d_geS {ty r2 : TypeId} {x y : Operand} {a b : List UInt8} (h : rhoS C n sp x = some (.t (.str a))) (h2 : rhoS C n sp y = some (.t (.str b))) : Does C ev f H n sp t d (.binOp .geq ty x y r2) (.t (.bool (!(bytesLessT a b)))) [] := d_bin h h2 rfl
theorem d_ltS {ty r2 : TypeId} {x y : Operand} {a b : List UInt8} (h : rhoS C n sp x = some (.t (.str a))) (h2 : rhoS C n sp y = some (.t (.str b))) : Does C ev f H n sp t d (.binOp .lss ty x y r2) (.t (.bool (bytesLessT a b))) [] := d_bin h h2 rfl

/-! ### Lengths, greatest and least -/
theorem d_lenS {ty : TypeId} {x : Operand} {s : List UInt8} {ti : TI} (h : rhoS C n sp x = some (.t (.str s))) (ht : C.P.ty ty = some ti) (hd : ti.desc = .string) : Does C ev f H n sp t d (.call ⟨.builtin .len, #[x], #[ty]⟩) (.t (.int .i64 s.length)) [] := fun _ _ _ _ => by
  have h1 : rhosT C (frm n sp) (#[x].toList) = some [.t (.str s)] := by simp only [rhosT, rhoS_ok h]
  simp only [execT, evalOp, h1]
  delta builtinT
  simp only [tyOf, ht, hd]

theorem d_lenL {ty e : TypeId} {x : Operand} {v : TV} {m : Nat} {ti : TI} (h : rhoS C n sp x = some v) (ht : C.P.ty ty = some ti) (hd : ti.desc = .slice e) (hl : lenT H v = some m) (h1 : ∀ s, v ≠ .t (.str s)) (h2 : v ≠ .t .nilmap) (h3 : ∀ k, v ≠ .map k) :
    Does C ev f H n sp t d (.call ⟨.builtin .len, #[x], #[ty]⟩) (.t (.int .i64 m)) [] := fun _ _ _ _ => by
  have h4 : rhosT C (frm n sp) (#[x].toList) = some [v] := by simp only [rhosT, rhoS_ok h]
  simp only [execT, evalOp, h4]
  delta builtinT
  simp only [tyOf, ht, hd]
  cases v with
  | t x => cases x with
    | str s => exact absurd rfl (h1 s)
    | nilmap => exact absurd rfl h2
    | _ => simp only [hl]; rfl
  | map k => exact absurd rfl (h3 k)
  | _ => simp only [hl]; rfl

theorem d_lenT {ty e : TypeId} {x : Operand} {es : List Tree} {ti : TI} (h : rhoS C n sp x = some (.t (.sl es))) (ht : C.P.ty ty = some ti) (hd : ti.desc = .slice e) : Does C ev f H n sp t d (.call ⟨.builtin .len, #[x], #[ty]⟩) (.t (.int .i64 es.length)) [] :=
  d_lenL h ht hd rfl (fun _ => by simp) (by simp) (fun _ => by simp)
theorem d_lenR {ty e : TypeId} {x : Operand} {k : Nm} {o l : Nat} {ti : TI} (h : rhoS C n sp x = some (.ref k o l)) (ht : C.P.ty ty = some ti) (hd : ti.desc = .slice e) : Does C ev f H n sp t d (.call ⟨.builtin .len, #[x], #[ty]⟩) (.t (.int .i64 l)) [] :=
  d_lenL h ht hd rfl (fun _ => by simp) (by simp) (fun _ => by simp)
theorem d_lenN {ty e : TypeId} {x : Operand} {ti : TI} (h : rhoS C n sp x = some .nils) (ht : C.P.ty ty = some ti) (hd : ti.desc = .slice e) : Does C ev f H n sp t d (.call ⟨.builtin .len, #[x], #[ty]⟩) (.t (.int .i64 (0 : Nat))) [] :=
  d_lenL h ht hd rfl (fun _ => by simp) (by simp) (fun _ => by simp)
theorem d_lenG {ty e : TypeId} {x : Operand} {es : List Tree} {ti : TI} (h : rhoS C n sp x = some (.tsl es)) (ht : C.P.ty ty = some ti) (hd : ti.desc = .slice e) : Does C ev f H n sp t d (.call ⟨.builtin .len, #[x], #[ty]⟩) (.t (.int .i64 es.length)) [] :=
  d_lenL h ht hd rfl (fun _ => by simp) (by simp) (fun _ => by simp)

/-- any other builtin -/
theorem d_builtin {b : Builtin} {args : Array Operand} {ats : Array TypeId} {vs : List TV} {v : TV} {u : Heap} (h : rhosS C n sp args.toList = some vs) (hv : builtinT C (.loc [t]) H b ats.toList vs = some (v, u)) : Does C ev f H n sp t d (.call ⟨.builtin b, args, ats⟩) v u := fun _ _ _ _ => by
  simp only [execT, evalOp, rhosS_ok h, hv]

theorem d_max {k : IntKind} {x y : Operand} {a b : Int} {ats : Array TypeId} (h : rhoS C n sp x = some (.t (.int k a))) (h2 : rhoS C n sp y = some (.t (.int k b))) : Does C ev f H n sp t d (.call ⟨.builtin .max, #[x, y], ats⟩) (.t (.int k (max a b))) [] := by
  refine d_builtin (vs := [.t (.int k a), .t (.int k b)]) (by simp only [rhosS, h, h2]) ?_
  show noU (minmaxT true [.t (.int k a), .t (.int k b)]) = _
  simp only [minmaxT, minmaxT.minmaxInts, if_true, noU, List.foldl_cons, List.foldl_nil, Option.map_some]
  rw [show (if b > a then b else a) = max a b from by rw [Int.max_def]; split <;> split <;> omega]
theorem d_min {k : IntKind} {x y : Operand} {a b : Int} {ats : Array TypeId} (h : rhoS C n sp x = some (.t (.int k a))) (h2 : rhoS C n sp y = some (.t (.int k b))) : Does C ev f H n sp t d (.call ⟨.builtin .min, #[x, y], ats⟩) (.t (.int k (min a b))) [] := by
  refine d_builtin (vs := [.t (.int k a), .t (.int k b)]) (by simp only [rhosS, h, h2]) ?_
  show noU (minmaxT false [.t (.int k a), .t (.int k b)]) = _
  simp only [minmaxT, minmaxT.minmaxInts, if_true, noU, List.foldl_cons, List.foldl_nil, Option.map_some, Bool.false_eq_true, if_false]
  rw [show (if b < a then b else a) = min a b from by rw [Int.min_def]; split <;> split <;> omega]

/-! ### Elements -/
/-- an element of a list that no one writes -/
theorem d_indexT {ty elem : TypeId} {ti te : TI} {x i : Operand} {es : List Tree} {k : IntKind} {m : Nat} {e : Tree} (h : rhoS C n sp x = some (.t (.sl es))) (hi : rhoS C n sp i = some (.t (.int k (m : Int)))) (ht : C.P.ty ty = some ti) (hd : ti.desc = .slice elem)
    (hte : C.P.ty elem = some te) (he : es[m]? = some e) (hc : e.cells.length = te.size) : Does C ev f H n sp t d (.indexAddr ty x i) (.tptr e.cells 0) [] :=
  d_indexAddr h hi (by
    have h1 : toIndex (.t (.int k (m : Int))) = some m := by simp [toIndex]
    simp only [indexAddrT, tyOf, ht, h1, hd, hte, he, hc, if_true])

/-- a byte of a text -/
theorem d_byte {ty : TypeId} {ti : TI} {x i : Operand} {s : List UInt8} {k : IntKind} {m : Nat} {b : UInt8} (h : rhoS C n sp x = some (.t (.str s))) (hi : rhoS C n sp i = some (.t (.int k (m : Int)))) (ht : C.P.ty ty = some ti) (hd : ti.desc = .string)
    (he : s[m]? = some b) : Does C ev f H n sp t d (.index ty x i) (.t (.int .u8 b.toNat)) [] :=
  d_index h hi (by
    have h1 : toIndex (.t (.int k (m : Int))) = some m := by simp [toIndex]
    simp only [indexT, tyOf, ht, h1, hd, he])

/-! ### Calls -/
theorem d_call {fo : Operand} {args : Array Operand} {ats : Array TypeId} {g : FuncId} {as : List TV} {v : TV} {u : Heap} (hc : calleeT C (frm n sp) ⟨.value fo, args, ats⟩ = some (g, as)) (he : callT ev H g as t = some (.val v u)) : Does C ev f H n sp t d (.call ⟨.value fo, args, ats⟩) v u := fun _ _ _ _ => by
  simp only [execT, hc, he]

theorem callee_func {g : FuncId} {args : Array Operand} {ats : Array TypeId} {as : List TV} (h : rhosS C n sp args.toList = some as) : calleeT C (frm n sp) ⟨.value (.func g), args, ats⟩ = some (g, as) := by
  simp only [calleeT, rhoT, rhosS_ok h]

theorem frzArgs_trees (H : Heap) : ∀ (ts : List Tree), frzArgs H (ts.map .t) = (ts.map .t, [])
  | [] => rfl
  | x :: r => by
    simp only [List.map_cons, frzArgs, frzArgs_trees H r]
    rfl

theorem names_trees : ∀ (ts : List Tree), TV.namesL (ts.map .t) = []
  | [] => rfl
  | x :: r => by simp only [List.map_cons, TV.namesL, TV.names, names_trees r, List.append_nil]

theorem rnL_trees (σ : Nm → Option Nm) : ∀ (ts : List Tree), TV.rnL σ (ts.map .t) = some (ts.map .t)
  | [] => rfl
  | x :: r => by simp only [List.map_cons, TV.rnL, TV.rn, rnL_trees σ r]

theorem callT_trees {g : FuncId} {ts : List Tree} {x : Tree} (he : ev g (ts.map .t) [] = some (.ret (.t x) [] [])) : callT ev H g (ts.map .t) t = some (.val (.t x) []) := by
  unfold callT
  simp only [frzArgs_trees, names_trees]
  have h1 : reach (H.puts (frozenU H [])) reachFuel [] [] = some [] := rfl
  rw [h1]
  simp only [List.nodup_nil, if_true, rnL_trees, objsIn, he]
  rfl

/-- a call with data alone -/
theorem d_callT {g : FuncId} {args : Array Operand} {ats : Array TypeId} {ts : List Tree} {x : Tree} (h : rhosS C n sp args.toList = some (ts.map .t)) (he : ev g (ts.map .t) [] = some (.ret (.t x) [] [])) : Does C ev f H n sp t d (.call ⟨.value (.func g), args, ats⟩) (.t x) [] :=
  d_call (callee_func h) (callT_trees he)
end
end Go.Abs
end

noncomputable section
namespace Go.Abs
open Go

section
variable {C : Cfg} {ev : CallF} {f : FuncId}

/-! ### Slots that are not looked at -/
theorem rhosT_congr {s s' : List TV} : ∀ {l : List Operand}, (∀ x ∈ l, rhoT C s' x = rhoT C s x) → rhosT C s' l = rhosT C s l
  | [], _ => rfl
  | x :: r, h => by
    simp only [rhosT, h x List.mem_cons_self, rhosT_congr (l := r) fun y hy => h y (List.mem_cons_of_mem _ hy)]

theorem partsT_congr {s s' : List TV} : ∀ {l : List (Nat × Operand)}, (∀ x ∈ l.map (·.2), rhoT C s' x = rhoT C s x) → partsT C s' l = partsT C s l
  | [], _ => rfl
  | (i, x) :: r, h => by
    simp only [partsT, h x (by simp), partsT_congr (l := r) fun y hy => h y (by simp only [List.map_cons, List.mem_cons]; exact .inr hy)]

theorem optT_congr {s s' : List TV} {o : Option Operand} (h : ∀ x ∈ o.toArray.toList, rhoT C s' x = rhoT C s x) : optT C s' o = optT C s o := by
  cases o with
  | none => rfl
  | some x => simp only [optT, h x (by simp)]

set_option maxHeartbeats 1000000 in
theorem evalOp_congr {nm : Nm} {H : Heap} {s s' : List TV} {o : Oper} (h : ∀ x ∈ o.op.operands.toList, rhoT C s' x = rhoT C s x) : evalOp C f nm H s' o = evalOp C f nm H s o := by
  obtain ⟨d, op, ty, pos, af, g⟩ := o
  cases op with
  | move x => simp only [evalOp, h x (by simp [Op.operands])]
  | assign x => simp only [evalOp, h x (by simp [Op.operands])]
  | pick c a b => simp only [evalOp, h c (by simp [Op.operands]), h a (by simp [Op.operands]), h b (by simp [Op.operands])]
  | alloc t => rfl
  | box t x => simp only [evalOp, h x (by simp [Op.operands])]
  | build t ps =>
    have := partsT_congr (C := C) (s := s) (s' := s') (l := ps.toList) (fun x hx => h x (by simpa [Op.operands] using hx))
    simp only [evalOp, this]
  | buildSlice t n ps =>
    have := partsT_congr (C := C) (s := s) (s' := s') (l := ps.toList) (fun x hx => h x (by simpa [Op.operands] using hx))
    simp only [evalOp, this]
  | insert t m k v => simp only [evalOp, h m (by simp [Op.operands]), h k (by simp [Op.operands]), h v (by simp [Op.operands])]
  | load t x => simp only [evalOp, h x (by simp [Op.operands])]
  | store t a v => simp only [evalOp, h a (by simp [Op.operands]), h v (by simp [Op.operands])]
  | nilCheck x => simp only [evalOp, h x (by simp [Op.operands])]
  | binOp o t a v r => simp only [evalOp, h a (by simp [Op.operands]), h v (by simp [Op.operands])]
  | unOp o t x => simp only [evalOp, h x (by simp [Op.operands])]
  | convert a b x => simp only [evalOp, h x (by simp [Op.operands])]
  | makeInterface t x => simp only [evalOp, h x (by simp [Op.operands])]
  | makeFunc fn a b =>
    have h1 := rhosT_congr (C := C) (s := s) (s' := s') (l := a.toList) (fun x hx => h x (by simp only [Op.operands, Array.toList_append, List.mem_append]; exact .inl hx))
    have h2 := rhosT_congr (C := C) (s := s) (s' := s') (l := b.toList) (fun x hx => h x (by simp only [Op.operands, Array.toList_append, List.mem_append]; exact .inr hx))
    simp only [evalOp, h1, h2]
  | makeMap t r =>
    have := optT_congr (C := C) (s := s) (s' := s') (o := r) (fun x hx => h x (by simpa [Op.operands] using hx))
    simp only [evalOp, this]
  | makeSlice t a v => simp only [evalOp, h a (by simp [Op.operands]), h v (by simp [Op.operands])]
  | slice t x l m k =>
    have h1 := optT_congr (C := C) (s := s) (s' := s') (o := l) (fun y hy => h y (by simp only [Op.operands, Array.toList_append, List.mem_append]; exact .inl (.inl (.inr hy))))
    have h2 := optT_congr (C := C) (s := s) (s' := s') (o := m) (fun y hy => h y (by simp only [Op.operands, Array.toList_append, List.mem_append]; exact .inl (.inr hy)))
    have h3 := optT_congr (C := C) (s := s) (s' := s') (o := k) (fun y hy => h y (by simp only [Op.operands, Array.toList_append, List.mem_append]; exact .inr hy))
    simp only [evalOp, h x (by simp [Op.operands]), h1, h2, h3]
  | fieldAddr t x i => simp only [evalOp, h x (by simp [Op.operands])]
  | field t x i => simp only [evalOp, h x (by simp [Op.operands])]
  | indexAddr t a v => simp only [evalOp, h a (by simp [Op.operands]), h v (by simp [Op.operands])]
  | index t a v => simp only [evalOp, h a (by simp [Op.operands]), h v (by simp [Op.operands])]
  | lookup t a v ok => simp only [evalOp, h a (by simp [Op.operands]), h v (by simp [Op.operands])]
  | mapUpdate t m k v => simp only [evalOp, h m (by simp [Op.operands]), h k (by simp [Op.operands]), h v (by simp [Op.operands])]
  | mapEntry t m k => simp only [evalOp, h m (by simp [Op.operands]), h k (by simp [Op.operands])]
  | entryStore t m k v => simp only [evalOp, h m (by simp [Op.operands]), h k (by simp [Op.operands]), h v (by simp [Op.operands])]
  | typeAssert x a b ok => simp only [evalOp, h x (by simp [Op.operands])]
  | extract x i => simp only [evalOp, h x (by simp [Op.operands])]
  | call c =>
    obtain ⟨ce, args, ats⟩ := c
    cases ce with
    | builtin b =>
      have h1 := rhosT_congr (C := C) (s := s) (s' := s') (l := args.toList) (fun x hx => h x (by simp only [Op.operands, Call.operands, Array.toList_append, List.mem_append]; exact .inr hx))
      simp only [evalOp, h1]
    | value fo => rfl
    | invoke r m => rfl
  | _ => rfl

theorem execT_congr {H : Heap} {s s' : List TV} {t : Nat} {o : Oper} (h : ∀ x ∈ o.op.operands.toList, rhoT C s' x = rhoT C s x) : execT C ev f H s' t o = execT C ev f H s t o := by
  have he := evalOp_congr (C := C) (f := f) (nm := .loc [t]) (H := H) h
  obtain ⟨d, op, ty, pos, af, g⟩ := o
  cases op with
  | panic x => simp only [execT, h x (by simp [Op.operands])]
  | call c =>
    obtain ⟨ce, args, ats⟩ := c
    cases ce with
    | value fo =>
      have h1 := rhosT_congr (C := C) (s := s) (s' := s') (l := args.toList) (fun x hx => h x (by simp only [Op.operands, Call.operands, Array.toList_append, List.mem_append]; exact .inr hx))
      have h2 : rhoT C s' fo = rhoT C s fo := h fo (by simp [Op.operands, Call.operands])
      simp only [execT, calleeT, h1, h2]
    | _ => simp only [execT, he]
  | _ => simp only [execT, he]

theorem mask_rho {L : List Nat} {s : List TV} {x : Operand} (h : ∀ t, x = .tmp t → t ∈ L) : rhoT C (maskS L 0 s) x = rhoT C s x := by
  cases x with
  | tmp t =>
    have ht := h t rfl
    simp only [rhoT, getS_eq, List.getD_eq_getElem?_getD, maskS_get, Nat.zero_add, if_pos ht]
  | _ => rfl

theorem execT_mask {ops : Array Oper} {H : Heap} {s : List TV} {t : Nat} {o : Oper} : execT C ev f H (maskS (o.looksAt ops) 0 s) t o = execT C ev f H s t o :=
  execT_congr fun x hx => mask_rho fun t e => by
    subst e
    unfold Oper.looksAt
    refine List.mem_append_left _ (List.mem_filterMap.2 ⟨_, hx, rfl⟩)

theorem wantedT_mask {ops : Array Oper} {s : List TV} {o : Oper} : wantedT ops (maskS (o.looksAt ops) 0 s) o = wantedT ops s o := by
  unfold wantedT
  cases hg : o.guard with
  | none => rfl
  | some g =>
    obtain ⟨j, want⟩ := g
    simp only []
    cases hd : (ops[j]?).bind (·.dst) with
    | none => rfl
    | some d =>
      have hm : d ∈ o.looksAt ops := by
        unfold Oper.looksAt
        refine List.mem_append_right _ ?_
        rw [hg]
        simp [hd]
      simp only [maskS_get, Nat.zero_add, if_pos hm]

/-! ### Drawn regions -/
/-- from the i-th operation on, no panic so far -/
def AWd (C : Cfg) (ev : CallF) (f : FuncId) (ops : Array Oper) (bs : List Nat) (t0 i : Nat) (l : List Oper) (n : Nat) (sp : List (Nat × TV)) (H : Heap) (K : List Rec → List (Nat × TV) → Heap → Prop) : Prop :=
  ∃ recs sp' H', opsD C ev f ops bs t0 i l ⟨frm n sp, H⟩ none = some recs ∧ foldD l recs ⟨frm n sp, H⟩ = ⟨frm n sp', H'⟩ ∧ (∀ j, panicAt j recs = none) ∧ K recs sp' H'

section
variable {ops : Array Oper} {bs : List Nat} {t0 i n : Nat} {r : List Oper} {sp : List (Nat × TV)} {H : Heap} {K : List Rec → List (Nat × TV) → Heap → Prop}

theorem AWd.nil (h : K [] sp H) : AWd C ev f ops bs t0 i [] n sp H K := ⟨[], sp, H, rfl, rfl, fun _ => rfl, h⟩

theorem AWd.step {o : Oper} {fp : List Nm} {v : TV} {u : Heap} (hw : wantedT ops (frm n sp) o = some true) (hfp : fpT C H (frm n sp) o = some fp) (hx : execT C ev f (pickH H fp) (frm n sp) (t0 + i) o = some (.val v u))
    (k : AWd C ev f ops bs t0 (i + 1) r n (putP sp o.dst v) (H.puts u) fun rs sp' H' => K (⟨fp, .val v u⟩ :: rs) sp' H') : AWd C ev f ops bs t0 i (o :: r) n sp H K := by
  obtain ⟨rs, sp', H', h1, h2, h3, h4⟩ := k
  refine ⟨⟨fp, .val v u⟩ :: rs, sp', H', ?_, ?_, fun j => ?_, h4⟩
  · simp only [opsD, opD, wantedT_mask, hw, hfp, execT_mask, hx, Option.isSome_none, Bool.false_eq_true, decide_false, Bool.false_and, if_false, DSt.after, putSlot_frm, panAfter, h1]
  · simp only [foldD, DSt.after, putSlot_frm, h2]
  · exact h3 (j + 1)

theorem AWd.skip {o : Oper} (hw : wantedT ops (frm n sp) o = some false) (k : AWd C ev f ops bs t0 (i + 1) r n (putP sp o.dst undefT) H fun rs sp' H' => K (⟨[], .unwanted⟩ :: rs) sp' H') : AWd C ev f ops bs t0 i (o :: r) n sp H K := by
  obtain ⟨rs, sp', H', h1, h2, h3, h4⟩ := k
  refine ⟨⟨[], .unwanted⟩ :: rs, sp', H', ?_, ?_, fun j => ?_, h4⟩
  · simp only [opsD, opD, wantedT_mask, hw, DSt.after, putSlot_frm, panAfter, h1]
  · simp only [foldD, DSt.after, putSlot_frm, h2]
  · exact h3 (j + 1)

/-- an operation that is not guarded -/
theorem AWd.go {d : Tmp} {op : Op} {ty pos af} {fp : List Nm} {v : TV} {u : Heap} (hfp : fpT C H (frm n sp) ⟨some d, op, ty, pos, af, none⟩ = some fp) (h : Does C ev f (pickH H fp) n sp (t0 + i) (some d) op v u)
    (k : AWd C ev f ops bs t0 (i + 1) r n ((d, v) :: sp) (H.puts u) fun rs sp' H' => K (⟨fp, .val v u⟩ :: rs) sp' H') : AWd C ev f ops bs t0 i (⟨some d, op, ty, pos, af, none⟩ :: r) n sp H K :=
  AWd.step rfl hfp (h _ _ _ _) k

theorem AWd.go0 {op : Op} {ty pos af} {fp : List Nm} {v : TV} {u : Heap} (hfp : fpT C H (frm n sp) ⟨none, op, ty, pos, af, none⟩ = some fp) (h : Does C ev f (pickH H fp) n sp (t0 + i) none op v u)
    (k : AWd C ev f ops bs t0 (i + 1) r n sp (H.puts u) fun rs sp' H' => K (⟨fp, .val v u⟩ :: rs) sp' H') : AWd C ev f ops bs t0 i (⟨none, op, ty, pos, af, none⟩ :: r) n sp H K :=
  AWd.step rfl hfp (h _ _ _ _) k

/-- under a guard that is decided -/
theorem AWd.yes {d : Tmp} {op : Op} {ty pos af} {j gd : Nat} {w b : Bool} {fp : List Nm} {v : TV} {u : Heap} (hj : (ops[j]?).bind (·.dst) = some gd) (hn : Nat.blt gd n = true) (hl : look sp gd = .t (.bool b)) (hb : (b == w) = true)
    (hfp : fpT C H (frm n sp) ⟨some d, op, ty, pos, af, some (j, w)⟩ = some fp) (h : Does C ev f (pickH H fp) n sp (t0 + i) (some d) op v u)
    (k : AWd C ev f ops bs t0 (i + 1) r n ((d, v) :: sp) (H.puts u) fun rs sp' H' => K (⟨fp, .val v u⟩ :: rs) sp' H') : AWd C ev f ops bs t0 i (⟨some d, op, ty, pos, af, some (j, w)⟩ :: r) n sp H K :=
  AWd.step (by rw [wanted_of rfl hj hn, hl]; simp only [hb]) hfp (h _ _ _ _) k

theorem AWd.no {d : Tmp} {op : Op} {ty pos af} {j gd : Nat} {w b : Bool} (hj : (ops[j]?).bind (·.dst) = some gd) (hn : Nat.blt gd n = true) (hl : look sp gd = .t (.bool b)) (hb : (b == w) = false)
    (k : AWd C ev f ops bs t0 (i + 1) r n ((d, undefT) :: sp) H fun rs sp' H' => K (⟨[], .unwanted⟩ :: rs) sp' H') : AWd C ev f ops bs t0 i (⟨some d, op, ty, pos, af, some (j, w)⟩ :: r) n sp H K :=
  AWd.skip (by rw [wanted_of rfl hj hn, hl]; simp only [hb]) k

/-- under a guard that itself is not wanted -/
theorem AWd.none {d : Tmp} {op : Op} {ty pos af} {j gd : Nat} {w : Bool} (hj : (ops[j]?).bind (·.dst) = some gd) (hn : Nat.blt gd n = true) (hl : look sp gd = undefT)
    (k : AWd C ev f ops bs t0 (i + 1) r n ((d, undefT) :: sp) H fun rs sp' H' => K (⟨[], .unwanted⟩ :: rs) sp' H') : AWd C ev f ops bs t0 i (⟨some d, op, ty, pos, af, some (j, w)⟩ :: r) n sp H K :=
  AWd.skip (by rw [wanted_of rfl hj hn, hl]; rfl) k
end

theorem AW.draw {id : Nat} {ops : Array Oper} {n t : Nat} {sp : List (Nat × TV)} {H : Heap} {Q : AExit → St → Prop} (hm : C.P.prog.follows .mixedOrders = true) (hev : CallOk C ev)
    (h : AWd C ev f ops (befs ops.toList []) t 0 ops.toList n sp H fun recs sp' H' => freeOrder ops ops.toList recs (befs ops.toList []) ops.toList recs 0 = true ∧ backOk 0 ops.toList = true ∧ Q .normal ⟨frm n sp', H', t + ops.size⟩) :
    AW C (.region id ops true) ⟨frm n sp, H, t⟩ Q := by
  obtain ⟨recs, sp', H', h1, h2, h3, h4, h5, h6⟩ := h
  refine AW.drawn (ev := ev) (f := f) hm hev (e := .normal) (st' := ⟨frm n sp', H', t + ops.size⟩) ?_ h6
  unfold regionD
  simp only [h1, h4, h5, and_self, if_true, h3, h2]

/-! ### A question whose answer is not known: is a list that came in nil? -/
theorem AWo.nilB {ops : Array Oper} {Q : AExit → St → Prop} {n t : Nat} {sp : List (Nat × TV)} {H : Heap} {r : List Oper} {d : Tmp} {ty r2 : TypeId} {x y : Operand} {tt pos af} {es : List Tree} {ti : TI} {e : TypeId}
    (hx : rhoS C n sp x = some (.t (.sl es))) (hy : rhoS C n sp y = some .nils) (ht : C.P.ty ty = some ti) (hd : ti.desc = .slice e)
    (k : ∀ b : Bool, (es ≠ [] → b = false) → AWo C ops r ⟨frm n ((d, .t (.bool b)) :: sp), H, t + 1⟩ Q) : AWo C ops (⟨some d, .binOp .eql ty x y r2, tt, pos, af, none⟩ :: r) ⟨frm n sp, H, t⟩ Q := by
  intro G0 w0 G w a h0 hs hst R hR
  have h1 := rho_VR hst.slots hst.glob (rhoS_ok hx)
  have h2 := rho_VR hst.slots hst.glob (rhoS_ok hy)
  obtain ⟨_, _, hu, _⟩ := tyOf_info (show tyOf C.P ty = some ti from ht)
  rw [hd] at hu
  obtain ⟨ad, len, cap, ep, hne⟩ : ∃ ad len cap, a.eval x = .slice ad len cap ∧ (es ≠ [] → ad.isNone = false) := by
    generalize a.eval x = p at h1
    cases h1 with | t _ _ h1 => cases h1 with
      | sl0 ad cap => exact ⟨_, _, _, rfl, fun h => absurd rfl h⟩
      | sl => exact ⟨_, _, _, rfl, fun _ => rfl⟩
  have eq : a.eval y = .slice none 0 0 := by
    generalize a.eval y = q at h2
    cases h2; rfl
  have hrun := (eql_nil_run (x := x) (y := y) (p := .slice ad len cap) (q := .slice none 0 0) (C := C) (w := w) (t := ty) (by intro z; simp) (by simp) rfl rfl (eq_sl_nn hu ad len cap 0 0)).1
  have hop : OpOk C.P (.loc [t]) ⟨some d, .binOp .eql ty x y r2, tt, pos, af, none⟩ a w G (.t (.bool ad.isNone)) [] :=
    OpOk.quiet hst.wf (by simp only [execOp]; rw [ep, eq]; simp only [Sem.run_bind] at hrun ⊢; rw [hrun]; rfl) (.t _ _ (.bool _))
  have kk := k ad.isNone hne
  refine wpList_step fun K hK => ?_
  rw [wantedT_ok (G := G) (show wantedT ops (frm n sp) ⟨some d, .binOp .eql ty x y r2, tt, pos, af, none⟩ = some true from rfl) hst.slots]
  simp only [if_true]
  refine hop.exec.wp ResOk.no (fun z w' hr => ?_) (fun ch w' hr => ?_)
  · obtain ⟨x', G', e1, hs', hu', hv⟩ := hr
    simp at e1; subst e1
    have := hst.op (some d) hs' hu' hv
    rw [putSlot_frm] at this
    exact hK _ _ (kk G0 w0 G' w' _ h0 (AnyStep.comp hs hs'.any) this R fun e st' _ _ _ h1 h2 => hR _ _ _ _ _ h1 (Good.acts (put_defers _ _ _) h2))
  · obtain ⟨x', G', e1, _⟩ := hr
    simp at e1

/-! ### Results that may be written -/
/-- what a call hands back, as it is -/
def finish0 (C : Cfg) (fn : Func) (n : Nat) (st : St) : Option FRes :=
  match resultT C st fn.results.toList with
  | none => none
  | some vs => match objsAt st.H 0 n with
    | none => none
    | some os => match reach st.H reachFuel [] ((oneOr vs).names ++ os.flatMap AObj.names) with
      | none => none
      | some R => (newsAt st.H R).map fun h => .ret (oneOr vs) os h

theorem finish0_ok {fn : Func} {n : Nat} {st : St} {a : Act} {r : FRes} {G G0 : Gh} {w w0 : World} (h : finish0 C fn n st = some r) (hs : AnyStep G0 w0 G w) (hst : StR C G w st a) :
    ∃ v, (results fn a.tmps).run C.P w = .ok v w ∧ retP G0 w0 n r (.returned v) w := by
  unfold finish0 at h
  split at h
  · simp at h
  rename_i vs hvs
  obtain ⟨v, hv, hr⟩ := results_ok hst hvs
  refine ⟨v, hv, ?_⟩
  split at h
  · simp at h
  rename_i os hos
  split at h
  · simp at h
  rename_i R hR
  cases hnw : newsAt st.H R with
  | none => rw [hnw] at h; simp at h
  | some nw =>
    rw [hnw] at h
    simp only [Option.map_some, Option.some.injEq] at h
    subst h
    obtain ⟨e1, e2⟩ := objsAt_some hos
    refine ⟨v, G, rfl, hs, e1, fun i o ho => ?_, fun k o hm => ?_, hr⟩
    · have := e2 i o ho
      rw [Nat.zero_add] at this
      exact hst.heap _ _ this
    · obtain ⟨e3, e4⟩ := newsAt_some hnw k o hm
      exact ⟨e3, hst.heap _ _ e4⟩

/-- the end of a function: its result as data, or as it is -/
def Fin2 (C : Cfg) (fn : Func) (n : Nat) (r : FRes) : AExit → St → Prop
  | .normal, st => finish C fn n st = some r ∨ finish0 C fn n st = some r
  | .ret, st => finish C fn n st = some r ∨ finish0 C fn n st = some r
  | .panic v, st => v.names.any Nm.isLoc = false ∧ r = .panic v (objsAtP st.H 0 n)
  | _, _ => False

theorem fn_ok2 {f : FuncId} {fn : Func} {body : Code} {args : List TV} {objs : List AObj} {r : FRes} (hfn0 : C.P.fn f = some fn) (hbody : fn.body = some body) (hname : fn.name ≠ "runtime.NumGoroutine")
    (h : AW C body ⟨args ++ List.replicate (fn.ntmps - args.length) undefT, argHeap 0 objs, 0⟩ (Fin2 C fn objs.length r)) : CallRel C f args objs r := by
  intro G w vs hw hg had hH hv
  have hfn := C.P.fnOk _ _ hfn0
  have hst : StR C G w ⟨args ++ List.replicate (fn.ntmps - args.length) undefT, argHeap 0 objs, 0⟩ { tmps := vs.toArray ++ Array.replicate (fn.ntmps - vs.toArray.size) undef, defers := [] } := by
    refine ⟨hw, hg, ?_, hH, fun p hp => absurd hp (had.2 p)⟩
    have e : (vs.toArray ++ Array.replicate (fn.ntmps - vs.toArray.size) undef).toList = vs ++ List.replicate (fn.ntmps - args.length) undef := by simp [hv.1]
    unfold SR
    rw [e]
    refine VRs.append hv ⟨by simp, fun j c u hc hu => ?_⟩
    rw [List.getElem?_replicate] at hc hu
    by_cases hl : j < fn.ntmps - args.length
    · rw [if_pos hl] at hc hu
      simp at hc hu; subst hc; subst hu; exact undef_VR G
    · rw [if_neg hl] at hc; simp at hc
  have fin : ∀ {G' : Gh} {w' : World} {st : St} {a' : Act}, (finish C fn objs.length st = some r ∨ finish0 C fn objs.length st = some r) → AnyStep G w G' w' → StR C G' w' st a' → ∃ v, (results fn a'.tmps).run C.P w' = .ok v w' ∧ retP G w objs.length r (.returned v) w' :=
    fun h hs hst => h.elim (fun h => finish_ok h hs hst) (fun h => finish0_ok h hs hst)
  refine .inl ⟨?_, calls_of_wp hfn hbody ?_⟩
  · simp [callFunc, hfn, hname, hbody]
  · refine wp_mono (h G w G w _ had.2 (Step.refl hw _ _) hst) fun ex a' w' ⟨e, st, hq, hgd⟩ => ?_
    cases e with
    | normal =>
      obtain ⟨G', hs, hd, rfl, hst'⟩ := hgd
      exact ⟨hd, fin hq hs hst'⟩
    | ret =>
      obtain ⟨G', hs, hd, rfl, hst'⟩ := hgd
      exact ⟨hd, fin hq hs hst'⟩
    | exit id => exact hq.elim
    | panic v =>
      obtain ⟨_, rfl⟩ := hq
      obtain ⟨G', hs, hd, x, rfl, hx, hH'⟩ := hgd
      refine ⟨hd, x, G', rfl, hs, fun i o ho => ?_, hx⟩
      have := objsAtP_some ho
      rw [Nat.zero_add] at this
      exact hH' _ _ this

/-- a function, from its first state on -/
theorem fn_start2 {f : FuncId} {fn : Func} {body : Code} {args : List TV} {objs : List AObj} {r : FRes} (n k : Nat) (hfn0 : C.P.fn f = some fn) (hbody : fn.body = some body) (hname : fn.name ≠ "runtime.NumGoroutine")
    (hn : fn.ntmps = n) (ha : args.length = k) (hk : k ≤ n) (h : AW C body ⟨frm n (startP 0 args), argHeap 0 objs, 0⟩ (Fin2 C fn objs.length r)) : CallRel C f args objs r := by
  refine fn_ok2 hfn0 hbody hname (AW.re (Re.start args (fn.ntmps - args.length) _ _) ?_)
  rw [show args.length + (fn.ntmps - args.length) = n by omega]
  exact h
end
end Go.Abs
end

noncomputable section
namespace Go.Abs
open Go

def isAggE : Tree → Bool
  | .agg _ => true
  | _ => false

/-- an element of so many cells, an aggregate or not -/
def EOk (ag : Bool) (sz : Nat) (e : Tree) : Prop := e.cells.length = sz ∧ e.cells.all Tree.leaf = true ∧ isAggE e = ag

def Uni (ag : Bool) (sz : Nat) (es : List Tree) : Prop := ∀ e ∈ es, EOk ag sz e

theorem Uni.nil {ag : Bool} {sz : Nat} : Uni ag sz [] := fun _ h => by simp at h
theorem Uni.cons {ag : Bool} {sz : Nat} {e : Tree} {es : List Tree} (h : EOk ag sz e) (hs : Uni ag sz es) : Uni ag sz (e :: es) := fun x hx => by
  rcases List.mem_cons.1 hx with rfl | hx
  · exact h
  · exact hs x hx
theorem Uni.append {ag : Bool} {sz : Nat} {a b : List Tree} (h : Uni ag sz a) (k : Uni ag sz b) : Uni ag sz (a ++ b) := fun x hx => (List.mem_append.1 hx).elim (h x) (k x)
theorem Uni.take {ag : Bool} {sz : Nat} {a : List Tree} (h : Uni ag sz a) (n : Nat) : Uni ag sz (a.take n) := fun x hx => h x (List.mem_of_mem_take hx)
theorem Uni.lens {ag : Bool} {sz : Nat} {es : List Tree} (h : Uni ag sz es) : ∀ e ∈ es, e.cells.length = sz := fun e he => (h e he).1

theorem Uni.flat_leaf {ag : Bool} {sz : Nat} {es : List Tree} (h : Uni ag sz es) : ((flat es).map TV.t).all TV.leaf = true := by
  rw [List.all_eq_true]
  intro v hv
  obtain ⟨x, hx, rfl⟩ := List.mem_map.1 hv
  obtain ⟨e, he, hxe⟩ := List.mem_flatMap.1 hx
  exact List.all_eq_true.1 (h e he).2.1 x hxe

theorem Uni.length {ag : Bool} {sz : Nat} {es : List Tree} (h : Uni ag sz es) : ((flat es).map TV.t).length = es.length * sz := by
  rw [List.length_map, flat_length h.lens]

theorem agg_cells {e : Tree} (h : isAggE e = true) : e = .agg e.cells := by
  cases e <;> simp_all [isAggE, Tree.cells]

theorem one_cell {e : Tree} (h : isAggE e = false) : e.cells = [e] := by
  cases e <;> simp_all [isAggE, Tree.cells]

theorem chunk_flat {ag : Bool} {sz : Nat} (hz : 0 < sz) : ∀ {es : List Tree}, Uni ag sz es → chunk ag sz es.length (flat es) = some es
  | [], _ => rfl
  | e :: r, h => by
    obtain ⟨h1, h2, h3⟩ := h e List.mem_cons_self
    have ih := chunk_flat hz (es := r) fun x hx => h x (List.mem_cons_of_mem _ hx)
    have hd : (flat (e :: r)).drop sz = flat r := by
      simp only [flat, List.flatMap_cons]
      rw [← h1, List.drop_left]
    have ht : (flat (e :: r)).take sz = e.cells := by
      simp only [flat, List.flatMap_cons]
      rw [← h1, List.take_left]
    have hl : sz ≤ (flat (e :: r)).length := by
      simp only [flat, List.flatMap_cons, List.length_append]
      omega
    simp only [List.length_cons, chunk, if_pos hl, hd, ih, ht]
    cases ag with
    | true => simp only [if_true]; rw [← agg_cells h3]
    | false =>
      have hc := one_cell h3
      have e1 : sz = 1 := by rw [← h1, hc]; rfl
      have hlf : e.leaf = true := by rw [hc] at h2; simpa using h2
      have ef : flat (e :: r) = e :: flat r := by simp only [flat, List.flatMap_cons, hc, List.singleton_append]
      simp only [Bool.false_eq_true, if_false, ef, e1, hlf, and_self, if_true]

theorem frzs_trees (g : TV → Option (Tree × List Nm)) (hg : ∀ x, g (.t x) = some (x, [])) : ∀ (ts : List Tree), frzs g (ts.map .t) = some (ts, [])
  | [] => rfl
  | x :: r => by simp only [List.map_cons, frzs, hg, frzs_trees g hg r, List.nil_append]

theorem frz_tree (H : Heap) (n : Nat) (x : Tree) : frz H n (.t x) = some (x, []) := by cases n <;> rfl

/-- a whole array as data -/
theorem frz_row {H : Heap} {n : Nat} {k : Nm} {g : TypeId} {ag fz : Bool} {sz len : Nat} {es : List Tree} (hk : H.get k = some (.arr (g, ag) sz fz ((flat es).map .t))) (hu : Uni ag sz es) (hz : 0 < sz) (hl : len = es.length) :
    frz H (n + 1) (.ref k 0 len) = some (.sl es, [k]) := by
  subst hl
  have hc : 0 < sz ∧ (0 + es.length) * sz = ((flat es).map TV.t).length := ⟨hz, by rw [hu.length, Nat.zero_add]⟩
  have e1 : (((flat es).map TV.t).drop (0 * sz)).take (es.length * sz) = (flat es).map .t := by
    rw [Nat.zero_mul, List.drop_zero, List.take_of_length_le (by rw [hu.length]; exact Nat.le_refl _)]
  simp only [frz, hk, if_pos hc, e1, frzs_trees _ (frz_tree H n), chunk_flat hz hu]

section
variable {C : Cfg} {ev : CallF} {f : FuncId} {n : Nat} {sp : List (Nat × TV)} {H : Heap} {t : Nat} {d : Option Tmp}

/-! ### An array that may be written: its elements -/
theorem d_indexR {ty elem : TypeId} {ti te : TI} {x i : Operand} {kk : IntKind} {m : Nat} {k : Nm} {len : Nat} {g : TypeId × Bool} {fz : Bool} {cs : List TV} (h : rhoS C n sp x = some (.ref k 0 len)) (hi : rhoS C n sp i = some (.t (.int kk (m : Int))))
    (ht : C.P.ty ty = some ti) (hd : ti.desc = .slice elem) (hte : C.P.ty elem = some te) (hk : H.get k = some (.arr g te.size fz cs)) (hz : 0 < te.size) (hl : len * te.size = cs.length) (hm : m < len) :
    Does C ev f H n sp t d (.indexAddr ty x i) (.aptr k cs.length (m * te.size)) [] :=
  d_indexAddr h hi (by
    have h1 : toIndex (.t (.int kk (m : Int))) = some m := by simp [toIndex]
    have h2 : refOk H k 0 len = some (g, te.size, fz, cs) := by
      unfold refOk
      simp only [hk]
      rw [if_pos ⟨hz, by rw [Nat.zero_add]; exact hl⟩]
    simp only [indexAddrT, tyOf, ht, h1, hd, hte, h2, hm, and_self, if_true, Nat.zero_add])

theorem padd {k : Nm} {o a : Nat} {g : TypeId × Bool} {esz : Nat} {fz : Bool} {cs : List TV} (hk : H.get k = some (.arr g esz fz cs)) : ptrAdd H (.aptr k cs.length o) a = some (.aptr k cs.length (o + a)) := by
  simp only [ptrAdd, hk, if_true]

theorem lda {P : Prg} {ty : TypeId} {ti : TI} {v : TV} {k : Nm} {off : Nat} {g : TypeId × Bool} {esz : Nat} {fz : Bool} {cs : List TV} (ht : P.ty ty = some ti) (hk : H.get k = some (.arr g esz fz cs)) (hp : partT ti.agg ti.size cs off = some v) :
    loadT P H ty (.aptr k cs.length off) = some v := by
  simp only [loadT, tyOf, ht, cellsAt, hk, if_true, hp]

theorem sta {P : Prg} {ty : TypeId} {ti : TI} {x : TV} {k : Nm} {off : Nat} {g : TypeId × Bool} {esz : Nat} {cs : List TV} (ht : P.ty ty = some ti) (hk : H.get k = some (.arr g esz false cs)) (hl : (decide (x.cells.length = ti.size) && x.cells.all TV.leaf) = true) (ho : off + ti.size ≤ cs.length) :
    storeT P H ty (.aptr k cs.length off) x = some [(k, .arr g esz false (setRange cs off x.cells))] := by
  simp only [Bool.and_eq_true, decide_eq_true_eq] at hl
  simp only [storeT, tyOf, ht, hl.1, hl.2, hk, ho, and_self, if_true]

theorem flat_part {sz : Nat} {es : List Tree} {i j m : Nat} {e : Tree} (hu : ∀ e ∈ es, e.cells.length = sz) (he : es[i]? = some e) (hj : j + m ≤ sz) : ((flat es).drop (i * sz + j)).take m = (e.cells.drop j).take m := by
  refine List.ext_getElem? fun q => ?_
  by_cases hq : q < m
  · rw [List.getElem?_take_of_lt hq, List.getElem?_take_of_lt hq, List.getElem?_drop, List.getElem?_drop, Nat.add_assoc, flat_get hu he (by omega)]
  · rw [List.getElem?_eq_none (by rw [List.length_take]; omega), List.getElem?_eq_none (by rw [List.length_take]; omega)]

theorem allT_map : ∀ (ts : List Tree), allT (ts.map .t) = some ts
  | [] => rfl
  | x :: r => by simp only [List.map_cons, allT, allT_map r]

theorem mkAgg_map (ts : List Tree) : mkAgg (ts.map .t) = .t (.agg ts) := by simp only [mkAgg, allT_map]

/-- some cells of an element -/
theorem part_row {sz : Nat} {es : List Tree} {i j m : Nat} {e : Tree} (hu : ∀ e ∈ es, e.cells.length = sz) (he : es[i]? = some e) (hj : j + m ≤ sz) : partT true m ((flat es).map .t) (i * sz + j) = some (.t (.agg ((e.cells.drop j).take m))) := by
  have hi : i < es.length := (List.getElem?_eq_some_iff.1 he).1
  have hle : i * sz + j + m ≤ ((flat es).map TV.t).length := by
    rw [List.length_map, flat_length hu]
    have : (i + 1) * sz ≤ es.length * sz := Nat.mul_le_mul_right _ hi
    rw [Nat.succ_mul] at this
    omega
  simp only [partT, if_true, if_pos hle]
  rw [← List.map_drop, ← List.map_take, flat_part hu he hj, mkAgg_map]

theorem part_cell {sz : Nat} {es : List Tree} {i j : Nat} {e c : Tree} (hu : ∀ e ∈ es, e.cells.length = sz) (he : es[i]? = some e) (hc : e.cells[j]? = some c) : partT false 1 ((flat es).map .t) (i * sz + j) = some (.t c) := by
  have hj : j < sz := by rw [← hu e (List.mem_of_getElem? he)]; exact (List.getElem?_eq_some_iff.1 hc).1
  simp only [partT, Bool.false_eq_true, if_false, List.getElem?_map, flat_get hu he hj, hc, Option.map_some]

/-- what was there, stored once more -/
theorem set_same {cs : List TV} {off : Nat} {vs : List TV} (h : (cs.drop off).take vs.length = vs) : setRange cs off vs = cs := by
  unfold setRange
  conv => rhs; rw [← List.take_append_drop off cs, ← List.take_append_drop vs.length (cs.drop off), h, List.drop_drop]
  rw [List.append_assoc]

theorem set_row {sz : Nat} {es : List Tree} {i j m : Nat} {e : Tree} (hu : ∀ e ∈ es, e.cells.length = sz) (he : es[i]? = some e) (hj : j + m ≤ sz) : setRange ((flat es).map .t) (i * sz + j) (((e.cells.drop j).take m).map .t) = (flat es).map .t := by
  refine set_same ?_
  have hl : e.cells.length = sz := hu e (List.mem_of_getElem? he)
  rw [List.length_map, List.length_take, List.length_drop, hl, Nat.min_eq_left (by omega), ← List.map_drop, ← List.map_take, flat_part hu he hj]

theorem setRange_len {cs vs : List TV} {off : Nat} (h : off + vs.length ≤ cs.length) : (setRange cs off vs).length = cs.length := by
  unfold setRange
  simp only [List.length_append, List.length_take, List.length_drop]
  omega

/-! ### append -/
theorem src_sl {ag : Bool} {sz : Nat} {es : List Tree} (hu : Uni ag sz es) : srcCells H ag sz (.t (.sl es)) = some (es.length, (flat es).map .t) := by
  have : headOk sz es = true := by
    cases es with
    | nil => rfl
    | cons e r => simp only [headOk, (hu e List.mem_cons_self).1, BEq.rfl]
  simp only [srcCells, this, if_true]

theorem src_tsl {ag : Bool} {sz : Nat} {es : List Tree} (hu : Uni ag sz es) : srcCells H ag sz (.tsl es) = some (es.length, (flat es).map .t) := by
  have : headOk sz es = true := by
    cases es with
    | nil => rfl
    | cons e r => simp only [headOk, (hu e List.mem_cons_self).1, BEq.rfl]
  simp only [srcCells, this, if_true]

/-- what is appended -/
def isSrc (y : TV) (es : List Tree) : Prop := y = .t (.sl es) ∨ y = .tsl es

theorem src_of {ag : Bool} {sz : Nat} {y : TV} {es : List Tree} (h : isSrc y es) (hu : Uni ag sz es) : srcCells H ag sz y = some (es.length, (flat es).map .t) := by
  rcases h with rfl | rfl
  · exact src_sl hu
  · exact src_tsl hu

/-- the facts of types that append asks for -/
structure AppTy (P : Prg) (st elem : TypeId) (te : TI) : Prop where
  sl : ∃ ti, P.ty st = some ti ∧ ti.desc = .slice elem
  el : P.ty elem = some te
  ze : ∃ z, te.zero = some z ∧ te.size ≠ 0 ∧ z.cells.length = te.size ∧ te.bytes ≠ 0

theorem append_core {nm : Nm} {s x : TV} {st elem : TypeId} {te : TI} (h : AppTy C.P st elem te) {m : Nat} {cs : List TV} (hs : srcCells H te.agg te.size x = some (m, cs)) (hm : m ≠ 0) (hl : cs.all TV.leaf = true) {r : Option (TV × Heap)}
    (hr : (match s with
              | .nils => if m * te.bytes ≤ maxBytes then some (.ref nm 0 m, [(nm, .arr (elem, te.agg) te.size false cs)]) else none
              | .tsl es => match srcCells H te.agg te.size (.tsl es) with
                | some (n, old) => if (n + m) * te.bytes ≤ maxBytes then some (.ref nm 0 (n + m), [(nm, .arr (elem, te.agg) te.size false (old ++ cs))]) else none
                | none => none
              | .ref k 0 len => match refOk H k 0 len with
                | some (g, e, fz, old) => if e = te.size ∧ g.1 = elem ∧ (len + m) * te.bytes ≤ maxBytes then some (.ref k 0 (len + m), [(k, .arr g e fz (old ++ cs))]) else none
                | none => none
              | _ => none : Option (TV × Heap)) = r) : appendT C.P nm H st st s x = r := by
  obtain ⟨⟨ti, h1, h2⟩, h3, z, h4, h5, h6, h7⟩ := h
  have hc : ¬ (te.size = 0 ∨ z.cells.length ≠ te.size ∨ te.bytes = 0) := by
    rintro (h | h | h)
    · exact h5 h
    · exact h h6
    · exact h7 h
  unfold appendT
  simp only [tyOf, h1, h2, h3, h4, if_neg hc, hs, if_neg hm, hl, if_true]
  exact hr

theorem d_appN {x y : Operand} {st elem : TypeId} {te : TI} {v : TV} {es : List Tree} (h : AppTy C.P st elem te) (hx : rhoS C n sp x = some .nils) (hy : rhoS C n sp y = some v) (hv : isSrc v es) (hu : Uni te.agg te.size es) (hne : es ≠ []) (hb : es.length * te.bytes ≤ maxBytes) :
    Does C ev f H n sp t d (.call ⟨.builtin .append, #[x, y], #[st, st]⟩) (.ref (.loc [t]) 0 es.length) [(.loc [t], .arr (elem, te.agg) te.size false ((flat es).map .t))] := by
  refine d_builtin (vs := [.nils, v]) (by simp only [rhosS, hx, hy]) ?_
  show appendT C.P (.loc [t]) H st st (.nils) v = _
  exact append_core h (src_of hv hu) (by simpa using hne) hu.flat_leaf (by simp only [if_pos hb])

theorem d_appG {x y : Operand} {st elem : TypeId} {te : TI} {v : TV} {es : List Tree} (h : AppTy C.P st elem te) (hx : rhoS C n sp x = some (.tsl [])) (hy : rhoS C n sp y = some v) (hv : isSrc v es) (hu : Uni te.agg te.size es) (hne : es ≠ []) (hb : es.length * te.bytes ≤ maxBytes) :
    Does C ev f H n sp t d (.call ⟨.builtin .append, #[x, y], #[st, st]⟩) (.ref (.loc [t]) 0 es.length) [(.loc [t], .arr (elem, te.agg) te.size false ((flat es).map .t))] := by
  refine d_builtin (vs := [.tsl [], v]) (by simp only [rhosS, hx, hy]) ?_
  show appendT C.P (.loc [t]) H st st (.tsl []) v = _
  refine append_core h (src_of hv hu) (by simpa using hne) hu.flat_leaf ?_
  have e : srcCells H te.agg te.size (.tsl []) = some (0, []) := rfl
  simp only [e, Nat.zero_add, if_pos hb, List.nil_append]

/-- onto a tight row: a new one -/
theorem d_appT {x y : Operand} {st elem : TypeId} {te : TI} {v : TV} {es fs : List Tree} (h : AppTy C.P st elem te) (hx : rhoS C n sp x = some (.tsl fs)) (hy : rhoS C n sp y = some v) (hv : isSrc v es) (hu : Uni te.agg te.size es) (hf : Uni te.agg te.size fs) (hne : es ≠ []) (hb : (fs.length + es.length) * te.bytes ≤ maxBytes) :
    Does C ev f H n sp t d (.call ⟨.builtin .append, #[x, y], #[st, st]⟩) (.ref (.loc [t]) 0 (fs.length + es.length)) [(.loc [t], .arr (elem, te.agg) te.size false ((flat (fs ++ es)).map .t))] := by
  refine d_builtin (vs := [.tsl fs, v]) (by simp only [rhosS, hx, hy]) ?_
  show appendT C.P (.loc [t]) H st st (.tsl fs) v = _
  refine append_core h (src_of hv hu) (by simpa using hne) hu.flat_leaf ?_
  simp only [src_tsl hf, if_pos hb, flat, List.flatMap_append, List.map_append]

theorem d_appR {x y : Operand} {st elem : TypeId} {te : TI} {v : TV} {k : Nm} {fz : Bool} {len : Nat} {es fs : List Tree} (h : AppTy C.P st elem te) (hx : rhoS C n sp x = some (.ref k 0 len)) (hy : rhoS C n sp y = some v) (hv : isSrc v es)
    (hk : H.get k = some (.arr (elem, te.agg) te.size fz ((flat fs).map .t))) (hl : len = fs.length) (hf : Uni te.agg te.size fs) (hu : Uni te.agg te.size es) (hne : es ≠ []) (hb : (len + es.length) * te.bytes ≤ maxBytes) :
    Does C ev f H n sp t d (.call ⟨.builtin .append, #[x, y], #[st, st]⟩) (.ref k 0 (len + es.length)) [(k, .arr (elem, te.agg) te.size fz ((flat (fs ++ es)).map .t))] := by
  refine d_builtin (vs := [.ref k 0 len, v]) (by simp only [rhosS, hx, hy]) ?_
  show appendT C.P (.loc [t]) H st st (.ref k 0 len) v = _
  refine append_core h (src_of hv hu) (by simpa using hne) hu.flat_leaf ?_
  have hz : te.size ≠ 0 := by obtain ⟨_, _, z, _, h5, _⟩ := h; exact h5
  have h2 : refOk H k 0 len = some ((elem, te.agg), te.size, fz, (flat fs).map .t) := by
    unfold refOk
    simp only [hk]
    rw [if_pos ⟨by omega, by rw [Nat.zero_add, hl, hf.length]⟩]
  simp only [h2, hb, and_self, if_true, flat, List.flatMap_append, List.map_append]

/-- nothing is appended -/
theorem d_app0 {x y : Operand} {st elem : TypeId} {te : TI} {s v : TV} (h : AppTy C.P st elem te) (hx : rhoS C n sp x = some s) (hy : rhoS C n sp y = some v) (hv : isSrc v [] ∨ v = .nils) (hs : s = .nils ∨ (∃ es, s = .t (.sl es)) ∨ ∃ es, s = .tsl es) :
    Does C ev f H n sp t d (.call ⟨.builtin .append, #[x, y], #[st, st]⟩) s [] := by
  refine d_builtin (vs := [s, v]) (by simp only [rhosS, hx, hy]) ?_
  obtain ⟨⟨ti, h1, h2⟩, h3, z, h4, h5, h6, h7⟩ := h
  have hc : ¬ (te.size = 0 ∨ z.cells.length ≠ te.size ∨ te.bytes = 0) := by
    rintro (h | h | h)
    · exact h5 h
    · exact h h6
    · exact h7 h
  have hsrc : srcCells H te.agg te.size v = some (0, []) := by
    rcases hv with (rfl | rfl) | rfl <;> rfl
  show appendT C.P (.loc [t]) H st st s v = some (s, [])
  unfold appendT
  simp only [tyOf, h1, h2, h3, h4, if_neg hc, hsrc, if_true]
  rcases hs with rfl | ⟨es, rfl⟩ | ⟨es, rfl⟩ <;> rfl

/-! ### Literals of slices -/
theorem d_lit0 {ty elem : TypeId} {ti te : TI} {z : TV} (ha : d.any (C.asArr f) = false) (ht : C.P.ty ty = some ti) (hd : ti.desc = .slice elem) (hte : C.P.ty elem = some te) (hz : te.zero = some z) (hc : (decide (0 < te.size) && decide (z.cells.length = te.size) && z.cells.all TV.leaf) = true) :
    Does C ev f H n sp t d (.buildSlice ty 0 #[]) (.tsl []) [] := fun _ _ _ _ => by
  simp only [Bool.and_eq_true, decide_eq_true_eq] at hc
  obtain ⟨⟨h1, h2⟩, h3⟩ := hc
  have hcond : 0 < te.size ∧ 0 * te.size ≤ 16777216 ∧ z.cells.length = te.size ∧ z.cells.all TV.leaf = true := ⟨h1, by omega, h2, h3⟩
  simp only [execT, evalOp, partsT, buildSliceT, tyOf, ht, hd, hte, hz, if_pos hcond, reps, fillT, ha, allT, Option.bind_some, chunk, List.isEmpty_nil, if_true]

/-- a list of one -/
theorem d_lit1 {ty elem : TypeId} {ti te : TI} {z : TV} {x : Operand} {e : Tree} (hx : rhoS C n sp x = some (.t e)) (ha : d.any (C.asArr f) = false) (ht : C.P.ty ty = some ti) (hd : ti.desc = .slice elem) (hte : C.P.ty elem = some te) (hz : te.zero = some z)
    (hc : (decide (0 < te.size) && decide (1 * te.size ≤ 16777216) && decide (z.cells.length = te.size) && z.cells.all TV.leaf) = true) (he : EOk te.agg te.size e) : Does C ev f H n sp t d (.buildSlice ty 1 #[(0, x)]) (.tsl [e]) [] := fun _ _ _ _ => by
  simp only [Bool.and_eq_true, decide_eq_true_eq] at hc
  obtain ⟨⟨⟨h1, h1b⟩, h2⟩, h3⟩ := hc
  obtain ⟨e1, e2, e3⟩ := he
  have hcond : 0 < te.size ∧ 1 * te.size ≤ 16777216 ∧ z.cells.length = te.size ∧ z.cells.all TV.leaf = true := ⟨h1, h1b, h2, h3⟩
  have hcells : (TV.t e).cells = e.cells.map .t := by cases e <;> rfl
  have hl : ((TV.t e).cells).all TV.leaf = true := by
    rw [hcells, List.all_map]
    exact e2
  have hfill : fillT (fun i => some (i * te.size, te.size)) (reps 1 z.cells) [(0, .t e)] = some (e.cells.map .t) := by
    have hcc : (TV.t e).cells.length = te.size ∧ 0 * te.size + te.size ≤ (reps 1 z.cells).length ∧ (TV.t e).cells.all TV.leaf = true := ⟨by rw [hcells, List.length_map, e1], by simp [reps, h2], hl⟩
    show (if (TV.t e).cells.length = te.size ∧ 0 * te.size + te.size ≤ (reps 1 z.cells).length ∧ (TV.t e).cells.all TV.leaf = true then some (setRange (reps 1 z.cells) (0 * te.size) (TV.t e).cells) else none) = _
    rw [if_pos hcc, hcells, Nat.zero_mul]
    congr 1
    unfold setRange
    simp only [List.take_zero, List.nil_append, Nat.zero_add, List.length_map, e1]
    rw [List.drop_of_length_le (by simp [reps, h2]), List.append_nil]
  have hch : chunk te.agg te.size 1 e.cells = some [e] := by
    have := chunk_flat (ag := te.agg) h1 (es := [e]) (Uni.cons ⟨e1, e2, e3⟩ .nil)
    simpa [flat] using this
  have hp : partsT C (frm n sp) (#[(0, x)] : Array (Nat × Operand)).toList = some [(0, .t e)] := by simp only [partsT, rhoS_ok hx]
  simp only [execT, evalOp, hp, buildSliceT, tyOf, ht, hd, hte, hz, if_pos hcond, hfill, ha, allT_map, Option.bind_some, hch]

/-! ### Literals of structs -/
def bld (P : Prg) (t : TypeId) : Option (List TV × List (Nat × Nat)) := match tyOf P t with
  | some ti => match ti.zero, ti.desc with
    | some z, .struct fs => match fieldPlaces P fs.toList with
      | some ps => some (z.cells, ps)
      | none => none
    | _, _ => none
  | none => none

def partsS (C : Cfg) (n : Nat) (sp : List (Nat × TV)) : List (Nat × Operand) → Option (List (Nat × TV))
  | [] => some []
  | (i, x) :: r => match rhoS C n sp x, partsS C n sp r with
    | some v, some vs => some ((i, v) :: vs)
    | _, _ => none

theorem partsS_ok : ∀ {l : List (Nat × Operand)} {vs : List (Nat × TV)}, partsS C n sp l = some vs → partsT C (frm n sp) l = some vs
  | [], _, h => h
  | (i, x) :: r, vs, h => by
    simp only [partsS] at h
    cases h1 : rhoS C n sp x <;> cases h2 : partsS C n sp r <;> simp only [h1, h2, reduceCtorEq] at h
    simp only [partsT, rhoS_ok h1, partsS_ok h2]
    exact h

theorem d_build {ty : TypeId} {ps : Array (Nat × Operand)} {parts : List (Nat × TV)} {zs cs : List TV} {pl : List (Nat × Nat)} {v : TV} (hp : partsS C n sp ps.toList = some parts) (hb : bld C.P ty = some (zs, pl)) (hf : fillT (fun i => pl[i]?) zs parts = some cs) (hv : mkAgg cs = v) :
    Does C ev f H n sp t d (.build ty ps) v [] := fun _ _ _ _ => by
  unfold bld at hb
  split at hb <;> try (simp at hb; done)
  rename_i ti hti
  split at hb <;> try (simp at hb; done)
  rename_i z fs hz hd
  split at hb <;> try (simp at hb; done)
  rename_i q hq
  simp at hb
  obtain ⟨rfl, rfl⟩ := hb
  simp only [execT, evalOp, partsS_ok hp, buildT, hti, hz, hd, hq, hf, hv, noU, Option.map_some]

theorem d_neI0 {ty r2 : TypeId} {x y : Operand} {k : IntKind} {a : Int} (h : rhoS C n sp x = some (.t (.int k a))) (h2 : rhoS C n sp y = some (.t (.int k a))) : Does C ev f H n sp t d (.binOp .neq ty x y r2) (.t (.bool false)) [] := d_int h h2 (by simp [intT])
theorem d_neS0 {ty r2 : TypeId} {x y : Operand} {a : List UInt8} (h : rhoS C n sp x = some (.t (.str a))) (h2 : rhoS C n sp y = some (.t (.str a))) : Does C ev f H n sp t d (.binOp .neq ty x y r2) (.t (.bool false)) [] := d_bin h h2 (by simp [binT, strT])
theorem d_eqS0 {ty r2 : TypeId} {x y : Operand} {a : List UInt8} (h : rhoS C n sp x = some (.t (.str a))) (h2 : rhoS C n sp y = some (.t (.str a))) : Does C ev f H n sp t d (.binOp .eql ty x y r2) (.t (.bool true)) [] := d_bin h h2 (by simp [binT, strT])

theorem take_snoc {l : List Tree} {i : Nat} {e : Tree} (h : l[i]? = some e) : l.take (i + 1) = l.take i ++ [e] := by
  obtain ⟨h1, rfl⟩ := List.getElem?_eq_some_iff.1 h
  exact (List.take_append_getElem h1).symm

/-! ### The end of a function -/
theorem fin_data {fn : Func} {st : St} {vs : List TV} {x : Tree} {ks : List Nm} (hr : resultT C st fn.results.toList = some vs) (hf : frz st.H frzFuel (oneOr vs) = some (x, ks)) : finish C fn 0 st = some (.ret (.t x) [] []) := by
  unfold finish
  simp only [hr, hf, objsAt, TV.names, List.flatMap_nil, List.append_nil]
  rfl

theorem reach_row {H : Heap} {m : Nat} {k : Nm} {g : TypeId × Bool} {esz : Nat} {fz : Bool} {ts : List Tree} (hk : H.get k = some (.arr g esz fz (ts.map .t))) : reach H (m + 2) [] [k] = some [k] := by
  have h1 : ¬ k ∈ ([] : List Nm) := by simp
  simp only [reach, if_neg h1, hk, AObj.names, names_trees, List.append_nil, List.nil_append]

/-- a row of its own -/
theorem fin_ref {fn : Func} {st : St} {k : Nm} {o len : Nat} {g : TypeId × Bool} {esz : Nat} {fz : Bool} {ts : List Tree} (hr : resultT C st fn.results.toList = some [.ref k o len]) (hk : st.H.get k = some (.arr g esz fz (ts.map .t))) (hl : k.isLoc = true) :
    finish0 C fn 0 st = some (.ret (.ref k o len) [] [(k, .arr g esz fz (ts.map .t))]) := by
  unfold finish0
  simp only [hr, objsAt, oneOr, TV.names, List.flatMap_nil, List.append_nil]
  rw [show reachFuel = 3998 + 2 from rfl, reach_row hk]
  simp only [newsAt, hl, if_true, hk, Option.map_some]

theorem reach_two {H : Heap} {m : Nat} {k k2 : Nm} {g g2 : TypeId × Bool} {esz esz2 : Nat} {fz fz2 : Bool} {ts ts2 : List Tree} (hk : H.get k = some (.arr g esz fz (ts.map .t))) (hk2 : H.get k2 = some (.arr g2 esz2 fz2 (ts2.map .t))) (hne : (decide (k2 = k)) = false) :
    reach H (m + 3) [] [k, k2] = some [k, k2] := by
  have hne : ¬ k2 = k := by simpa using hne
  have h1 : ¬ k ∈ ([] : List Nm) := by simp
  have h2 : ¬ k2 ∈ ([k] : List Nm) := by simpa using hne
  simp only [reach, if_neg h1, hk, AObj.names, names_trees, List.append_nil, List.nil_append, if_neg h2, hk2, List.cons_append]

theorem reach_rowF {H : Heap} {k : Nm} {g : TypeId × Bool} {esz : Nat} {fz : Bool} {ts : List Tree} (hk : H.get k = some (.arr g esz fz (ts.map .t))) : reach H reachFuel [] [k] = some [k] := by
  rw [show reachFuel = 3998 + 2 from rfl, reach_row hk]
theorem reach_twoF {H : Heap} {k k2 : Nm} {g g2 : TypeId × Bool} {esz esz2 : Nat} {fz fz2 : Bool} {ts ts2 : List Tree} (hk : H.get k = some (.arr g esz fz (ts.map .t))) (hk2 : H.get k2 = some (.arr g2 esz2 fz2 (ts2.map .t))) (hne : (decide (k2 = k)) = false) :
    reach H reachFuel [] [k, k2] = some [k, k2] := by
  rw [show reachFuel = 3997 + 3 from rfl, reach_two hk hk2 hne]

/-- a cell of an array of data is written -/
def setT (ts : List Tree) (off : Nat) (c : Tree) : List Tree := ts.take off ++ [c] ++ ts.drop (off + 1)
theorem set_map {ts : List Tree} {off : Nat} {c : Tree} : setRange (ts.map .t) off [.t c] = (setT ts off c).map .t := by
  simp only [setRange, setT, List.map_append, List.map_take, List.map_drop, List.map_cons, List.map_nil, List.length_cons, List.length_nil, Nat.zero_add]
theorem set_len {ts : List Tree} {off : Nat} {c : Tree} (h : off < ts.length) : (setT ts off c).length = ts.length := by
  simp only [setT, List.length_append, List.length_take, List.length_drop, List.length_cons, List.length_nil]
  omega

/-- whatever has rows of its own -/
theorem fin_names {fn : Func} {st : St} {vs : List TV} {v : TV} {L : List Nm} {news : Heap} (hr : resultT C st fn.results.toList = some vs) (hv : oneOr vs = v) (hn : v.names = L) (hR : reach st.H reachFuel [] L = some L) (hnew : newsAt st.H L = some news) :
    finish0 C fn 0 st = some (.ret v [] news) := by
  subst hv
  unfold finish0
  simp only [hr, objsAt, List.flatMap_nil, List.append_nil, hn, hR, hnew, Option.map_some]

/-! ### Calls that make rows -/
theorem callT_news {g : FuncId} {ts : List Tree} {v v' : TV} {news news' : Heap} (he : ev g (ts.map .t) [] = some (.ret v [] news)) (hv : v.rn (sOut [] t) = some v') (hn : newsOut [] t news = some news') : callT ev H g (ts.map .t) t = some (.val v' news') := by
  unfold callT
  simp only [frzArgs_trees, names_trees]
  have h1 : reach (H.puts (frozenU H [])) reachFuel [] [] = some [] := rfl
  rw [h1]
  simp only [List.nodup_nil, if_true, rnL_trees, objsIn, he, hv, hn, objsOut]
  rfl

theorem d_callN {g : FuncId} {args : Array Operand} {ats : Array TypeId} {ts : List Tree} {v v' : TV} {news news' : Heap} (h : rhosS C n sp args.toList = some (ts.map .t)) (he : ev g (ts.map .t) [] = some (.ret v [] news)) (hv : v.rn (sOut [] t) = some v') (hn : newsOut [] t news = some news') :
    Does C ev f H n sp t d (.call ⟨.value (.func g), args, ats⟩) v' news' :=
  d_call (callee_func h) (callT_news he hv hn)

theorem news_row {p : List Nat} {g : TypeId × Bool} {esz : Nat} {fz : Bool} {ts : List Tree} : newsOut [] t [(.loc p, .arr g esz fz (ts.map .t))] = some [(.loc (t :: p), .arr g esz fz (ts.map .t))] := by
  simp only [newsOut, sOut, AObj.rn, rnL_trees, Option.map_some]

theorem rn_row {σ : Nm → Option Nm} {g : TypeId × Bool} {esz : Nat} {fz : Bool} {ts : List Tree} : AObj.rn σ (.arr g esz fz (ts.map .t)) = some (.arr g esz fz (ts.map .t)) := by
  simp only [AObj.rn, rnL_trees, Option.map_some]
theorem rn_row_eq {σ : Nm → Option Nm} {g : TypeId × Bool} {esz : Nat} {fz : Bool} {cs : List TV} {ts : List Tree} (h : cs = ts.map .t) : AObj.rn σ (.arr g esz fz cs) = some (.arr g esz fz (ts.map .t)) := by
  subst h; exact rn_row

/-- a struct with a row of its own in its third cell -/
theorem frz_part {H : Heap} {a b c : Tree} {k : Nm} {g : TypeId} {ag fz : Bool} {sz : Nat} {es : List Tree} (hk : H.get k = some (.arr (g, ag) sz fz ((flat es).map .t))) (hu : Uni ag sz es) (hz : 0 < sz) :
    frz H frzFuel (oneOr [.agg [.t a, .t b, .ref k 0 es.length, .t c]]) = some (.agg [a, b, .sl es, c], [k]) := by
  have h : frz H (22 + 1) (.ref k 0 es.length) = some (.sl es, [k]) := frz_row hk hu hz rfl
  show (match frzs (frz H (22 + 1)) [.t a, .t b, .ref k 0 es.length, .t c] with | some (ts, ks) => some (Tree.agg ts, ks) | none => none) = _
  simp only [frzs, h, frz_tree, List.nil_append, List.append_nil]

theorem frz_part' {H : Heap} {a b c : Tree} {k : Nm} {g : TypeId} {ag fz : Bool} {sz len : Nat} {es es' : List Tree} (hk : H.get k = some (.arr (g, ag) sz fz ((flat es).map .t))) (hu : Uni ag sz es) (hz : 0 < sz) (hl : len = es.length) (he : es = es') :
    frz H frzFuel (oneOr [.agg [.t a, .t b, .ref k 0 len, .t c]]) = some (.agg [a, b, .sl es', c], [k]) := by
  subst hl; subst he
  exact frz_part hk hu hz

theorem frz_row' {H : Heap} {n : Nat} {k : Nm} {g : TypeId} {ag fz : Bool} {sz len : Nat} {es es' : List Tree} (hk : H.get k = some (.arr (g, ag) sz fz ((flat es).map .t))) (hu : Uni ag sz es) (hz : 0 < sz) (hl : len = es.length) (he : es = es') :
    frz H (n + 1) (.ref k 0 len) = some (.sl es', [k]) := by
  subst he
  exact frz_row hk hu hz hl

theorem frz_par {H : Heap} {a c : Tree} {k : Nm} {g : TypeId} {ag fz : Bool} {sz : Nat} {es : List Tree} (hk : H.get k = some (.arr (g, ag) sz fz ((flat es).map .t))) (hu : Uni ag sz es) (hz : 0 < sz) :
    frz H frzFuel (oneOr [.agg [.t a, .ref k 0 es.length, .t c]]) = some (.agg [a, .sl es, c], [k]) := by
  have h : frz H (22 + 1) (.ref k 0 es.length) = some (.sl es, [k]) := frz_row hk hu hz rfl
  show (match frzs (frz H (22 + 1)) [.t a, .ref k 0 es.length, .t c] with | some (ts, ks) => some (Tree.agg ts, ks) | none => none) = _
  simp only [frzs, h, frz_tree, List.nil_append, List.append_nil]

theorem frz_act1 {H : Heap} {a c : Tree} {k : Nm} {g : TypeId} {ag fz : Bool} {sz : Nat} {es : List Tree} (hk : H.get k = some (.arr (g, ag) sz fz ((flat es).map .t))) (hu : Uni ag sz es) (hz : 0 < sz) :
    frz H frzFuel (oneOr [.agg [.t a, .ref k 0 es.length, .tsl [], .t c]]) = some (.agg [a, .sl es, .sl [], c], [k]) := by
  have h : frz H (22 + 1) (.ref k 0 es.length) = some (.sl es, [k]) := frz_row hk hu hz rfl
  have h2 : frz H (22 + 1) (.tsl []) = some (.sl [], []) := rfl
  show (match frzs (frz H (22 + 1)) [.t a, .ref k 0 es.length, .tsl [], .t c] with | some (ts, ks) => some (Tree.agg ts, ks) | none => none) = _
  simp only [frzs, h, h2, frz_tree, List.nil_append, List.append_nil]

theorem frz_act2 {H : Heap} {a c : Tree} {k : Nm} {g : TypeId} {ag fz : Bool} {sz : Nat} {es : List Tree} (hk : H.get k = some (.arr (g, ag) sz fz ((flat es).map .t))) (hu : Uni ag sz es) (hz : 0 < sz) :
    frz H frzFuel (oneOr [.agg [.t a, .tsl [], .ref k 0 es.length, .t c]]) = some (.agg [a, .sl [], .sl es, c], [k]) := by
  have h : frz H (22 + 1) (.ref k 0 es.length) = some (.sl es, [k]) := frz_row hk hu hz rfl
  have h2 : frz H (22 + 1) (.tsl []) = some (.sl [], []) := rfl
  show (match frzs (frz H (22 + 1)) [.t a, .tsl [], .ref k 0 es.length, .t c] with | some (ts, ks) => some (Tree.agg ts, ks) | none => none) = _
  simp only [frzs, h, h2, frz_tree, List.nil_append, List.append_nil]

theorem frz_act12 {H : Heap} {a c : Tree} {k k2 : Nm} {g g2 : TypeId} {ag fz ag2 fz2 : Bool} {sz sz2 : Nat} {es es2 : List Tree} (hk : H.get k = some (.arr (g, ag) sz fz ((flat es).map .t))) (hk2 : H.get k2 = some (.arr (g2, ag2) sz2 fz2 ((flat es2).map .t))) (hu : Uni ag sz es) (hu2 : Uni ag2 sz2 es2) (hz : 0 < sz ∧ 0 < sz2) :
    frz H frzFuel (oneOr [.agg [.t a, .ref k 0 es.length, .ref k2 0 es2.length, .t c]]) = some (.agg [a, .sl es, .sl es2, c], [k, k2]) := by
  have h : frz H (22 + 1) (.ref k 0 es.length) = some (.sl es, [k]) := frz_row hk hu hz.1 rfl
  have h2 : frz H (22 + 1) (.ref k2 0 es2.length) = some (.sl es2, [k2]) := frz_row hk2 hu2 hz.2 rfl
  show (match frzs (frz H (22 + 1)) [.t a, .ref k 0 es.length, .ref k2 0 es2.length, .t c] with | some (ts, ks) => some (Tree.agg ts, ks) | none => none) = _
  simp only [frzs, h, h2, frz_tree, List.nil_append, List.append_nil, List.cons_append]

theorem frz_sc1 {H : Heap} {k : Nm} {g : TypeId} {ag fz : Bool} {sz len : Nat} {es es' : List Tree} (hk : H.get k = some (.arr (g, ag) sz fz ((flat es).map .t))) (hu : Uni ag sz es) (hz : 0 < sz) (hl : len = es.length) (he : es = es') :
    frz H frzFuel (oneOr [.agg [.ref k 0 len, .nils]]) = some (.agg [.sl es', .sl []], [k]) := by
  subst he
  have h : frz H (22 + 1) (.ref k 0 len) = some (.sl es, [k]) := frz_row hk hu hz hl
  have h2 : frz H (22 + 1) .nils = some (.sl [], []) := rfl
  show (match frzs (frz H (22 + 1)) [.ref k 0 len, .nils] with | some (ts, ks) => some (Tree.agg ts, ks) | none => none) = _
  simp only [frzs, h, h2, List.append_nil]

theorem frz_sc2 {H : Heap} {k : Nm} {g : TypeId} {ag fz : Bool} {sz len : Nat} {es es' : List Tree} (hk : H.get k = some (.arr (g, ag) sz fz ((flat es).map .t))) (hu : Uni ag sz es) (hz : 0 < sz) (hl : len = es.length) (he : es = es') :
    frz H frzFuel (oneOr [.agg [.nils, .ref k 0 len]]) = some (.agg [.sl [], .sl es'], [k]) := by
  subst he
  have h : frz H (22 + 1) (.ref k 0 len) = some (.sl es, [k]) := frz_row hk hu hz hl
  have h2 : frz H (22 + 1) .nils = some (.sl [], []) := rfl
  show (match frzs (frz H (22 + 1)) [.nils, .ref k 0 len] with | some (ts, ks) => some (Tree.agg ts, ks) | none => none) = _
  simp only [frzs, h, h2, List.append_nil, List.nil_append]

theorem frz_sc12 {H : Heap} {k k2 : Nm} {g g2 : TypeId} {ag fz ag2 fz2 : Bool} {sz len sz2 len2 : Nat} {es es' es2 es2' : List Tree} (hk : H.get k = some (.arr (g, ag) sz fz ((flat es).map .t))) (hk2 : H.get k2 = some (.arr (g2, ag2) sz2 fz2 ((flat es2).map .t))) (hu : Uni ag sz es) (hu2 : Uni ag2 sz2 es2)
    (hz : 0 < sz) (hz2 : 0 < sz2) (hl : len = es.length) (hl2 : len2 = es2.length) (he : es = es') (he2 : es2 = es2') :
    frz H frzFuel (oneOr [.agg [.ref k 0 len, .ref k2 0 len2]]) = some (.agg [.sl es', .sl es2'], [k, k2]) := by
  subst he; subst he2
  have h : frz H (22 + 1) (.ref k 0 len) = some (.sl es, [k]) := frz_row hk hu hz hl
  have h2 : frz H (22 + 1) (.ref k2 0 len2) = some (.sl es2, [k2]) := frz_row hk2 hu2 hz2 hl2
  show (match frzs (frz H (22 + 1)) [.ref k 0 len, .ref k2 0 len2] with | some (ts, ks) => some (Tree.agg ts, ks) | none => none) = _
  simp only [frzs, h, h2, List.append_nil, List.cons_append, List.nil_append]

theorem news_row2 {p q : List Nat} {g g2 : TypeId × Bool} {esz esz2 : Nat} {fz fz2 : Bool} {ts ts2 : List Tree} : newsOut [] t [(.loc p, .arr g esz fz (ts.map .t)), (.loc q, .arr g2 esz2 fz2 (ts2.map .t))] = some [(.loc (t :: p), .arr g esz fz (ts.map .t)), (.loc (t :: q), .arr g2 esz2 fz2 (ts2.map .t))] := by
  simp only [newsOut, sOut, AObj.rn, rnL_trees, Option.map_some]

theorem rh1 {x : Operand} {v : Tree} (h : rhoS C n sp x = some (.t v)) : rhosS C n sp [x] = some ([v].map .t) := by
  simp only [rhosS, h]; rfl
theorem rh2 {x y : Operand} {v u : Tree} (h : rhoS C n sp x = some (.t v)) (h2 : rhoS C n sp y = some (.t u)) : rhosS C n sp [x, y] = some ([v, u].map .t) := by
  simp only [rhosS, h, h2]; rfl

/-! ### What callees are told to do -/
open Classical in
def ct1 (P : Tree → Prop) (res : Tree → FRes) : List TV → List AObj → Option FRes := fun as' os => match as', os with
  | [.t x], [] => if P x then some (res x) else none
  | _, _ => none

open Classical in
def ct2 (P : Tree → Tree → Prop) (res : Tree → Tree → FRes) : List TV → List AObj → Option FRes := fun as' os => match as', os with
  | [.t x, .t y], [] => if P x y then some (res x y) else none
  | _, _ => none

def ct0 (r : FRes) : List TV → List AObj → Option FRes := fun as' os => match as', os with
  | [], [] => some r
  | _, _ => none

theorem ct1_ok {g : FuncId} {P : Tree → Prop} {res : Tree → FRes} (h : ∀ x, P x → CallRel C g [.t x] [] (res x)) : FunOk C g (ct1 P res) := by
  intro args objs r hr
  unfold ct1 at hr
  split at hr
  · split at hr
    · rename_i x hp; simp at hr; subst hr; exact h x hp
    · simp at hr
  · simp at hr

theorem ct2_ok {g : FuncId} {P : Tree → Tree → Prop} {res : Tree → Tree → FRes} (h : ∀ x y, P x y → CallRel C g [.t x, .t y] [] (res x y)) : FunOk C g (ct2 P res) := by
  intro args objs r hr
  unfold ct2 at hr
  split at hr
  · split at hr
    · rename_i x y hp; simp at hr; subst hr; exact h x y hp
    · simp at hr
  · simp at hr

theorem ct0_ok {g : FuncId} {r0 : FRes} (h : CallRel C g [] [] r0) : FunOk C g (ct0 r0) := by
  intro args objs r hr
  unfold ct0 at hr
  split at hr
  · simp at hr; subst hr; exact h
  · simp at hr

theorem ct1_at {g : FuncId} {P : Tree → Prop} {res : Tree → FRes} {ev : CallF} {x : Tree} (h : P x) : oneEv g (ct1 P res) ev g [.t x] [] = some (res x) := by
  simp only [oneEv, if_true, ct1, if_pos h]

theorem ct2_at {g : FuncId} {P : Tree → Tree → Prop} {res : Tree → Tree → FRes} {ev : CallF} {x y : Tree} (h : P x y) : oneEv g (ct2 P res) ev g [.t x, .t y] [] = some (res x y) := by
  simp only [oneEv, if_true, ct2, if_pos h]

theorem ct0_at {g : FuncId} {r : FRes} {ev : CallF} : oneEv g (ct0 r) ev g [] [] = some r := by
  simp only [oneEv, if_true, ct0]

theorem ev_there {g k : FuncId} {s : List TV → List AObj → Option FRes} {ev : CallF} {as' : List TV} {os : List AObj} {r : Option FRes} (hne : (k == g) = false) (h : ev k as' os = r) : oneEv g s ev k as' os = r := by
  have : ¬ k = g := by simpa using hne
  simp only [oneEv, if_neg this]
  exact h

/-! ### Rows, as calls hand them back -/
def rowRes (nm : Nm) (el : TypeId) (ag : Bool) (sz : Nat) : Tree → FRes
  | .sl [] => .ret (.t (.sl [])) [] []
  | .sl es => .ret (.ref nm 0 es.length) [] [(nm, .arr (el, ag) sz false ((flat es).map .t))]
  | _ => default

theorem rowRes_ne {nm : Nm} {el : TypeId} {ag : Bool} {sz : Nat} {es : List Tree} (h : es ≠ []) : rowRes nm el ag sz (.sl es) = .ret (.ref nm 0 es.length) [] [(nm, .arr (el, ag) sz false ((flat es).map .t))] := by
  cases es with
  | nil => exact absurd rfl h
  | cons e r => rfl

/-- lists of such elements, not too long -/
def UniP (ag : Bool) (sz : Nat) (x : Tree) : Prop := ∃ es, x = .sl es ∧ Uni ag sz es ∧ es.length ≤ 4194304

theorem row_fun {g : FuncId} {nm : Nm} {el : TypeId} {ag : Bool} {sz : Nat} (h0 : CallRel C g [.t (.sl [])] [] (.ret (.t (.sl [])) [] []))
    (h1 : ∀ es, es ≠ [] → Uni ag sz es → es.length ≤ 4194304 → CallRel C g [.t (.sl es)] [] (.ret (.ref nm 0 es.length) [] [(nm, .arr (el, ag) sz false ((flat es).map .t))])) :
    FunOk C g (ct1 (UniP ag sz) (rowRes nm el ag sz)) := ct1_ok fun x hx => by
  obtain ⟨es, rfl, hu, hl⟩ := hx
  by_cases he : es = []
  · subst he; exact h0
  · rw [rowRes_ne he]; exact h1 es he hu hl

/-- lists as they are -/
theorem data_fun {g : FuncId} {ag : Bool} {sz : Nat} (h0 : CallRel C g [.t (.sl [])] [] (.ret (.t (.sl [])) [] []))
    (h1 : ∀ es, es ≠ [] → Uni ag sz es → es.length ≤ 4194304 → CallRel C g [.t (.sl es)] [] (.ret (.t (.sl es)) [] [])) :
    FunOk C g (ct1 (UniP ag sz) (fun x => .ret (.t x) [] [])) := ct1_ok fun x hx => by
  obtain ⟨es, rfl, hu, hl⟩ := hx
  by_cases he : es = []
  · subst he; exact h0
  · exact h1 es he hu hl

end
end Go.Abs
end
