/- Seat r3: its interpreter, its summaries. -/
import Derived.Test.YtijfhoelihclbaaGreatDoorG
import Derived.Test.YtijfhoelihclbaaGreatDoorH
import Derived.Test.YtijfhoelihclbaaGreatDoorI
import Derived.Test.YtijfhoelihclbaaGreatDoorShelf
import Derived.Test.YtijfhoelihclbaaGreatDoorChecked
import Derived.Tactics2
import Derived.Defers
import Derived.Recover
import Derived.Laws.Pointers
import Derived.Test.YtijfhoelihclbaaGreatDoorF
namespace Go.Proofs.YtijfhoelihclbaaGreatDoor.live
open Go Go.Abs Go.RowKit

noncomputable def prg : Prg := { prog := Tryz.prog, ty := tyOf0 Tryz.prog, fn := fun f => Tryz.prog.funcs[f]?, tyOk := fun _ _ h => h, fnOk := fun _ _ h => h }

noncomputable def rep (n : Nat) (x : Int) : List Tree := List.replicate n (.int .u8 x)
noncomputable def u8s (l : List Int) : List Tree := l.map (.int .u8 ·)
noncomputable def tabFirst : List Tree := rep 128 0xF0 ++ rep 66 0xF1 ++ rep 30 0x02 ++ u8s [0x13] ++ rep 12 0x03 ++ u8s [0x23] ++ rep 2 0x03 ++ u8s [0x34] ++ rep 3 0x04 ++ u8s [0x44] ++ rep 11 0xF1
noncomputable def tabAccept : List Tree := u8s [0x80,0xBF, 0xA0,0xBF, 0x80,0x9F, 0x90,0xBF, 0x80,0x8F] ++ rep 22 0
noncomputable def tabAscii : List Tree := rep 9 0 ++ rep 5 1 ++ rep 18 0 ++ rep 1 1 ++ rep 223 0

noncomputable def cfg (m : Int) : Cfg := { P := prg, glob := fun | 0 => some tabFirst | 1 => some tabAccept | 2 => some tabAscii | 4 => some [.int .i64 m] | _ => none, asArr := fun _ _ => false }

/-- what is told ahead of the words -/
noncomputable def ext0 (m : Int) : Ext := fun | 203 => some (extCopy 251) | 188 => some (extString 5) | 199 => some extIndex | 185 => some extIndexByte | 88 => some (extTry (cfg m) 184) | _ => none
/-- what is told -/
noncomputable def ext (m : Int) : Ext := fun | 203 => some (extCopy 251) | 188 => some (extString 5) | 199 => some extIndex | 185 => some extIndexByte | 88 => some (extTry (cfg m) 184) | 70 => some (extTab wordsTab) | _ => none

theorem en (f : FuncId) (fn : Func) (h : Tryz.prog.funcs[f]? = some fn) (hn : (fn.name == "runtime.NumGoroutine") = false) (c : Code) (hb : fn.body = some c) (args : Array Value) (w : World) :
    (callFunc f args).run Tryz.prog w = .ok (.enter f args) w := by
  have h1 : fn.name ≠ "runtime.NumGoroutine" := by simpa using hn
  simp [callFunc, h, h1, hb, mark]

theorem en_copy (args : Array Value) (w : World) : (callFunc 203 args).run Tryz.prog w = .ok (.enter 203 args) w := en 203 Tryz.f203 Tryz.func203 (by kernel_rfl) _ rfl args w
theorem en_str (args : Array Value) (w : World) : (callFunc 188 args).run Tryz.prog w = .ok (.enter 188 args) w := en 188 Tryz.f188 Tryz.func188 (by kernel_rfl) _ rfl args w
theorem en_idx (args : Array Value) (w : World) : (callFunc 199 args).run Tryz.prog w = .ok (.enter 199 args) w := en 199 Tryz.f199 Tryz.func199 (by kernel_rfl) _ rfl args w
theorem en_ixb (args : Array Value) (w : World) : (callFunc 185 args).run Tryz.prog w = .ok (.enter 185 args) w := en 185 Tryz.f185 Tryz.func185 (by kernel_rfl) _ rfl args w
theorem en_try (args : Array Value) (w : World) : (callFunc 88 args).run Tryz.prog w = .ok (.enter 88 args) w := en 88 Tryz.f88 Tryz.func88 (by kernel_rfl) _ rfl args w

/-! ### Try -/
set_option maxRecDepth 100000

theorem catch_panicking (p : Addr) (pv : Value) (older : List PanicEntry) (w : World) (hc : w.cell? p = some (.bool false)) (hz : w.frozen? p = false) :
    CallsD Tryz.prog 120 #[.pointer (some p)] (.panicking ({ v := .iface 184 pv, recovered := false } :: older)) w fun e u' w' =>
      e = .returned (.tuple #[]) ∧ u' = .panicking ({ v := .iface 184 pv, recovered := true } :: older) ∧ w' = w.setCell p (.bool false) := by
  refine callsD_of_wpS Tryz.func120 rfl fun c₀ cs hu => ?_
  apply wpS_seq
  apply wpS_region
  simp [wpOpsS, go_sem, recoverD, hu, Tryz.ntmps120, Exit.thenS]
  show Code.wpS Tryz.prog _ _ { tmps := #[Value.pointer (some p), Value.iface 184 pv, Value.iface 184 pv, undef, undef, undef, undef], defers := [] } _ _
  refine wpS_of_wp ?_
  have hta : ∀ w, (Instr.typeAssert (.iface 184 pv) 20 184 false).run Tryz.prog w = .ok pv w := by
    intro w
    simp [Instr.typeAssert, run_underlying Tryz.underlying184, go_sem, Result.andThen]
  go_wp2
  exact ⟨rfl, .panicking ({ v := Value.iface 184 pv, recovered := true } :: older), rfl, .tuple #[], results_none rfl _ _ _, rfl, rfl, rfl⟩

theorem catch_idle (p : Addr) (w : World) :
    CallsD Tryz.prog 120 #[.pointer (some p)] .returning w fun e u' w' => e = .returned (.tuple #[]) ∧ u' = .returning ∧ w' = w := by
  refine callsD_of_wpS Tryz.func120 rfl fun c₀ cs hu => ?_
  apply wpS_seq
  apply wpS_region
  simp [wpOpsS, go_sem, recoverD, hu, Tryz.ntmps120, Exit.thenS]
  show Code.wpS Tryz.prog _ _ { tmps := #[Value.pointer (some p), Value.nilIface, Value.nilIface, undef, undef, undef, undef], defers := [] } _ _
  refine wpS_of_wp ?_
  go_wp2
  exact ⟨rfl, .returning, by cases c₀; simp_all, .tuple #[], results_none rfl _ _ _, rfl, rfl, rfl⟩

theorem try_enter (rv : Value) (f : FuncId) (fs cs : Array Value) (w : World) (R : Ending → World → Prop)
    (hen : ∀ args w, (callFunc f args).run Tryz.prog w = .ok (.enter f args) w)
    (hcall : Calls Tryz.prog f (fs ++ cs) (w.alloc (.cells #[.bool false] 4)) R)
    (hR : ∀ e w', R e w' → w'.cell? ⟨w.heap.size, 0, none⟩ = some (.bool false) ∧ w'.frozen? ⟨w.heap.size, 0, none⟩ = false ∧ ((∃ v, e = .returned v) ∨ ∃ pv, e = .panicked [{ v := .iface 184 pv, recovered := false }])) :
    Calls Tryz.prog 88 #[rv, .func (.func f) fs cs] w fun e w' => ∃ e' w2, R e' w2 ∧
      (((∃ v, e' = .returned v) ∧ e = .returned (.bool true) ∧ w' = w2.setCell ⟨w.heap.size, 0, none⟩ (.bool true)) ∨
       ((∃ pv, e' = .panicked [{ v := .iface 184 pv, recovered := false }]) ∧ e = .returned (.bool false) ∧ w' = w2.setCell ⟨w.heap.size, 0, none⟩ (.bool false))) := by
  have hmf : ∀ (fn : Fn) (first cap : Array Value) (w : World), (Instr.makeFunc fn first cap).run Tryz.prog w = .ok (.func fn first cap) w := fun _ _ _ _ => rfl
  go_enter_defers Tryz.func88, Tryz.ntmps88
  go_wp2
  refine hcall.mono ?_
  intro e w2 hr
  obtain ⟨hc, hz, he⟩ := hR _ _ hr
  rcases he with ⟨v, rfl⟩ | ⟨pv, rfl⟩
  · simp only []
    go_at_K
    go_wp2
    refine leaves_cons (f := 120) (args := #[.pointer (some ⟨w.heap.size, 0, none⟩)]) (by simp) (by simp [go_sem]) ?_
    refine (catch_idle _ _).mono ?_
    rintro e u' w'' ⟨rfl, rfl, rfl⟩
    refine ⟨.bool true, ?_, _, w2, hr, .inl ⟨⟨v, rfl⟩, rfl, rfl⟩⟩
    have hc' : (w2.setCell ⟨w.heap.size, 0, none⟩ (.bool true)).cell? ⟨w.heap.size, 0, none⟩ = some (.bool true) := World.cell?_setCell_same _ _ _ hc
    simp [results, Tryz.f88, Sem.run_bind, go_sem, hc']
  · simp only []
    refine leaves_cons (f := 120) (args := #[.pointer (some ⟨w.heap.size, 0, none⟩)]) (by simp) (by simp [go_sem]) ?_
    refine (catch_panicking _ pv [] _ hc hz).mono ?_
    rintro e u' w'' ⟨rfl, rfl, rfl⟩
    refine ⟨.bool false, ?_, _, w2, hr, .inr ⟨⟨pv, rfl⟩, rfl, rfl⟩⟩
    have hc' : (w2.setCell ⟨w.heap.size, 0, none⟩ (.bool false)).cell? ⟨w.heap.size, 0, none⟩ = some (.bool false) := World.cell?_setCell_same _ _ _ hc
    simp [results, Tryz.f88, Sem.run_bind, go_sem, hc']

theorem str5 (m : Int) : SumOk (cfg m) 188 (extString 5) :=
  extString_ok (C := cfg m) en_str (fun b w h => strNil_walk Tryz.lays169 Tryz.Builder_Extra_169 b w h)
    (fun b a cap cells l w h1 h2 h3 h4 h5 h6 h7 => strRow_walk Tryz.lays169 Tryz.Builder_Extra_169 b a cap cells l w h1 h2 h3 h4 h5 h6 h7)

theorem size76 : (Tryz.prog.info? 251).map (·.size) = some 2 := by kernel_rfl

theorem copy_used (b : Nat) (w : World) (h0 : w.cell? ⟨b, 0, none⟩ = some (.pointer (some ⟨b, 0, none⟩))) :
    Calls Tryz.prog 203 #[.pointer (some ⟨b, 0, none⟩)] w fun e w' => e = .returned (.tuple #[]) ∧ w' = w := by
  obtain ⟨j, hj, _⟩ := Option.map_eq_some_iff.1 size76
  go_enter Tryz.func203, Tryz.ntmps203
  go_wp2
  rw [Lib.run_neq_ptr_same w _ Tryz.underlying249 hj]
  go_wp2
  go_end0
  exact ⟨rfl, rfl⟩

theorem copy_fresh (b : Nat) (w : World) (h0 : w.cell? ⟨b, 0, none⟩ = some (.pointer none)) (hsh : w.shape? b = some (251, 2)) (hfz : w.frozen? ⟨b, 0, none⟩ = false) :
    Calls Tryz.prog 203 #[.pointer (some ⟨b, 0, none⟩)] w fun e w' => e = .returned (.tuple #[]) ∧ w' = w.setCell ⟨b, 0, none⟩ (.pointer (some ⟨b, 0, none⟩)) := by
  obtain ⟨j, hj, hjs⟩ := Option.map_eq_some_iff.1 size76
  go_enter Tryz.func203, Tryz.ntmps203
  go_wp2
  rw [Lib.run_to_unsafe w ⟨b, 0, none⟩ Tryz.underlying249 Tryz.underlying280 hj (by rw [hjs]; decide) hsh (Nat.zero_lt_succ 1)]
  simp only [Result.andThen]
  rw [Oper.upon_value]
  go_wp2
  rw [run_callFunc_extern Tryz.func225 (by kernel_rfl) (by kernel_rfl) (by kernel_rfl) (e := Extern.AbiNoEscape.same) (by kernel_rfl)]
  rw [Lib.run_noEscape]
  simp only [Result.andThen]
  rw [Oper.upon_value]
  go_wp2
  rw [Lib.run_from_unsafe w ⟨b, 0, none⟩ Tryz.underlying280 Tryz.underlying249 hj hsh (by kernel_rfl)]
  simp only [Result.andThen]
  rw [Oper.upon_value]
  go_wp2
  go_end0
  exact ⟨rfl, rfl⟩

theorem copy76 (m : Int) : SumOk (cfg m) 203 (extCopy 251) :=
  extCopy_ok (C := cfg m) en_copy (fun b w h1 h2 h3 => copy_fresh b w h1 h2 h3)
    (fun b w h => copy_used b w h)

theorem index160 (m : Int) : SumOk (cfg m) 199 extIndex :=
  extIndex_ok (C := cfg m) (gm := 4) (m := m) rfl en_idx (fun s sub m w h1 h2 => Tryz.stringslite_Index s sub m w h1 h2)

theorem indexByte146 (m : Int) : SumOk (cfg m) 185 extIndexByte :=
  extIndexByte_ok (C := cfg m) en_ixb (fun s c w => Tryz.stringslite_IndexByte s c w)

theorem try20 (m : Int) : SumOk (cfg m) 88 (extTry (cfg m) 184) :=
  extTry_ok (C := cfg m) (tb := 4) en_try (fun rv f fs cs w R h1 h2 h3 => try_enter rv f fs cs w R h1 h2 h3)

theorem ext0_ok (m : Int) : ExtOk (cfg m) (ext0 m) := extOk_of (by
  intro g s h
  unfold ext0 at h
  split at h <;> first
    | (obtain rfl := Option.some.inj h; first | exact copy76 m | exact str5 m | exact index160 m | exact indexByte146 m | exact try20 m)
    | cases h)

theorem orders (m : Int) : (cfg m).P.prog.follows .mixedOrders = true := by
  show Tryz.prog.follows .mixedOrders = true
  kernel_rfl

end Go.Proofs.YtijfhoelihclbaaGreatDoor.live

noncomputable section
namespace Go.Abs
open Go
set_option linter.unusedVariables false

variable {C : Cfg} {R : Type}

/-- there is an answer that the code comes to -/
abbrev AX (C : Cfg) (c : Code) (st : St) (Q : R → AExit → St → Prop) : Prop := ∃ r, AW C c st (Q r)
abbrev AXo (C : Cfg) (ops : Array Oper) (l : List Oper) (st : St) (Q : R → AExit → St → Prop) : Prop := ∃ r, AWo C ops l st (Q r)
abbrev AXd (C : Cfg) (ev : CallF) (f : FuncId) (ops : Array Oper) (bs : List Nat) (t0 i : Nat) (l : List Oper) (n : Nat) (sp : List (Nat × TV)) (H : Heap) (K : R → List Rec → List (Nat × TV) → Heap → Prop) : Prop :=
  ∃ r, AWd C ev f ops bs t0 i l n sp H (K r)

section code
variable {st : St} {Q : R → AExit → St → Prop}
theorem AX.re {c : Code} {st' : St} (hr : Re C st st') (h : AX C c st' Q) : AX C c st Q := h.imp fun _ h => AW.re hr h
theorem AX.skip (hq : ∃ r, Q r .normal st) : AX C .skip st Q := hq.imp fun _ h => AW.skip h
theorem AX.label {l} (hq : ∃ r, Q r .normal st) : AX C (.label l) st Q := hq.imp fun _ h => AW.label h
theorem AX.exit {id : Nat} (hq : ∃ r, Q r (.exit id) st) : AX C (.exit id) st Q := hq.imp fun _ h => AW.exit h
theorem AX.ret (hq : ∃ r, Q r .ret st) : AX C .ret st Q := hq.imp fun _ h => AW.ret h
theorem AX.seq {x y : Code} (h : AX C x st fun r => Then C y (Q r)) : AX C (.seq x y) st Q := h.imp fun _ h => AW.seq h
theorem AX.block {id : Nat} {c : Code} (h : AX C c st fun r => Out id (Q r)) : AX C (.block id c) st Q := h.imp fun _ h => AW.block h
theorem AX.cond {c : Operand} {x y : Code} {b : Bool} (hc : rhoT C st.slots c = some (.t (.bool b))) (h1 : b = true → AX C x st Q) (h2 : b = false → AX C y st Q) : AX C (.cond c x y) st Q := by
  cases b with
  | true => exact (h1 rfl).imp fun _ h => AW.cond hc (fun _ => h) fun e => by cases e
  | false => exact (h2 rfl).imp fun _ h => AW.cond hc (fun e => by cases e) fun _ => h
theorem AX.region {id : Nat} {ops : Array Oper} (h : AXo C ops ops.toList st Q) : AX C (.region id ops false) st Q := h.imp fun _ h => AW.region h

/-- a loop is left -/
def Leave (Q : AExit → St → Prop) : AExit → St → Prop
  | .normal, _ => False
  | e, s => Q e s

/-- behind a round: another one from y on, or the answer r -/
def RoundX {α : Type} (C : Cfg) (st : α → St) (P : α → Prop) (Q : R → AExit → St → Prop) : {y : α // P y} ⊕ R → AExit → St → Prop
  | .inl y => fun e s => e = .normal ∧ Re C s (st y.1)
  | .inr r => Leave (Q r)

theorem AX.leave {α : Type} {C : Cfg} {st : α → St} {P : α → Prop} {s : St} {e : AExit} (he : e ≠ .normal) (h : ∃ r, Q r e s) : ∃ o, RoundX C st P Q o e s := by
  obtain ⟨r, h⟩ := h
  refine ⟨.inr r, ?_⟩
  cases e with
  | normal => exact absurd rfl he
  | exit i => exact h
  | ret => exact h
  | panic v => exact h

inductive Leads {α : Type} (C : Cfg) (st : α → St) (ok : α → Prop) (μ : α → Nat) (body : Code) (Q : R → AExit → St → Prop) : α → R → Prop
  | more {x y r} (hy : ok y) (hlt : μ y < μ x) (h : AW C body (st x) (fun e s => e = .normal ∧ Re C s (st y))) (k : Leads C st ok μ body Q y r) : Leads C st ok μ body Q x r
  | last {x r} (h : AW C body (st x) (Leave (Q r))) : Leads C st ok μ body Q x r

theorem AX.loop {α : Type} (st : α → St) (ok : α → Prop) (μ : α → Nat) {body : Code} (x0 : α) {s0 : St} (hr : Re C s0 (st x0)) (h0 : ok x0)
    (h : ∀ x, ok x → AX C body (st x) (RoundX C st (fun y => ok y ∧ μ y < μ x) Q)) : AX C (.loop body) s0 Q := by
  have all : ∀ m x, μ x < m → ok x → ∃ r, Leads C st ok μ body Q x r := by
    intro m
    induction m with
    | zero => intro x hx; omega
    | succ m ih =>
      intro x hx hok
      obtain ⟨o, ho⟩ := h x hok
      cases o with
      | inl y =>
        obtain ⟨r, hr⟩ := ih y.1 (by have := y.2.2; omega) y.2.1
        exact ⟨r, .more y.2.1 y.2.2 ho hr⟩
      | inr r => exact ⟨r, .last ho⟩
  obtain ⟨r, hl⟩ := all (μ x0 + 1) x0 (Nat.lt_succ_self _) h0
  refine ⟨r, AW.loop st (fun x => ok x ∧ Leads C st ok μ body Q x r) μ x0 hr ⟨h0, hl⟩ ?_⟩
  rintro x ⟨hok, hx⟩
  cases hx with
  | more hy hlt hb k =>
    refine AW.mono hb ?_
    rintro e s ⟨rfl, hre⟩
    exact ⟨_, ⟨hy, k⟩, hlt, hre⟩
  | last hb =>
    refine AW.mono hb ?_
    intro e s hq
    cases e with
    | normal => exact hq.elim
    | exit i => exact hq
    | ret => exact hq
    | panic v => exact hq
end code

section ops
variable {ev : CallF} {f : FuncId} {ops : Array Oper} {r : List Oper} {n t : Nat} {sp : List (Nat × TV)} {H : Heap} {Q : R → AExit → St → Prop}
theorem AXo.nil {st : St} (hq : ∃ r, Q r .normal st) : AXo C ops [] st Q := hq.imp fun _ h => AWo.nil h
theorem AXo.go {d : Tmp} {op : Op} {ty pos af} {v : TV} {u : Heap} (hev : CallOk C ev) (h : Does C ev f H n sp t (some d) op v u) (k : AXo C ops r ⟨frm n ((d, v) :: sp), H.puts u, t + 1⟩ Q) :
    AXo C ops (⟨some d, op, ty, pos, af, none⟩ :: r) ⟨frm n sp, H, t⟩ Q := k.imp fun _ k => AWo.go hev h k
theorem AXo.go0 {op : Op} {ty pos af} {v : TV} {u : Heap} (hev : CallOk C ev) (h : Does C ev f H n sp t none op v u) (k : AXo C ops r ⟨frm n sp, H.puts u, t + 1⟩ Q) :
    AXo C ops (⟨none, op, ty, pos, af, none⟩ :: r) ⟨frm n sp, H, t⟩ Q := k.imp fun _ k => AWo.go0 hev h k
theorem AXo.gT {d : Tmp} {op : Op} {ty pos af} {j gd : Nat} {b : Bool} {v : TV} (hev : CallOk C ev) (hj : (ops[j]?).bind (·.dst) = some gd) (hn : Nat.blt gd n = true) (hl : look sp gd = .t (.bool b))
    (h : b = true → Does C ev f H n sp t (some d) op v []) (k : AXo C ops r ⟨frm n ((d, gv b v) :: sp), H, t + 1⟩ Q) : AXo C ops (⟨some d, op, ty, pos, af, some (j, true)⟩ :: r) ⟨frm n sp, H, t⟩ Q := k.imp fun _ k => AWo.gT hev hj hn hl h k
theorem AXo.gF {d : Tmp} {op : Op} {ty pos af} {j gd : Nat} {b : Bool} {v : TV} (hev : CallOk C ev) (hj : (ops[j]?).bind (·.dst) = some gd) (hn : Nat.blt gd n = true) (hl : look sp gd = .t (.bool b))
    (h : (!b) = true → Does C ev f H n sp t (some d) op v []) (k : AXo C ops r ⟨frm n ((d, gv (!b) v) :: sp), H, t + 1⟩ Q) : AXo C ops (⟨some d, op, ty, pos, af, some (j, false)⟩ :: r) ⟨frm n sp, H, t⟩ Q := k.imp fun _ k => AWo.gF hev hj hn hl h k
theorem AXo.nT {d : Tmp} {op : Op} {ty pos af} {j gd : Nat} {b g : Bool} {v : TV} (hev : CallOk C ev) (hj : (ops[j]?).bind (·.dst) = some gd) (hn : Nat.blt gd n = true) (hl : look sp gd = gv g (.t (.bool b)))
    (h : (g && b) = true → Does C ev f H n sp t (some d) op v []) (k : AXo C ops r ⟨frm n ((d, gv (g && b) v) :: sp), H, t + 1⟩ Q) : AXo C ops (⟨some d, op, ty, pos, af, some (j, true)⟩ :: r) ⟨frm n sp, H, t⟩ Q := k.imp fun _ k => AWo.nT hev hj hn hl h k
theorem AXo.nF {d : Tmp} {op : Op} {ty pos af} {j gd : Nat} {b g : Bool} {v : TV} (hev : CallOk C ev) (hj : (ops[j]?).bind (·.dst) = some gd) (hn : Nat.blt gd n = true) (hl : look sp gd = gv g (.t (.bool b)))
    (h : (g && !b) = true → Does C ev f H n sp t (some d) op v []) (k : AXo C ops r ⟨frm n ((d, gv (g && !b) v) :: sp), H, t + 1⟩ Q) : AXo C ops (⟨some d, op, ty, pos, af, some (j, false)⟩ :: r) ⟨frm n sp, H, t⟩ Q := k.imp fun _ k => AWo.nF hev hj hn hl h k
end ops

section drawn
variable {ev : CallF} {f : FuncId} {ops : Array Oper} {bs : List Nat} {t0 i n : Nat} {r : List Oper} {sp : List (Nat × TV)} {H : Heap} {K : R → List Rec → List (Nat × TV) → Heap → Prop}
theorem AXd.nil (h : ∃ r, K r [] sp H) : AXd C ev f ops bs t0 i [] n sp H K := h.imp fun _ h => AWd.nil h
theorem AXd.go {d : Tmp} {op : Op} {ty pos af} {fp : List Nm} {v : TV} {u : Heap} (hfp : fpT C H (frm n sp) ⟨some d, op, ty, pos, af, none⟩ = some fp) (h : Does C ev f (pickH H fp) n sp (t0 + i) (some d) op v u)
    (k : AXd C ev f ops bs t0 (i + 1) r n ((d, v) :: sp) (H.puts u) fun q rs sp' H' => K q (⟨fp, .val v u⟩ :: rs) sp' H') : AXd C ev f ops bs t0 i (⟨some d, op, ty, pos, af, none⟩ :: r) n sp H K := k.imp fun _ k => AWd.go hfp h k
theorem AXd.go0 {op : Op} {ty pos af} {fp : List Nm} {v : TV} {u : Heap} (hfp : fpT C H (frm n sp) ⟨none, op, ty, pos, af, none⟩ = some fp) (h : Does C ev f (pickH H fp) n sp (t0 + i) none op v u)
    (k : AXd C ev f ops bs t0 (i + 1) r n sp (H.puts u) fun q rs sp' H' => K q (⟨fp, .val v u⟩ :: rs) sp' H') : AXd C ev f ops bs t0 i (⟨none, op, ty, pos, af, none⟩ :: r) n sp H K := k.imp fun _ k => AWd.go0 hfp h k
theorem AXd.yes {d : Tmp} {op : Op} {ty pos af} {j gd : Nat} {w b : Bool} {fp : List Nm} {v : TV} {u : Heap} (hj : (ops[j]?).bind (·.dst) = some gd) (hn : Nat.blt gd n = true) (hl : look sp gd = .t (.bool b)) (hb : (b == w) = true)
    (hfp : fpT C H (frm n sp) ⟨some d, op, ty, pos, af, some (j, w)⟩ = some fp) (h : Does C ev f (pickH H fp) n sp (t0 + i) (some d) op v u)
    (k : AXd C ev f ops bs t0 (i + 1) r n ((d, v) :: sp) (H.puts u) fun q rs sp' H' => K q (⟨fp, .val v u⟩ :: rs) sp' H') : AXd C ev f ops bs t0 i (⟨some d, op, ty, pos, af, some (j, w)⟩ :: r) n sp H K := k.imp fun _ k => AWd.yes hj hn hl hb hfp h k
theorem AXd.no {d : Tmp} {op : Op} {ty pos af} {j gd : Nat} {w b : Bool} (hj : (ops[j]?).bind (·.dst) = some gd) (hn : Nat.blt gd n = true) (hl : look sp gd = .t (.bool b)) (hb : (b == w) = false)
    (k : AXd C ev f ops bs t0 (i + 1) r n ((d, undefT) :: sp) H fun q rs sp' H' => K q (⟨[], .unwanted⟩ :: rs) sp' H') : AXd C ev f ops bs t0 i (⟨some d, op, ty, pos, af, some (j, w)⟩ :: r) n sp H K := k.imp fun _ k => AWd.no hj hn hl hb k
theorem AXd.none {d : Tmp} {op : Op} {ty pos af} {j gd : Nat} {w : Bool} (hj : (ops[j]?).bind (·.dst) = some gd) (hn : Nat.blt gd n = true) (hl : look sp gd = undefT)
    (k : AXd C ev f ops bs t0 (i + 1) r n ((d, undefT) :: sp) H fun q rs sp' H' => K q (⟨[], .unwanted⟩ :: rs) sp' H') : AXd C ev f ops bs t0 i (⟨some d, op, ty, pos, af, some (j, w)⟩ :: r) n sp H K := k.imp fun _ k => AWd.none hj hn hl k
end drawn

theorem ex_and2 {a b : Prop} {c : R → Prop} (ha : a) (hb : b) (h : ∃ r, c r) : ∃ r, a ∧ b ∧ c r := h.imp fun _ h => ⟨ha, hb, h⟩

theorem AX.draw {ev : CallF} {f : FuncId} {id : Nat} {ops : Array Oper} {n t : Nat} {sp : List (Nat × TV)} {H : Heap} {Q : R → AExit → St → Prop} (hm : C.P.prog.follows .mixedOrders = true) (hev : CallOk C ev)
    (h : AXd C ev f ops (befs ops.toList []) t 0 ops.toList n sp H fun r recs sp' H' => freeOrder ops ops.toList recs (befs ops.toList []) ops.toList recs 0 = true ∧ backOk 0 ops.toList = true ∧ Q r .normal ⟨frm n sp', H', t + ops.size⟩) :
    AX C (.region id ops true) ⟨frm n sp, H, t⟩ Q := h.imp fun _ h => AW.draw hm hev h

/-! ### Ends that go outwards -/
section ends
variable {st : St} {Q : R → AExit → St → Prop}
theorem AX.thenRet {y : Code} (h : ∃ r, Q r .ret st) : ∃ r, Then C y (Q r) .ret st := h
theorem AX.thenExit {y : Code} {i : Nat} (h : ∃ r, Q r (.exit i) st) : ∃ r, Then C y (Q r) (.exit i) st := h
theorem AX.outRet {id : Nat} (h : ∃ r, Q r .ret st) : ∃ r, Out id (Q r) .ret st := h
theorem AX.outNormal {id : Nat} (h : ∃ r, Q r .normal st) : ∃ r, Out id (Q r) .normal st := h
theorem AX.outHere {id : Nat} (h : ∃ r, Q r .normal st) : ∃ r, Out id (Q r) (.exit id) st := h.imp fun _ h => by simp only [Out, if_true]; exact h
theorem AX.outExit {id i : Nat} (hne : i ≠ id) (h : ∃ r, Q r (.exit i) st) : ∃ r, Out id (Q r) (.exit i) st := h.imp fun _ h => by simp only [Out, if_neg hne]; exact h
end ends

/-! ### Guards and conditions that are decided on the way -/
theorem beqTT {b : Bool} (h : b = true) : (b == true) = true := by subst h; rfl
theorem beqFF {b : Bool} (h : b = false) : (b == false) = true := by subst h; rfl
theorem beqFT {b : Bool} (h : b = false) : (b == true) = false := by subst h; rfl
theorem beqTF {b : Bool} (h : b = true) : (b == false) = false := by subst h; rfl

section split
variable {ev : CallF} {f : FuncId} {ops : Array Oper} {bs : List Nat} {t0 i n t : Nat} {r : List Oper} {l : List Oper} {sp : List (Nat × TV)} {H : Heap}
theorem AXd.split {K : R → List Rec → List (Nat × TV) → Heap → Prop} (gd : Nat) {b : Bool} (hl : look sp gd = .t (.bool b)) (h1 : b = true → AXd C ev f ops bs t0 i l n sp H K) (h2 : b = false → AXd C ev f ops bs t0 i l n sp H K) : AXd C ev f ops bs t0 i l n sp H K := by
  cases b with
  | true => exact h1 rfl
  | false => exact h2 rfl
variable {Q : R → AExit → St → Prop}
theorem AXo.split (gd : Nat) {b : Bool} (hl : look sp gd = .t (.bool b)) (h1 : b = true → AXo C ops l ⟨frm n sp, H, t⟩ Q) (h2 : b = false → AXo C ops l ⟨frm n sp, H, t⟩ Q) : AXo C ops l ⟨frm n sp, H, t⟩ Q := by
  cases b with
  | true => exact h1 rfl
  | false => exact h2 rfl
theorem AXo.yes {d : Tmp} {op : Op} {ty pos af} {j gd : Nat} {w b : Bool} {v : TV} {u : Heap} (hev : CallOk C ev) (hj : (ops[j]?).bind (·.dst) = some gd) (hn : Nat.blt gd n = true) (hl : look sp gd = .t (.bool b)) (hb : (b == w) = true)
    (h : Does C ev f H n sp t (some d) op v u) (k : AXo C ops r ⟨frm n ((d, v) :: sp), H.puts u, t + 1⟩ Q) : AXo C ops (⟨some d, op, ty, pos, af, some (j, w)⟩ :: r) ⟨frm n sp, H, t⟩ Q := by
  refine k.imp fun _ k => AWo.step hev (by rw [wanted_of rfl hj hn, hl]; simp only [hb]) (h _ _ _ _) ?_
  rw [putSlot_frm]
  exact k
theorem AXo.no {d : Tmp} {op : Op} {ty pos af} {j gd : Nat} {w b : Bool} (hj : (ops[j]?).bind (·.dst) = some gd) (hn : Nat.blt gd n = true) (hl : look sp gd = .t (.bool b)) (hb : (b == w) = false)
    (k : AXo C ops r ⟨frm n ((d, undefT) :: sp), H, t + 1⟩ Q) : AXo C ops (⟨some d, op, ty, pos, af, some (j, w)⟩ :: r) ⟨frm n sp, H, t⟩ Q := by
  refine k.imp fun _ k => AWo.unwanted (by rw [wanted_of rfl hj hn, hl]; simp only [hb]) ?_
  rw [putSlot_frm]
  exact k
theorem AXo.none {d : Tmp} {op : Op} {ty pos af} {j gd : Nat} {w : Bool} (hj : (ops[j]?).bind (·.dst) = some gd) (hn : Nat.blt gd n = true) (hl : look sp gd = undefT)
    (k : AXo C ops r ⟨frm n ((d, undefT) :: sp), H, t + 1⟩ Q) : AXo C ops (⟨some d, op, ty, pos, af, some (j, w)⟩ :: r) ⟨frm n sp, H, t⟩ Q := by
  refine k.imp fun _ k => AWo.unwanted (by rw [wanted_of rfl hj hn, hl]; rfl) ?_
  rw [putSlot_frm]
  exact k
theorem AX.condT {st : St} {c : Operand} {x y : Code} {b : Bool} (hc : rhoT C st.slots c = some (.t (.bool b))) (hb : b = true) (h : AX C x st Q) : AX C (.cond c x y) st Q := AX.cond hc (fun _ => h) (fun e => by rw [hb] at e; cases e)
theorem AX.condF {st : St} {c : Operand} {x y : Code} {b : Bool} (hc : rhoT C st.slots c = some (.t (.bool b))) (hb : b = false) (h : AX C y st Q) : AX C (.cond c x y) st Q := AX.cond hc (fun e => by rw [hb] at e; cases e) (fun _ => h)

variable {d : Option Tmp}
theorem d_pickT {c x y : Operand} {b : Bool} {u v : TV} (hc : rhoS C n sp c = some (.t (.bool b))) (hb : b = true) (hx : rhoS C n sp x = some u) (hy : rhoS C n sp y = some v) : Does C ev f H n sp t d (.pick c x y) u [] := by
  subst hb; exact d_pick hc hx hy
theorem d_pickF {c x y : Operand} {b : Bool} {u v : TV} (hc : rhoS C n sp c = some (.t (.bool b))) (hb : b = false) (hx : rhoS C n sp x = some u) (hy : rhoS C n sp y = some v) : Does C ev f H n sp t d (.pick c x y) v [] := by
  subst hb; exact d_pick hc hx hy

/-- a part of a text -/
theorem d_subS {ty : TypeId} {ti : TI} {x lo : Operand} {s : List UInt8} {m : Nat} (h : rhoS C n sp x = some (.t (.str s))) (hi : rhoS C n sp lo = some (.t (.int .i64 (m : Int)))) (ht : C.P.ty ty = some ti) (hd : ti.desc = .string) (hm : m ≤ s.length) :
    Does C ev f H n sp t d (.slice ty x (some lo) none none) (.t (.str (s.drop m))) [] := fun _ _ _ _ => by
  have h1 : optIndex (some (.t (.int .i64 (m : Int)))) 0 = some m := by simp [optIndex, toIndex]
  have h2 : optIndex none s.length = some s.length := rfl
  have h3 : optT C (frm n sp) (some lo) = some (some (.t (.int .i64 (m : Int)))) := by simp [optT, rhoS_ok hi]
  have h4 : optT C (frm n sp) none = some none := rfl
  simp only [execT, evalOp, rhoS_ok h, h3, h4, sliceT, tyOf, ht, hd, h1, h2, hm, Nat.le_refl, and_self, if_true, List.take_length]
  rfl

/-- a conversion between numbers -/
theorem d_conv {src dst : TypeId} {x : Operand} {a v : TV} (h : rhoS C n sp x = some a) (hv : ∀ asArr nm H, convertT C.P asArr nm H src dst a = some (v, [])) : Does C ev f H n sp t d (.convert src dst x) v [] := fun _ _ _ _ => by
  simp only [execT, evalOp, rhoS_ok h, hv]

/-- a call by a function's value -/
theorem d_callV {fo : Operand} {g : FuncId} {args : Array Operand} {ats : Array TypeId} {ts : List Tree} {x : Tree} (hf : rhoS C n sp fo = some (.t (.fn (.func g)))) (h : rhosS C n sp args.toList = some (ts.map .t)) (he : ev g (ts.map .t) [] = some (.ret (.t x) [] [])) :
    Does C ev f H n sp t d (.call ⟨.value fo, args, ats⟩) (.t x) [] :=
  d_call (by simp only [calleeT, rhoS_ok hf, rhosS_ok h]) (callT_trees he)
/-- a table's place -/
theorem d_indexTab {ty elem len : Nat} {ti te : TI} {x i : Operand} {cs : List Tree} {off m : Nat} {k : IntKind} (h : rhoS C n sp x = some (.tptr cs off)) (hi : rhoS C n sp i = some (.t (.int k (m : Int)))) (ht : C.P.ty ty = some ti) (hd : ti.desc = .array len elem)
    (hte : C.P.ty elem = some te) (hm : m < len) : Does C ev f H n sp t d (.indexAddr ty x i) (.tptr cs (off + m * te.size)) [] :=
  d_indexAddr h hi (by
    have h1 : toIndex (.t (.int k (m : Int))) = some m := by simp [toIndex]
    simp only [indexAddrT, tyOf, ht, h1, hd, hte, hm, if_true, ptrAdd])
theorem part_tab {cs : List Tree} {off : Nat} {c : Tree} (h : cs[off]? = some c) : partT false 1 (cs.map .t) off = some (.t c) := by
  simp [partT, h]
end split

theorem AX.toAW {c : Code} {st : St} {Q : AExit → St → Prop} (h : AX C c st fun _ : Unit => Q) : AW C c st Q := h.elim fun _ h => h

theorem AX.start {f : FuncId} {fn : Func} {body : Code} {args : List TV} {objs : List AObj} {res : R → FRes} (n k : Nat) (hfn0 : C.P.fn f = some fn) (hbody : fn.body = some body) (hname : fn.name ≠ "runtime.NumGoroutine")
    (hn : fn.ntmps = n) (ha : args.length = k) (hk : k ≤ n) (h : AX C body ⟨frm n (startP 0 args), argHeap 0 objs, 0⟩ (fun r => Fin2 C fn objs.length (res r))) : ∃ r, CallRel C f args objs (res r) :=
  h.imp fun _ h => fn_start2 n k hfn0 hbody hname hn ha hk h

section freeze
variable {C : Cfg}
/-- a row that is written no more becomes data -/
theorem Re.freeze {n d N : Nat} {sp : List (Nat × TV)} {H H' : Heap} {t : Nat} {tr : Tree} {ks : List Nm} (hfz : frz H N (look sp d) = some (tr, ks)) (hH' : ∀ k o, H'.get k = some o → H.get k = some o ∧ k ∉ ks) (hdn : d < n) :
    Re C ⟨frm n sp, H, t⟩ ⟨frm n ((d, .t tr) :: sp), H', t⟩ := by
  intro G0 w0 G w a h0 hs hst
  have st := frozen_step hst.wf hst.heap ks
  refine ⟨G.frozen w H ks, (hs.trans st).mono (fun _ _ _ => trivial) (fun k h => h.elim id False.elim), st.wf, hst.glob.mono st.le, ?_, ?_, ?_⟩
  · have hl := hst.slots
    refine ⟨by have := hl.1; simpa [frm_length] using this, fun i c v hc hv => ?_⟩
    have hi : i < n := by have := (List.getElem?_eq_some_iff.1 hc).1; simpa [frm_length] using this
    rw [frm_at hi, Option.some.injEq] at hc
    subst hc
    have h0 := hl.2 i (look sp i) v (frm_at hi) hv
    rw [look_cons]
    split
    · rename_i e
      subst e
      exact .t _ _ (frz_VT hst.wf hst.heap ks N _ tr ks v hfz (fun _ h => h) h0)
    · exact h0.mono st.le
  · intro k o hk
    obtain ⟨h1, h2⟩ := hH' k o hk
    obtain ⟨h3, h4⟩ := hst.heap k o h1
    exact ⟨st.le.dom k h3, st.keeps hst.wf h3 (fun h => h2 h.1) h4⟩
  · exact hst.fresh
end freeze
theorem Re.trans {C : Cfg} {a b c : St} (h : Re C a b) (k : Re C b c) : Re C a c := fun G0 w0 G w x h0 hs hst => by
  obtain ⟨G1, hs1, hst1⟩ := h G0 w0 G w x h0 hs hst
  exact k G0 w0 G1 w x h0 hs1 hst1

theorem one_heap {H : Heap} {k0 : Nm} {o0 : AObj} {ks : List Nm} (h : H.get k0 = some o0) (hn : k0 ∉ ks) : ∀ k o, Heap.get [(k0, o0)] k = some o → H.get k = some o ∧ k ∉ ks := by
  intro k o hk
  simp only [Heap.get] at hk
  by_cases e : k0 = k
  · subst e; rw [if_pos rfl] at hk; cases hk; exact ⟨h, hn⟩
  · rw [if_neg e] at hk; cases hk

section more
variable {C : Cfg} {ev : CallF} {f : FuncId} {H : Heap} {n t : Nat} {sp : List (Nat × TV)} {d : Option Tmp}
/-- a list, cut to its length -/
theorem d_cut {ty elem : TypeId} {ti te : TI} {x y z : Operand} {es : List Tree} (hx : rhoS C n sp x = some (.t (.sl es))) (hy : rhoS C n sp y = some (.t (.int .i64 es.length))) (hz : rhoS C n sp z = some (.t (.int .i64 es.length)))
    (ht : C.P.ty ty = some ti) (hd : ti.desc = .slice elem) (hte : C.P.ty elem = some te) (hh : headOk te.size es = true) : Does C ev f H n sp t d (.slice ty x none (some y) (some z)) (.tsl es) [] := fun _ _ _ _ => by
  have h1 : optIndex (some (.t (.int .i64 (es.length : Int)))) es.length = some es.length := by simp [optIndex, toIndex]
  have h2 : optIndex none 0 = some 0 := rfl
  have h3 : optT C (frm n sp) (some y) = some (some (.t (.int .i64 (es.length : Int)))) := by simp [optT, rhoS_ok hy]
  have h5 : optT C (frm n sp) (some z) = some (some (.t (.int .i64 (es.length : Int)))) := by simp [optT, rhoS_ok hz]
  have h4 : optT C (frm n sp) none = some none := rfl
  have hl : lenT H (.t (.sl es)) = some es.length := rfl
  simp only [execT, evalOp, rhoS_ok hx, h3, h4, h5, sliceT, tyOf, ht, hd, hte, hl, h1, h2, Option.isNone_some, Option.isSome_some, Bool.false_or, Nat.zero_le, Nat.le_refl, and_self, if_true, hh, cutT, Bool.true_and, beq_self_eq_true, List.take_length, List.drop_zero]
  rfl

theorem d_pred {ty r2 : TypeId} {x y : Operand} {j : Nat} (h : rhoS C n sp x = some (.t (.int .i64 ((j + 1 : Nat) : Int)))) (h2 : rhoS C n sp y = some (.t (.int .i64 1))) (hj : j ≤ 4194304) : Does C ev f H n sp t d (.binOp .sub ty x y r2) (.t (.int .i64 (j : Int))) [] := by
  have := d_sub64 (ev := ev) (f := f) (H := H) (t := t) (d := d) (ty := ty) (r2 := r2) h h2 (by omega) (by omega)
  rwa [show ((j + 1 : Nat) : Int) - 1 = (j : Int) by omega] at this

/-- a text as bytes -/
theorem d_bytes {src dst e : TypeId} {ti td te : TI} {x : Operand} {s : List UInt8} (h : rhoS C n sp x = some (.t (.str s))) (ha : d.any (C.asArr f) = false) (ht : C.P.ty src = some ti) (hd : ti.desc = .string) (ht2 : C.P.ty dst = some td) (hd2 : td.desc = .slice e)
    (hte : C.P.ty e = some te) (hde : te.desc = .int .u8) : Does C ev f H n sp t d (.convert src dst x) (.t (.sl (s.map fun b => .int .u8 b.toNat))) [] := fun _ _ _ _ => by
  simp only [execT, evalOp, rhoS_ok h, convertT, tyOf, ht, ht2, hd, hd2, hte, hde, ha, Bool.false_eq_true, if_false]
end more
section callF
variable {C : Cfg} {ev : CallF} {f : FuncId} {H : Heap} {n t : Nat} {sp : List (Nat × TV)} {d : Option Tmp}
/-- a call with one value that is data in the end -/
theorem d_callF {g : FuncId} {args : Array Operand} {ats : Array TypeId} {v : TV} {x y : Tree} (h : rhosS C n sp args.toList = some [v]) (hf : frzArgs H [v] = ([.t x], [])) (he : ev g [.t x] [] = some (.ret (.t y) [] [])) :
    Does C ev f H n sp t d (.call ⟨.value (.func g), args, ats⟩) (.t y) [] := by
  refine d_call (callee_func h) ?_
  have h2 := callT_trees (ev := ev) (H := H) (t := t) (g := g) (ts := [x]) (x := y) he
  have h3 : frzArgs H (([x] : List Tree).map .t) = (([x] : List Tree).map .t, []) := frzArgs_trees H [x]
  unfold callT at h2 ⊢
  rw [h3] at h2
  rw [hf]
  exact h2
end callF
end Go.Abs
end
