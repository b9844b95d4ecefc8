/- Seat r3: its interpreter, its summaries. -/
import Derived.Test.YtbahblehihbpkaaGreatDoorG
import Derived.Test.YtbahblehihbpkaaGreatDoorH
import Derived.Test.YtbahblehihbpkaaGreatDoorI
import Derived.Test.YtbahblehihbpkaaGreatDoorShelf
import Derived.Test.YtbahblehihbpkaaGreatDoorChecked
import Derived.Tactics2
import Derived.Defers
import Derived.Recover
import Derived.Laws.Pointers
namespace Go.Proofs.YtbahblehihbpkaaGreatDoor.live
open Go Go.Abs Go.RowKit

noncomputable def prg : Prg := { prog := Tryz.prog, ty := tyOf0 Tryz.prog, fn := fun f => Tryz.prog.funcs[f]?, tyOk := fun _ _ h => h, fnOk := fun _ _ h => h }

noncomputable def rep (n : Nat) (x : Int) : List Tree := List.replicate n (.int .u8 x)
noncomputable def u8s (l : List Int) : List Tree := l.map (.int .u8 ·)
noncomputable def tabFirst : List Tree := rep 128 0xF0 ++ rep 66 0xF1 ++ rep 30 0x02 ++ u8s [0x13] ++ rep 12 0x03 ++ u8s [0x23] ++ rep 2 0x03 ++ u8s [0x34] ++ rep 3 0x04 ++ u8s [0x44] ++ rep 11 0xF1
noncomputable def tabAccept : List Tree := u8s [0x80,0xBF, 0xA0,0xBF, 0x80,0x9F, 0x90,0xBF, 0x80,0x8F] ++ rep 22 0
noncomputable def tabAscii : List Tree := rep 9 0 ++ rep 5 1 ++ rep 18 0 ++ rep 1 1 ++ rep 223 0

noncomputable def cfg (m : Int) : Cfg := { P := prg, glob := fun | 0 => some tabFirst | 1 => some tabAccept | 2 => some tabAscii | 4 => some [.int .i64 m] | _ => none, asArr := fun _ _ => false }

/-- what is told ahead of the words -/
noncomputable def ext0 (m : Int) : Ext := fun | 81 => some (extCopy 80) | 34 => some (extString 5) | 176 => some extIndex | 137 => some extIndexByte | 24 => some (extTry (cfg m) 109) | _ => none
/-- what is told -/
noncomputable def ext (m : Int) : Ext := fun | 81 => some (extCopy 80) | 34 => some (extString 5) | 176 => some extIndex | 137 => some extIndexByte | 24 => some (extTry (cfg m) 109) | 120 => some (extTab wordsTab) | _ => none

theorem en (f : FuncId) (fn : Func) (h : Tryz.prog.funcs[f]? = some fn) (hn : (fn.name == "runtime.NumGoroutine") = false) (c : Code) (hb : fn.body = some c) (args : Array Value) (w : World) :
    (callFunc f args).run Tryz.prog w = .ok (.enter f args) w := by
  have h1 : fn.name ≠ "runtime.NumGoroutine" := by simpa using hn
  simp [callFunc, h, h1, hb, mark]

theorem en_copy (args : Array Value) (w : World) : (callFunc 81 args).run Tryz.prog w = .ok (.enter 81 args) w := en 81 Tryz.f81 Tryz.func81 (by kernel_rfl) _ rfl args w
theorem en_str (args : Array Value) (w : World) : (callFunc 34 args).run Tryz.prog w = .ok (.enter 34 args) w := en 34 Tryz.f34 Tryz.func34 (by kernel_rfl) _ rfl args w
theorem en_idx (args : Array Value) (w : World) : (callFunc 176 args).run Tryz.prog w = .ok (.enter 176 args) w := en 176 Tryz.f176 Tryz.func176 (by kernel_rfl) _ rfl args w
theorem en_ixb (args : Array Value) (w : World) : (callFunc 137 args).run Tryz.prog w = .ok (.enter 137 args) w := en 137 Tryz.f137 Tryz.func137 (by kernel_rfl) _ rfl args w
theorem en_try (args : Array Value) (w : World) : (callFunc 24 args).run Tryz.prog w = .ok (.enter 24 args) w := en 24 Tryz.f24 Tryz.func24 (by kernel_rfl) _ rfl args w

/-! ### Try -/
set_option maxRecDepth 100000

theorem catch_panicking (p : Addr) (pv : Value) (older : List PanicEntry) (w : World) (hc : w.cell? p = some (.bool false)) (hz : w.frozen? p = false) :
    CallsD Tryz.prog 57 #[.pointer (some p)] (.panicking ({ v := .iface 109 pv, recovered := false } :: older)) w fun e u' w' =>
      e = .returned (.tuple #[]) ∧ u' = .panicking ({ v := .iface 109 pv, recovered := true } :: older) ∧ w' = w.setCell p (.bool false) := by
  refine callsD_of_wpS Tryz.func57 rfl fun c₀ cs hu => ?_
  apply wpS_seq
  apply wpS_region
  simp [wpOpsS, go_sem, recoverD, hu, Tryz.ntmps57, Exit.thenS]
  show Code.wpS Tryz.prog _ _ { tmps := #[Value.pointer (some p), Value.iface 109 pv, Value.iface 109 pv, undef, undef, undef, undef], defers := [] } _ _
  refine wpS_of_wp ?_
  have hta : ∀ w, (Instr.typeAssert (.iface 109 pv) 20 109 false).run Tryz.prog w = .ok pv w := by
    intro w
    simp [Instr.typeAssert, run_underlying Tryz.underlying109, go_sem, Result.andThen]
  go_wp2
  exact ⟨rfl, .panicking ({ v := Value.iface 109 pv, recovered := true } :: older), rfl, .tuple #[], results_none rfl _ _ _, rfl, rfl, rfl⟩

theorem catch_idle (p : Addr) (w : World) :
    CallsD Tryz.prog 57 #[.pointer (some p)] .returning w fun e u' w' => e = .returned (.tuple #[]) ∧ u' = .returning ∧ w' = w := by
  refine callsD_of_wpS Tryz.func57 rfl fun c₀ cs hu => ?_
  apply wpS_seq
  apply wpS_region
  simp [wpOpsS, go_sem, recoverD, hu, Tryz.ntmps57, Exit.thenS]
  show Code.wpS Tryz.prog _ _ { tmps := #[Value.pointer (some p), Value.nilIface, Value.nilIface, undef, undef, undef, undef], defers := [] } _ _
  refine wpS_of_wp ?_
  go_wp2
  exact ⟨rfl, .returning, by cases c₀; simp_all, .tuple #[], results_none rfl _ _ _, rfl, rfl, rfl⟩

theorem try_enter (rv : Value) (f : FuncId) (fs cs : Array Value) (w : World) (R : Ending → World → Prop)
    (hen : ∀ args w, (callFunc f args).run Tryz.prog w = .ok (.enter f args) w)
    (hcall : Calls Tryz.prog f (fs ++ cs) (w.alloc (.cells #[.bool false] 4)) R)
    (hR : ∀ e w', R e w' → w'.cell? ⟨w.heap.size, 0, none⟩ = some (.bool false) ∧ w'.frozen? ⟨w.heap.size, 0, none⟩ = false ∧ ((∃ v, e = .returned v) ∨ ∃ pv, e = .panicked [{ v := .iface 109 pv, recovered := false }])) :
    Calls Tryz.prog 24 #[rv, .func (.func f) fs cs] w fun e w' => ∃ e' w2, R e' w2 ∧
      (((∃ v, e' = .returned v) ∧ e = .returned (.bool true) ∧ w' = w2.setCell ⟨w.heap.size, 0, none⟩ (.bool true)) ∨
       ((∃ pv, e' = .panicked [{ v := .iface 109 pv, recovered := false }]) ∧ e = .returned (.bool false) ∧ w' = w2.setCell ⟨w.heap.size, 0, none⟩ (.bool false))) := by
  have hmf : ∀ (fn : Fn) (first cap : Array Value) (w : World), (Instr.makeFunc fn first cap).run Tryz.prog w = .ok (.func fn first cap) w := fun _ _ _ _ => rfl
  go_enter_defers Tryz.func24, Tryz.ntmps24
  go_wp2
  refine hcall.mono ?_
  intro e w2 hr
  obtain ⟨hc, hz, he⟩ := hR _ _ hr
  rcases he with ⟨v, rfl⟩ | ⟨pv, rfl⟩
  · simp only []
    go_at_K
    go_wp2
    refine leaves_cons (f := 57) (args := #[.pointer (some ⟨w.heap.size, 0, none⟩)]) (by simp) (by simp [go_sem]) ?_
    refine (catch_idle _ _).mono ?_
    rintro e u' w'' ⟨rfl, rfl, rfl⟩
    refine ⟨.bool true, ?_, _, w2, hr, .inl ⟨⟨v, rfl⟩, rfl, rfl⟩⟩
    have hc' : (w2.setCell ⟨w.heap.size, 0, none⟩ (.bool true)).cell? ⟨w.heap.size, 0, none⟩ = some (.bool true) := World.cell?_setCell_same _ _ _ hc
    simp [results, Tryz.f24, Sem.run_bind, go_sem, hc']
  · simp only []
    refine leaves_cons (f := 57) (args := #[.pointer (some ⟨w.heap.size, 0, none⟩)]) (by simp) (by simp [go_sem]) ?_
    refine (catch_panicking _ pv [] _ hc hz).mono ?_
    rintro e u' w'' ⟨rfl, rfl, rfl⟩
    refine ⟨.bool false, ?_, _, w2, hr, .inr ⟨⟨pv, rfl⟩, rfl, rfl⟩⟩
    have hc' : (w2.setCell ⟨w.heap.size, 0, none⟩ (.bool false)).cell? ⟨w.heap.size, 0, none⟩ = some (.bool false) := World.cell?_setCell_same _ _ _ hc
    simp [results, Tryz.f24, Sem.run_bind, go_sem, hc']

theorem str5 (m : Int) : SumOk (cfg m) 34 (extString 5) :=
  extString_ok (C := cfg m) en_str (fun b w h => strNil_walk Tryz.lays169 Tryz.Builder_Extra_169 b w h)
    (fun b a cap cells l w h1 h2 h3 h4 h5 h6 h7 => strRow_walk Tryz.lays169 Tryz.Builder_Extra_169 b a cap cells l w h1 h2 h3 h4 h5 h6 h7)

theorem size76 : (Tryz.prog.info? 80).map (·.size) = some 2 := by kernel_rfl

theorem copy_used (b : Nat) (w : World) (h0 : w.cell? ⟨b, 0, none⟩ = some (.pointer (some ⟨b, 0, none⟩))) :
    Calls Tryz.prog 81 #[.pointer (some ⟨b, 0, none⟩)] w fun e w' => e = .returned (.tuple #[]) ∧ w' = w := by
  obtain ⟨j, hj, _⟩ := Option.map_eq_some_iff.1 size76
  go_enter Tryz.func81, Tryz.ntmps81
  go_wp2
  rw [Lib.run_neq_ptr_same w _ Tryz.underlying77 hj]
  go_wp2
  go_end0
  exact ⟨rfl, rfl⟩

theorem copy_fresh (b : Nat) (w : World) (h0 : w.cell? ⟨b, 0, none⟩ = some (.pointer none)) (hsh : w.shape? b = some (80, 2)) (hfz : w.frozen? ⟨b, 0, none⟩ = false) :
    Calls Tryz.prog 81 #[.pointer (some ⟨b, 0, none⟩)] w fun e w' => e = .returned (.tuple #[]) ∧ w' = w.setCell ⟨b, 0, none⟩ (.pointer (some ⟨b, 0, none⟩)) := by
  obtain ⟨j, hj, hjs⟩ := Option.map_eq_some_iff.1 size76
  go_enter Tryz.func81, Tryz.ntmps81
  go_wp2
  rw [Lib.run_to_unsafe w ⟨b, 0, none⟩ Tryz.underlying77 Tryz.underlying169 hj (by rw [hjs]; decide) hsh (Nat.zero_lt_succ 1)]
  simp only [Result.andThen]
  rw [Oper.upon_value]
  go_wp2
  rw [run_callFunc_extern Tryz.func127 (by kernel_rfl) (by kernel_rfl) (by kernel_rfl) (e := Extern.AbiNoEscape.same) (by kernel_rfl)]
  rw [Lib.run_noEscape]
  simp only [Result.andThen]
  rw [Oper.upon_value]
  go_wp2
  rw [Lib.run_from_unsafe w ⟨b, 0, none⟩ Tryz.underlying169 Tryz.underlying77 hj hsh (by kernel_rfl)]
  simp only [Result.andThen]
  rw [Oper.upon_value]
  go_wp2
  go_end0
  exact ⟨rfl, rfl⟩

theorem copy76 (m : Int) : SumOk (cfg m) 81 (extCopy 80) :=
  extCopy_ok (C := cfg m) en_copy (fun b w h1 h2 h3 => copy_fresh b w h1 h2 h3)
    (fun b w h => copy_used b w h)

theorem index160 (m : Int) : SumOk (cfg m) 176 extIndex :=
  extIndex_ok (C := cfg m) (gm := 4) (m := m) rfl en_idx (fun s sub m w h1 h2 => Tryz.stringslite_Index s sub m w h1 h2)

theorem indexByte146 (m : Int) : SumOk (cfg m) 137 extIndexByte :=
  extIndexByte_ok (C := cfg m) en_ixb (fun s c w => Tryz.stringslite_IndexByte s c w)

theorem try20 (m : Int) : SumOk (cfg m) 24 (extTry (cfg m) 109) :=
  extTry_ok (C := cfg m) (tb := 4) en_try (fun rv f fs cs w R h1 h2 h3 => try_enter rv f fs cs w R h1 h2 h3)

theorem ext0_ok (m : Int) : ExtOk (cfg m) (ext0 m) := extOk_of (by
  intro g s h
  unfold ext0 at h
  split at h <;> first
    | (obtain rfl := Option.some.inj h; first | exact copy76 m | exact str5 m | exact index160 m | exact indexByte146 m | exact try20 m)
    | cases h)

theorem orders (m : Int) : (cfg m).P.prog.follows .mixedOrders = true := by
  show Tryz.prog.follows .mixedOrders = true
  kernel_rfl

end Go.Proofs.YtbahblehihbpkaaGreatDoor.live
