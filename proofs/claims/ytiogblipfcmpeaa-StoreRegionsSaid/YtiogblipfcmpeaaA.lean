/- StoreRegions: for every number of sectors the law returns true (a disk's three regions are its sectors, each once, where it may be one; where it may not, an error). No condition. -/
import Derived.Test.YtiogblipfcmpeaaRows
import Derived.WalkKit
import Derived.ProofKit
import Derived.OpenShut
import Derived.Laws.ResultCell
import Derived.Deep.RegionHeld3
namespace Go.Proofs.Ytiogblipfcmpeaa.storeRegions
open Go.ChangeShapes Go.WideShapes Go.ChangeAt Go.RowKit
set_option linter.unusedVariables false

theorem own : ownKnob Try.prog.godebug = none := by kernel_rfl


/-- what 'Regions' answers -/
def Lay (a0 f1 s1 f2 s2 f3 s3 e : Int) : Prop :=
  (8 ≤ a0 ∧ a0 ≤ 1024 ∧ f1 = 0 ∧ s1 = a0 / 4 ∧ f2 = a0 / 4 ∧ s2 = a0 / 4 ∧ f3 = 2 * (a0 / 4) ∧ s3 = a0 - 2 * (a0 / 4) ∧ e = 0) ∨ ((a0 < 8 ∨ 1024 < a0) ∧ e = 1)

theorem walkR (a0 : Int) (w0 : (Lit.int .i64 a0).wf = true) (w : World) :
    Calls Try.prog 5 #[.int .i64 a0] w fun e w' => (∃ f1 s1 f2 s2 f3 s3 e0, e = .returned (.tuple #[.agg #[.int .i64 f1, .int .i64 s1], .agg #[.int .i64 f2, .int .i64 s2], .agg #[.int .i64 f3, .int .i64 s3], .int .i64 e0]) ∧ Lay a0 f1 s1 f2 s2 f3 s3 e0) ∧ Grown w w' := by
  go_enter Try.func5, Try.ntmps5
  go_wp2
  all_goals first
    | (refine bodyPost_ret (v := .tuple #[.agg #[.int .i64 0, .int .i64 0, .int .i64 0, .int .i64 0, .int .i64 0, .int .i64 0], .int .i64 1]) ?_ rfl ?_; (· rw [results_cell_tmp rfl]; go_simp; done))
    | (refine bodyPost_ret (v := .tuple #[.agg #[.int .i64 0, .int .i64 (a0 / 4), .int .i64 (a0 / 4), .int .i64 (a0 / 4), .int .i64 (2 * (a0 / 4)), .int .i64 (a0 - 2 * (a0 / 4))], .int .i64 0]) ?_ rfl ?_; (· rw [results_cell_tmp rfl]; go_simp; done))
  all_goals (simp only []; go_at_K; go_wp2)
  all_goals (go_region <;> (simp only [Exit.then]; go_at_K; go_wp2))
  all_goals first
    | (refine bodyPost_ret (v := .tuple #[.agg #[.int .i64 0, .int .i64 0], .agg #[.int .i64 0, .int .i64 0], .agg #[.int .i64 0, .int .i64 0], .int .i64 1]) ?_ rfl ⟨⟨0, 0, 0, 0, 0, 0, 1, rfl, by unfold Lay; omega⟩, ?_⟩; (· simp [results, Try.f5, Sem.run_bind]; go_simp; done))
    | (refine bodyPost_ret (v := .tuple #[.agg #[.int .i64 0, .int .i64 (a0 / 4)], .agg #[.int .i64 (a0 / 4), .int .i64 (a0 / 4)], .agg #[.int .i64 (2 * (a0 / 4)), .int .i64 (a0 - 2 * (a0 / 4))], .int .i64 0]) ?_ rfl ⟨⟨_, _, _, _, _, _, _, rfl, by unfold Lay; omega⟩, ?_⟩; (· simp [results, Try.f5, Sem.run_bind]; go_simp; done))
  all_goals (repeat (first | exact Grown.refl _ | apply Grown.drew | apply Grown.alloc))

theorem walk (a0 : Int) (w0 : (Lit.int .i64 a0).wf = true) (w : World) :
    Calls Try.prog 3 #[.int .i64 a0] w fun e w' => e = .returned (.bool true) ∧ Grown w w' := by
  by_cases hb : 8 ≤ a0 ∧ a0 ≤ 1024
  · obtain ⟨hb1, hb2⟩ := hb
    go_enter Try.func3, Try.ntmps3
    go_wp2_with (go_at_call 5; refine (walkR a0 w0 _).mono ?_; rintro e w' ⟨⟨f1, s1, f2, s2, f3, s3, e0, rfl, hx⟩, hg⟩; obtain ⟨-, -, rfl, rfl, rfl, rfl, rfl, rfl, rfl⟩ : 8 ≤ a0 ∧ a0 ≤ 1024 ∧ f1 = 0 ∧ s1 = a0 / 4 ∧ f2 = a0 / 4 ∧ s2 = a0 / 4 ∧ f3 = 2 * (a0 / 4) ∧ s3 = a0 - 2 * (a0 / 4) ∧ e0 = 0 := (by unfold Lay at hx; omega); clear hx)
    all_goals go_ret
    all_goals refine ⟨?_, by repeat (first | exact hg | apply Grown.drew | apply Grown.alloc)⟩
    all_goals (simp; try omega)
  · have hb : a0 < 8 ∨ 1024 < a0 := by omega
    go_enter Try.func3, Try.ntmps3
    go_wp2_with (go_at_call 5; refine (walkR a0 w0 _).mono ?_; rintro e w' ⟨⟨f1, s1, f2, s2, f3, s3, e0, rfl, hx⟩, hg⟩; obtain rfl : e0 = 1 := (by unfold Lay at hx; omega); clear hx)
    all_goals go_ret
    all_goals refine ⟨?_, by repeat (first | exact hg | apply Grown.drew | apply Grown.alloc)⟩
    all_goals (simp; try omega)

set_option maxRecDepth 100000 in
theorem lifted (os : Os) (started : os.Started) (H : Type) (enc : TypeId × Value → H) :
    ReturnsInHanded {} Try.checked os 3 .any (Rows.storeRegionsSpec.pre6 enc Try.prog Try.f3 Rows.storeRegionsRow.domain false) (Rows.storeRegionsSpec.post enc Try.prog Try.f3 false true false false) := by
  refine returnsInHanded_of_change (C := Try.checked) own started (by kernel_rfl) Try.func3
    (ChangeSpec.witness6 (enc := enc) (C := Try.checked) false ⟨#[], #[.int .i64 0], []⟩ 8 (by kernel_rfl) (by kernel_rfl) (by kernel_rfl) (by kernel_rfl)) ?_
  intro W base args ds gs before hval0 hW hcnd _
  have hval : ∀ (j : Nat) t v, Try.f3.params[j]? = some t → args[j]? = some v → Value.okWide Try.prog W .any base t v := hval0
  have hW' := hW
  obtain ⟨p, q, hA0, hV, rfl, hfz, hnd⟩ := hW
  have hA : DataW.TrodAll enc Try.prog W 0 (fun _ => true) true Try.f3.params.toList args.toList ds p := hA0
  rw [Try.params3] at hA hval
  obtain ⟨v0, vs0, d0, ds0, p0, q0, hargs, rfl, rfl, h0, r0⟩ := trodAll_cons hA
  obtain ⟨rfl, rfl, rfl⟩ := trodAll_nil r0
  obtain rfl : args = #[v0] := by cases args; simp_all
  obtain ⟨rfl, rfl⟩ := trodVars_none hV
  obtain ⟨a0, rfl, rfl, rfl, w0⟩ := open_int Try.underlying3 (hval 0 3 v0 rfl rfl) h0
  clear hA0 hval0
  simp only [List.append_nil] at hW'
  refine (walk a0 w0 W).mono fun e W' ⟨he, hg⟩ => ?_
  subst he
  exact ⟨_, rfl, post_of_same (pa := []) (pv := []) hW' (fun _ _ _ => (trodAll_cons_mk (shut_bool Try.underlying4 _) trodAll_mk0)) (fun sp _ => (trodAll_cons_mk (shut_int Try.underlying3 w0) trodAll_mk0)) (fun _ _ => rfl) rfl
    (hg.frame _) hg.2.1 (ok_one (by kernel_rfl) rfl (okWide_bool_mk Try.underlying4 _))⟩

theorem over : Rows.storeRegionsRow.holds Try.pinned (OpenSpec.ofChange Rows.storeRegionsSpec) :=
  OpenClaim.holds_of_wide 3 Try.f3 rfl rfl rfl rfl rfl rfl rfl ⟨rfl, rfl, rfl, rfl, rfl⟩ rfl rfl rfl rfl rfl (by kernel_rfl) Try.func3 (by kernel_rfl)
    (of_decide_eq_true (by kernel_rfl)) (by unfold Func.isWrapper; first | (rw [if_pos (by decide +kernel)]; kernel_rfl) | (rw [if_neg (by decide +kernel)]; exact ⟨rfl, rfl⟩))
    (fun os started H enc _ => lifted os started H enc)

/-- The given statement: StoreRegions returns true at every input. -/
theorem proved : Rows.StoreRegionsSaid :=
  over
#print axioms proved
end Go.Proofs.Ytiogblipfcmpeaa.storeRegions
