/- schema: clones of rows, types of their own memory; copies, comparisons. -/
import Derived.Test.YtijfhoelihclbaaGreatDoorF
import Derived.Test.YtijfhoelihclbaaGreatDoorJ
import Derived.Test.YtijfhoelihclbaaGreatDoorShelf
namespace Go.Proofs.YtijfhoelihclbaaGreatDoor.w
open Go Go.Abs
set_option linter.unusedVariables false
set_option maxRecDepth 100000
set_option maxHeartbeats 1000000

noncomputable section
noncomputable def descOf (t : TypeId) : TypeDesc := (Tryz.prog.underlying t).getD .bool
noncomputable def cf (m : Int) : Cfg := { P := live.prg, glob := (live.cfg m).glob, asArr := fun f _ => f == 1 }
theorem orders {m : Int} : (cf m).P.prog.follows .mixedOrders = true := by kernel_rfl
abbrev ti9 : TI := { size := 1, bytes := 16, agg := false, zero := some (.t (.str [])), desc := .string }
theorem ty9 {m : Int} : (cf m).P.ty 9 = some ti9 := by kernel_rfl
abbrev ti23 : TI := { size := 1, bytes := 24, agg := false, zero := some (.nils), desc := .slice 9 }
theorem ty23 {m : Int} : (cf m).P.ty 23 = some ti23 := by kernel_rfl
abbrev ti31 : TI := { size := 1, bytes := 24, agg := false, zero := some (.nils), desc := .slice 45 }
theorem ty31 {m : Int} : (cf m).P.ty 31 = some ti31 := by kernel_rfl
abbrev ti36 : TI := { size := 1, bytes := 24, agg := false, zero := some (.nils), desc := .slice 38 }
theorem ty36 {m : Int} : (cf m).P.ty 36 = some ti36 := by kernel_rfl
abbrev ti38 : TI := { size := 4, bytes := 72, agg := true, zero := some (.agg [.t (.int .u8 0), .t (.str []), .nils, .nils]), desc := descOf 38 }
theorem ty38 {m : Int} : (cf m).P.ty 38 = some ti38 := by kernel_rfl
abbrev ti45 : TI := { size := 5, bytes := 88, agg := true, zero := some (.agg [.t (.str []), .t (.int .u8 0), .t (.str []), .nils, .nils]), desc := descOf 45 }
theorem ty45 {m : Int} : (cf m).P.ty 45 = some ti45 := by kernel_rfl
theorem app23 {m : Int} : AppTy (cf m).P 23 9 ti9 := ⟨⟨_, ty23, rfl⟩, ty9, _, rfl, by decide, rfl, by decide⟩
theorem app31 {m : Int} : AppTy (cf m).P 31 45 ti45 := ⟨⟨_, ty31, rfl⟩, ty45, _, rfl, by decide, rfl, by decide⟩
theorem app36 {m : Int} : AppTy (cf m).P 36 38 ti38 := ⟨⟨_, ty36, rfl⟩, ty38, _, rfl, by decide, rfl, by decide⟩
theorem fo38_2 {m : Int} : fieldOff (cf m).P 38 2 = some 2 := by kernel_rfl
theorem fo38_3 {m : Int} : fieldOff (cf m).P 38 3 = some 3 := by kernel_rfl
theorem fo45_1 {m : Int} : fieldOff (cf m).P 45 1 = some 1 := by kernel_rfl

theorem cv5_173 {m : Int} {n : Int} (asArr : Bool) (nm : Nm) (H : Heap) : convertT (cf m).P asArr nm H 5 173 (.t (.int .u8 n)) = some (.t (.int .u64 (IntKind.wrap .u64 n)), []) := by kernel_rfl
theorem clone9_nil {m : Int} {ev : CallF} (hev : CallOk (cf m) ev) : CallRel (cf m) 52 [.t (.sl [])] [] (.ret (.t (.sl [])) [] []) := by
  refine fn_start2 8 1 Tryz.func52 rfl (by decide) rfl rfl (by decide) ?_
  refine AW.seq ?_
  refine AW.region ?_
  refine AWo.go (f := 0) hev (by first | exact d_assignT rfl | exact d_assign rfl) ?_
  refine AWo.nil ?_
  refine AW.seq ?_
  refine AW.seq ?_
  refine AW.region ?_
  refine AWo.go (f := 0) hev (by first | exact d_moveT rfl | exact d_move rfl) ?_
  refine AWo.nilB rfl rfl ty23 rfl (fun b hb => ?_)
  refine AWo.nil ?_
  refine AW.cond rfl (fun h4 => ?_) (fun h4 => ?_)
  · skip
    refine AW.seq ?_
    refine AW.region ?_
    refine AWo.go (f := 0) hev (by first | exact d_assignT rfl | exact d_assign rfl) ?_
    refine AWo.nil ?_
    refine AW.ret ?_
    exact .inl rfl
  · skip
    refine AW.skip ?_
    refine AW.seq ?_
    refine AW.region ?_
    refine AWo.go (f := 0) hev (d_lit0 rfl ty23 rfl ty9 rfl rfl) ?_
    refine AWo.go (f := 0) hev (by first | exact d_moveT rfl | exact d_move rfl) ?_
    refine AWo.go (f := 0) hev (d_app0 app23 rfl rfl (.inl (.inl rfl)) (.inr (.inr ⟨_, rfl⟩))) ?_
    refine AWo.go (f := 0) hev (by first | exact d_assignT rfl | exact d_assign rfl) ?_
    refine AWo.nil ?_
    refine AW.ret ?_
    exact .inl rfl

theorem clone9_row {m : Int} {ev : CallF} (hev : CallOk (cf m) ev) (es : List Tree) (hne : es ≠ []) (hu : Uni false 1 es) (hl : es.length ≤ 4194304) :
    CallRel (cf m) 52 [.t (.sl es)] [] (.ret (.ref (.loc [5]) 0 es.length) [] [(.loc [5], .arr (9, false) 1 false ((flat es).map .t))]) := by
  refine fn_start2 8 1 Tryz.func52 rfl (by decide) rfl rfl (by decide) ?_
  refine AW.seq ?_
  refine AW.region ?_
  refine AWo.go (f := 0) hev (by first | exact d_assignT rfl | exact d_assign rfl) ?_
  refine AWo.nil ?_
  refine AW.seq ?_
  refine AW.seq ?_
  refine AW.region ?_
  refine AWo.go (f := 0) hev (by first | exact d_moveT rfl | exact d_move rfl) ?_
  refine AWo.nilB rfl rfl ty23 rfl (fun b hb => ?_)
  have hb := hb hne
  subst hb
  refine AWo.nil ?_
  refine AW.cond rfl (fun h => absurd h (by decide)) (fun h => ?_)
  refine AW.skip ?_
  refine AW.seq ?_
  refine AW.region ?_
  refine AWo.go (f := 0) hev (d_lit0 rfl ty23 rfl ty9 rfl rfl) ?_
  refine AWo.go (f := 0) hev (by first | exact d_moveT rfl | exact d_move rfl) ?_
  refine AWo.go (f := 0) hev (d_appG app23 rfl rfl (.inl rfl) hu hne (by show es.length * 16 ≤ 70368744177664; omega)) ?_
  refine AWo.go (f := 0) hev (by first | exact d_assignT rfl | exact d_assign rfl) ?_
  refine AWo.nil ?_
  refine AW.ret ?_
  exact .inr (fin_ref rfl rfl rfl)

theorem clone38_nil {m : Int} {ev : CallF} (hev : CallOk (cf m) ev) : CallRel (cf m) 64 [.t (.sl [])] [] (.ret (.t (.sl [])) [] []) := by
  refine fn_start2 8 1 Tryz.func64 rfl (by decide) rfl rfl (by decide) ?_
  refine AW.seq ?_
  refine AW.region ?_
  refine AWo.go (f := 0) hev (by first | exact d_assignT rfl | exact d_assign rfl) ?_
  refine AWo.nil ?_
  refine AW.seq ?_
  refine AW.seq ?_
  refine AW.region ?_
  refine AWo.go (f := 0) hev (by first | exact d_moveT rfl | exact d_move rfl) ?_
  refine AWo.nilB rfl rfl ty36 rfl (fun b hb => ?_)
  refine AWo.nil ?_
  refine AW.cond rfl (fun h4 => ?_) (fun h4 => ?_)
  · skip
    refine AW.seq ?_
    refine AW.region ?_
    refine AWo.go (f := 0) hev (by first | exact d_assignT rfl | exact d_assign rfl) ?_
    refine AWo.nil ?_
    refine AW.ret ?_
    exact .inl rfl
  · skip
    refine AW.skip ?_
    refine AW.seq ?_
    refine AW.region ?_
    refine AWo.go (f := 0) hev (d_lit0 rfl ty36 rfl ty38 rfl rfl) ?_
    refine AWo.go (f := 0) hev (by first | exact d_moveT rfl | exact d_move rfl) ?_
    refine AWo.go (f := 0) hev (d_app0 app36 rfl rfl (.inl (.inl rfl)) (.inr (.inr ⟨_, rfl⟩))) ?_
    refine AWo.go (f := 0) hev (by first | exact d_assignT rfl | exact d_assign rfl) ?_
    refine AWo.nil ?_
    refine AW.ret ?_
    exact .inl rfl

theorem clone38_row {m : Int} {ev : CallF} (hev : CallOk (cf m) ev) (es : List Tree) (hne : es ≠ []) (hu : Uni true 4 es) (hl : es.length ≤ 4194304) :
    CallRel (cf m) 64 [.t (.sl es)] [] (.ret (.ref (.loc [5]) 0 es.length) [] [(.loc [5], .arr (38, true) 4 false ((flat es).map .t))]) := by
  refine fn_start2 8 1 Tryz.func64 rfl (by decide) rfl rfl (by decide) ?_
  refine AW.seq ?_
  refine AW.region ?_
  refine AWo.go (f := 0) hev (by first | exact d_assignT rfl | exact d_assign rfl) ?_
  refine AWo.nil ?_
  refine AW.seq ?_
  refine AW.seq ?_
  refine AW.region ?_
  refine AWo.go (f := 0) hev (by first | exact d_moveT rfl | exact d_move rfl) ?_
  refine AWo.nilB rfl rfl ty36 rfl (fun b hb => ?_)
  have hb := hb hne
  subst hb
  refine AWo.nil ?_
  refine AW.cond rfl (fun h => absurd h (by decide)) (fun h => ?_)
  refine AW.skip ?_
  refine AW.seq ?_
  refine AW.region ?_
  refine AWo.go (f := 0) hev (d_lit0 rfl ty36 rfl ty38 rfl rfl) ?_
  refine AWo.go (f := 0) hev (by first | exact d_moveT rfl | exact d_move rfl) ?_
  refine AWo.go (f := 0) hev (d_appG app36 rfl rfl (.inl rfl) hu hne (by show es.length * 72 ≤ 70368744177664; omega)) ?_
  refine AWo.go (f := 0) hev (by first | exact d_assignT rfl | exact d_assign rfl) ?_
  refine AWo.nil ?_
  refine AW.ret ?_
  exact .inr (fin_ref rfl rfl rfl)

theorem clone45_nil {m : Int} {ev : CallF} (hev : CallOk (cf m) ev) : CallRel (cf m) 65 [.t (.sl [])] [] (.ret (.t (.sl [])) [] []) := by
  refine fn_start2 8 1 Tryz.func65 rfl (by decide) rfl rfl (by decide) ?_
  refine AW.seq ?_
  refine AW.region ?_
  refine AWo.go (f := 0) hev (by first | exact d_assignT rfl | exact d_assign rfl) ?_
  refine AWo.nil ?_
  refine AW.seq ?_
  refine AW.seq ?_
  refine AW.region ?_
  refine AWo.go (f := 0) hev (by first | exact d_moveT rfl | exact d_move rfl) ?_
  refine AWo.nilB rfl rfl ty31 rfl (fun b hb => ?_)
  refine AWo.nil ?_
  refine AW.cond rfl (fun h4 => ?_) (fun h4 => ?_)
  · skip
    refine AW.seq ?_
    refine AW.region ?_
    refine AWo.go (f := 0) hev (by first | exact d_assignT rfl | exact d_assign rfl) ?_
    refine AWo.nil ?_
    refine AW.ret ?_
    exact .inl rfl
  · skip
    refine AW.skip ?_
    refine AW.seq ?_
    refine AW.region ?_
    refine AWo.go (f := 0) hev (d_lit0 rfl ty31 rfl ty45 rfl rfl) ?_
    refine AWo.go (f := 0) hev (by first | exact d_moveT rfl | exact d_move rfl) ?_
    refine AWo.go (f := 0) hev (d_app0 app31 rfl rfl (.inl (.inl rfl)) (.inr (.inr ⟨_, rfl⟩))) ?_
    refine AWo.go (f := 0) hev (by first | exact d_assignT rfl | exact d_assign rfl) ?_
    refine AWo.nil ?_
    refine AW.ret ?_
    exact .inl rfl

theorem clone45_row {m : Int} {ev : CallF} (hev : CallOk (cf m) ev) (es : List Tree) (hne : es ≠ []) (hu : Uni true 5 es) (hl : es.length ≤ 4194304) :
    CallRel (cf m) 65 [.t (.sl es)] [] (.ret (.ref (.loc [5]) 0 es.length) [] [(.loc [5], .arr (45, true) 5 false ((flat es).map .t))]) := by
  refine fn_start2 8 1 Tryz.func65 rfl (by decide) rfl rfl (by decide) ?_
  refine AW.seq ?_
  refine AW.region ?_
  refine AWo.go (f := 0) hev (by first | exact d_assignT rfl | exact d_assign rfl) ?_
  refine AWo.nil ?_
  refine AW.seq ?_
  refine AW.seq ?_
  refine AW.region ?_
  refine AWo.go (f := 0) hev (by first | exact d_moveT rfl | exact d_move rfl) ?_
  refine AWo.nilB rfl rfl ty31 rfl (fun b hb => ?_)
  have hb := hb hne
  subst hb
  refine AWo.nil ?_
  refine AW.cond rfl (fun h => absurd h (by decide)) (fun h => ?_)
  refine AW.skip ?_
  refine AW.seq ?_
  refine AW.region ?_
  refine AWo.go (f := 0) hev (d_lit0 rfl ty31 rfl ty45 rfl rfl) ?_
  refine AWo.go (f := 0) hev (by first | exact d_moveT rfl | exact d_move rfl) ?_
  refine AWo.go (f := 0) hev (d_appG app31 rfl rfl (.inl rfl) hu hne (by show es.length * 88 ≤ 70368744177664; omega)) ?_
  refine AWo.go (f := 0) hev (by first | exact d_assignT rfl | exact d_assign rfl) ?_
  refine AWo.nil ?_
  refine AW.ret ?_
  exact .inr (fin_ref rfl rfl rfl)

theorem attrs_nil {m : Int} (ev : CallF) (hev : CallOk (cf m) ev) (hc0 : ev 65 [.t (.sl [])] [] = some (.ret (.t (.sl [])) [] [])) : CallRel (cf m) 53 [.t (.sl [])] [] (.ret (.t (.sl [])) [] []) := by
  refine fn_start2 23 1 Tryz.func53 rfl (by decide) rfl rfl (by decide) ?_
  refine AW.seq ?_
  refine AW.region ?_
  refine AWo.go (f := 0) hev (by first | exact d_assignT rfl | exact d_assign rfl) ?_
  refine AWo.nil ?_
  refine AW.seq ?_
  refine AW.region ?_
  refine AWo.go (f := 0) hev (by first | exact d_moveT rfl | exact d_move rfl) ?_
  refine AWo.go (f := 0) hev (d_callT (rh1 rfl) hc0) ?_
  refine AWo.go (f := 0) hev (by first | exact d_assignT rfl | exact d_assign rfl) ?_
  refine AWo.nil ?_
  refine AW.seq ?_
  refine AW.seq ?_
  refine AW.region ?_
  refine AWo.go (f := 0) hev (by first | exact d_moveT rfl | exact d_move rfl) ?_
  refine AWo.go (f := 0) hev (by first | exact d_lenT rfl ty31 rfl | exact d_lenR rfl ty31 rfl | exact d_lenN rfl ty31 rfl | exact d_lenG rfl ty31 rfl) ?_
  refine AWo.go (f := 0) hev (d_moveT rfl) ?_
  refine AWo.nil ?_
  refine AW.block ?_
  refine AW.loop (α := Unit) (fun _ => _) (fun _ => True) (fun _ => 0) () (Re.refl _) trivial (fun _ _ => ?_)
  refine AW.seq ?_
  refine AW.region ?_
  refine AWo.go (f := 0) hev (d_ltI rfl rfl) ?_
  refine AWo.nil ?_
  refine AW.seq ?_
  refine AW.cond rfl (fun h => absurd h (by decide)) (fun h => ?_)
  refine AW.exit ?_
  refine AW.seq ?_
  refine AW.region ?_
  refine AWo.go (f := 0) hev (by first | exact d_moveT rfl | exact d_move rfl) ?_
  refine AWo.go (f := 0) hev (by first | exact d_assignT rfl | exact d_assign rfl) ?_
  refine AWo.nil ?_
  refine AW.ret ?_
  exact .inl rfl

theorem attrs_row {m : Int} (ev : CallF) (hev : CallOk (cf m) ev) (l : List Tree) (hne : l ≠ []) (hl : l.length ≤ 4194304) (Ty : Tree → Prop) (hat : ∀ e ∈ l, ∃ nm k s o a, e = .agg [.str nm, .int .u8 k, .str s, .sl o, .sl a] ∧ Ty (.agg [.int .u8 k, .str s, .sl o, .sl a]))
    (hc : ev 65 [.t (.sl l)] [] = some (.ret (.ref (.loc [5]) 0 l.length) [] [(.loc [5], .arr (45, true) 5 false ((flat l).map .t))])) (ho : ∀ x, Ty x → ev 94 [.t x] [] = some (.ret (.t x) [] [])) (r : FRes)
    (hfin : r = .ret (.t (.sl l)) [] [] ∨ r = .ret (.ref (.loc [0]) 0 l.length) [] [(.loc [0], .arr (45, true) 5 false ((flat l).map .t))]) : CallRel (cf m) 53 [.t (.sl l)] [] r := by
  have hu : Uni true 5 l := fun e he => by obtain ⟨nm, k, s, o, a, rfl, _⟩ := hat e he; exact ⟨rfl, rfl, rfl⟩
  have hlen : l.length * 5 = ((flat l).map TV.t).length := hu.length.symm
  refine fn_start2 23 1 Tryz.func53 rfl (by decide) rfl rfl (by decide) ?_
  refine AW.seq ?_
  refine AW.region ?_
  refine AWo.go (f := 0) hev (by first | exact d_assignT rfl | exact d_assign rfl) ?_
  refine AWo.nil ?_
  refine AW.seq ?_
  refine AW.region ?_
  refine AWo.go (f := 0) hev (by first | exact d_moveT rfl | exact d_move rfl) ?_
  refine AWo.go (f := 0) hev (d_callN (rh1 rfl) hc rfl news_row) ?_
  refine AWo.go (f := 0) hev (by first | exact d_assignT rfl | exact d_assign rfl) ?_
  refine AWo.nil ?_
  refine AW.seq ?_
  refine AW.seq ?_
  refine AW.region ?_
  refine AWo.go (f := 0) hev (by first | exact d_moveT rfl | exact d_move rfl) ?_
  refine AWo.go (f := 0) hev (by first | exact d_lenT rfl ty31 rfl | exact d_lenR rfl ty31 rfl | exact d_lenN rfl ty31 rfl | exact d_lenG rfl ty31 rfl) ?_
  refine AWo.go (f := 0) hev (d_moveT rfl) ?_
  refine AWo.nil ?_
  refine AW.block ?_
  refine AW.loop (α := Nat) (fun i => ⟨frm 23 [(0, .ref (.loc [0]) 0 l.length), (7, .t (.int .i64 l.length)), (8, .t (.int .i64 i))], [(.loc [0], .arr (45, true) 5 false ((flat l).map .t))], 1⟩) (fun i => i ≤ l.length) (fun i => l.length - i) 0 (Re.sq [.loc [2, 5]] ⟨rfl, rfl, rfl, trivial⟩ ⟨⟨.loc [2, 5], _, rfl, rfl, .inl rn_row⟩, trivial⟩ (by decide) rfl rfl (by decide)) (Nat.zero_le _) (fun i hi => ?_)
  refine AW.seq ?_
  refine AW.region ?_
  refine AWo.go (f := 0) hev (d_ltI rfl rfl) ?_
  refine AWo.nil ?_
  refine AW.seq ?_
  refine AW.cond rfl (fun h9 => ?_) (fun h9 => ?_)
  · have hlt : i < l.length := by have := of_decide_eq_true h9; omega
    obtain ⟨e, he⟩ : ∃ e, l[i]? = some e := ⟨l[i], List.getElem?_eq_getElem hlt⟩
    obtain ⟨nm, k, s, o, a, rfl, hty⟩ := hat e (List.mem_of_getElem? he)
    refine AW.skip ?_
    refine AW.seq ?_
    refine AW.block ?_
    refine AW.seq ?_
    refine AW.region ?_
    refine AWo.go (f := 0) hev (d_moveT rfl) ?_
    refine AWo.go (f := 0) hev (d_assignT rfl) ?_
    refine AWo.nil ?_
    refine AW.region ?_
    refine AWo.go (f := 0) hev (by first | exact d_moveT rfl | exact d_move rfl) ?_
    refine AWo.go (f := 0) hev (d_moveT rfl) ?_
    refine AWo.go (f := 0) hev (by first | exact d_moveT rfl | exact d_move rfl) ?_
    refine AWo.go (f := 0) hev (d_moveT rfl) ?_
    refine AWo.go (f := 0) hev (d_indexR rfl rfl ty31 rfl ty45 rfl (by decide) hlen hlt) ?_
    refine AWo.go (f := 0) hev (d_fieldAddr rfl fo45_1 (padd rfl)) ?_
    refine AWo.go (f := 0) hev (d_load (v := .t (.agg [.int .u8 k, .str s, .sl o, .sl a])) rfl (lda ty38 rfl (part_row hu.lens he (by decide)))) ?_
    refine AWo.go (f := 0) hev (d_callT (rh1 rfl) (ho _ hty)) ?_
    refine AWo.go (f := 0) hev (d_indexR rfl rfl ty31 rfl ty45 rfl (by decide) hlen hlt) ?_
    refine AWo.go (f := 0) hev (d_fieldAddr rfl fo45_1 (padd rfl)) ?_
    refine AWo.go0 (f := 0) hev (d_store rfl rfl (sta ty38 rfl rfl (by show i * 5 + 1 + 4 ≤ _; rw [hu.length]; omega))) ?_
    refine AWo.nil ?_
    refine AW.region ?_
    refine AWo.go (f := 0) hev (d_add64 rfl rfl (by omega) (by omega)) ?_
    refine AWo.go (f := 0) hev (d_moveT rfl) ?_
    refine AWo.nil ?_
    exact ⟨i + 1, hlt, Nat.sub_lt_sub_left hlt (Nat.lt_succ_self i), Re.sq [.loc [0]] ⟨rfl, rfl, rfl, trivial⟩ ⟨⟨.loc [0], _, rfl, rfl, .inl (rn_row_eq (set_row (j := 1) (m := 4) hu.lens he (by decide)))⟩, trivial⟩ (by decide) rfl rfl (by decide)⟩
  · have hie : i = l.length := by have := of_decide_eq_false h9; omega
    subst hie
    skip
    refine AW.exit ?_
    refine AW.seq ?_
    refine AW.region ?_
    refine AWo.go (f := 0) hev (by first | exact d_moveT rfl | exact d_move rfl) ?_
    refine AWo.go (f := 0) hev (by first | exact d_assignT rfl | exact d_assign rfl) ?_
    refine AWo.nil ?_
    refine AW.ret ?_
    exact Or.elim hfin (fun h => by subst h; exact .inl (fin_data rfl (frz_row rfl hu (by decide) rfl))) (fun h => by subst h; exact .inr (fin_ref rfl rfl rfl))

theorem own_nil {m : Int} (ev : CallF) (hev : CallOk (cf m) ev) (k : Int) (s : List UInt8) (bs : List Tree) (hc0 : ev 64 [.t (.sl [])] [] = some (.ret (.t (.sl [])) [] [])) (ha : ev 53 [.t (.sl bs)] [] = some (.ret (.t (.sl bs)) [] [])) :
    CallRel (cf m) 94 [.t (.agg [.int .u8 k, .str s, .sl [], .sl bs])] [] (.ret (.t (.agg [.int .u8 k, .str s, .sl [], .sl bs])) [] []) := by
  refine fn_start2 30 1 Tryz.func94 rfl (by decide) rfl rfl (by decide) ?_
  refine AW.seq ?_
  refine AW.region ?_
  refine AWo.go (f := 0) hev (d_box rfl rfl) ?_
  refine AWo.go (f := 0) hev (d_alloc ty38 rfl rfl) ?_
  refine AWo.nil ?_
  refine AW.seq ?_
  refine AW.draw (f := 0) orders hev ?_
  refine AWd.go rfl (d_fieldAddr rfl fo38_2 rfl) ?_
  refine AWd.go rfl ((by first | exact d_loadT rfl (ld ty36 rfl rfl) | exact d_load rfl (ld ty36 rfl rfl))) ?_
  refine AWd.go rfl (d_callT (rh1 rfl) hc0) ?_
  refine AWd.go rfl (d_fieldAddr rfl fo38_3 rfl) ?_
  refine AWd.go rfl ((by first | exact d_loadT rfl (ld ty31 rfl rfl) | exact d_load rfl (ld ty31 rfl rfl))) ?_
  refine AWd.go rfl (d_callT (rh1 rfl) ha) ?_
  refine AWd.go rfl (d_fieldAddr rfl fo38_2 rfl) ?_
  refine AWd.go0 rfl (d_store rfl rfl (stt ty36 rfl rfl)) ?_
  refine AWd.go rfl (d_fieldAddr rfl fo38_3 rfl) ?_
  refine AWd.go0 rfl (d_store rfl rfl (stt ty31 rfl rfl)) ?_
  refine AWd.nil ⟨rfl, rfl, ?_⟩
  refine AW.seq ?_
  refine AW.seq ?_
  refine AW.region ?_
  refine AWo.go (f := 0) hev (d_fieldAddr rfl fo38_2 rfl) ?_
  refine AWo.go (f := 0) hev (by first | exact d_loadT rfl (ld ty36 rfl rfl) | exact d_load rfl (ld ty36 rfl rfl)) ?_
  refine AWo.go (f := 0) hev (by first | exact d_lenT rfl ty36 rfl | exact d_lenR rfl ty36 rfl | exact d_lenN rfl ty36 rfl | exact d_lenG rfl ty36 rfl) ?_
  refine AWo.go (f := 0) hev (d_moveT rfl) ?_
  refine AWo.nil ?_
  refine AW.block ?_
  refine AW.loop (α := Unit) (fun _ => _) (fun _ => True) (fun _ => 0) () (Re.refl _) trivial (fun _ _ => ?_)
  refine AW.seq ?_
  refine AW.region ?_
  refine AWo.go (f := 0) hev (d_ltI rfl rfl) ?_
  refine AWo.nil ?_
  refine AW.seq ?_
  refine AW.cond rfl (fun h => absurd h (by decide)) (fun h => ?_)
  refine AW.exit ?_
  refine AW.seq ?_
  refine AW.region ?_
  refine AWo.go (f := 0) hev (by first | exact d_loadT rfl (ld ty38 rfl rfl) | exact d_load rfl (ld ty38 rfl rfl)) ?_
  refine AWo.go0 (f := 0) hev (d_store rfl rfl (stt ty38 rfl rfl)) ?_
  refine AWo.nil ?_
  refine AW.ret ?_
  exact .inl (fin_data rfl rfl)

theorem own_row {m : Int} (ev : CallF) (hev : CallOk (cf m) ev) (k : Int) (s : List UInt8) (os bs : List Tree) (hne : os ≠ []) (hl : os.length ≤ 4194304) (Ty : Tree → Prop) (hform : ∀ x, Ty x → ∃ k s o a, x = .agg [.int .u8 k, .str s, .sl o, .sl a]) (hos : ∀ x ∈ os, Ty x)
    (hc : ev 64 [.t (.sl os)] [] = some (.ret (.ref (.loc [5]) 0 os.length) [] [(.loc [5], .arr (38, true) 4 false ((flat os).map .t))])) (ho : ∀ x, Ty x → ev 94 [.t x] [] = some (.ret (.t x) [] []))
    (ha : ev 53 [.t (.sl bs)] [] = some (.ret (.t (.sl bs)) [] [])) :
    CallRel (cf m) 94 [.t (.agg [.int .u8 k, .str s, .sl os, .sl bs])] [] (.ret (.t (.agg [.int .u8 k, .str s, .sl os, .sl bs])) [] []) := by
  have hu : Uni true 4 os := fun e he => by obtain ⟨k, s, o, a, rfl⟩ := hform e (hos e he); exact ⟨rfl, rfl, rfl⟩
  have hlen : os.length * 4 = ((flat os).map TV.t).length := hu.length.symm
  refine fn_start2 30 1 Tryz.func94 rfl (by decide) rfl rfl (by decide) ?_
  refine AW.seq ?_
  refine AW.region ?_
  refine AWo.go (f := 0) hev (d_box rfl rfl) ?_
  refine AWo.go (f := 0) hev (d_alloc ty38 rfl rfl) ?_
  refine AWo.nil ?_
  refine AW.seq ?_
  refine AW.draw (f := 0) orders hev ?_
  refine AWd.go rfl (d_fieldAddr rfl fo38_2 rfl) ?_
  refine AWd.go rfl ((by first | exact d_loadT rfl (ld ty36 rfl rfl) | exact d_load rfl (ld ty36 rfl rfl))) ?_
  refine AWd.go rfl (d_callN (rh1 rfl) hc rfl news_row) ?_
  refine AWd.go rfl (d_fieldAddr rfl fo38_3 rfl) ?_
  refine AWd.go rfl ((by first | exact d_loadT rfl (ld ty31 rfl rfl) | exact d_load rfl (ld ty31 rfl rfl))) ?_
  refine AWd.go rfl (d_callT (rh1 rfl) ha) ?_
  refine AWd.go rfl (d_fieldAddr rfl fo38_2 rfl) ?_
  refine AWd.go0 rfl (d_store rfl rfl (stt ty36 rfl rfl)) ?_
  refine AWd.go rfl (d_fieldAddr rfl fo38_3 rfl) ?_
  refine AWd.go0 rfl (d_store rfl rfl (stt ty31 rfl rfl)) ?_
  refine AWd.nil ⟨rfl, rfl, ?_⟩
  refine AW.seq ?_
  refine AW.seq ?_
  refine AW.region ?_
  refine AWo.go (f := 0) hev (d_fieldAddr rfl fo38_2 rfl) ?_
  refine AWo.go (f := 0) hev (by first | exact d_loadT rfl (ld ty36 rfl rfl) | exact d_load rfl (ld ty36 rfl rfl)) ?_
  refine AWo.go (f := 0) hev (by first | exact d_lenT rfl ty36 rfl | exact d_lenR rfl ty36 rfl | exact d_lenN rfl ty36 rfl | exact d_lenG rfl ty36 rfl) ?_
  refine AWo.go (f := 0) hev (d_moveT rfl) ?_
  refine AWo.nil ?_
  refine AW.block ?_
  refine AW.loop (α := Nat) (fun i => ⟨frm 30 [(1, .ptr (.loc [0]) 0), (2, .ptr (.loc [1]) 0), (14, .t (.int .i64 os.length)), (15, .t (.int .i64 i))], [(.loc [0], .cells 38 [.t (.int .u8 k), .t (.str s), .ref (.loc [2]) 0 os.length, .t (.sl bs)]), (.loc [1], .cells 38 [.t (.int .u8 0), .t (.str []), .nils, .nils]), (.loc [2], .arr (38, true) 4 false ((flat os).map .t))], 3⟩) (fun i => i ≤ os.length) (fun i => os.length - i) 0 (Re.sq [.loc [0], .loc [1], .loc [4, 5]] ⟨rfl, rfl, rfl, rfl, trivial⟩ ⟨⟨.loc [0], _, rfl, rfl, .inl rfl⟩, ⟨.loc [1], _, rfl, rfl, .inl rfl⟩, ⟨.loc [4, 5], _, rfl, rfl, .inl rn_row⟩, trivial⟩ (by decide) rfl rfl (by decide)) (Nat.zero_le _) (fun i hi => ?_)
  refine AW.seq ?_
  refine AW.region ?_
  refine AWo.go (f := 0) hev (d_ltI rfl rfl) ?_
  refine AWo.nil ?_
  refine AW.seq ?_
  refine AW.cond rfl (fun h16 => ?_) (fun h16 => ?_)
  · have hlt : i < os.length := by have := of_decide_eq_true h16; omega
    obtain ⟨x, he⟩ : ∃ x, os[i]? = some x := ⟨os[i], List.getElem?_eq_getElem hlt⟩
    have hty := hos x (List.mem_of_getElem? he)
    have hsh := hform x hty
    refine AW.skip ?_
    refine AW.seq ?_
    refine AW.block ?_
    refine AW.seq ?_
    refine AW.region ?_
    refine AWo.go (f := 0) hev (d_moveT rfl) ?_
    refine AWo.go (f := 0) hev (d_assignT rfl) ?_
    refine AWo.nil ?_
    refine AW.draw (f := 0) orders hev ?_
    refine AWd.go rfl (d_fieldAddr rfl fo38_2 rfl) ?_
    refine AWd.go rfl ((by first | exact d_loadT rfl (ld ty36 rfl rfl) | exact d_load rfl (ld ty36 rfl rfl))) ?_
    refine AWd.go rfl (d_moveT rfl) ?_
    refine AWd.go rfl (d_fieldAddr rfl fo38_2 rfl) ?_
    refine AWd.go rfl ((by first | exact d_loadT rfl (ld ty36 rfl rfl) | exact d_load rfl (ld ty36 rfl rfl))) ?_
    refine AWd.go rfl (d_moveT rfl) ?_
    refine AWd.go rfl (d_indexR rfl rfl ty36 rfl ty38 rfl (by decide) hlen hlt) ?_
    refine AWd.go rfl (d_load (v := .t x) rfl (lda ty38 rfl (by obtain ⟨_, _, _, _, rfl⟩ := hsh; exact part_row (j := 0) hu.lens he (by decide)))) ?_
    refine AWd.go rfl (d_callT (rh1 rfl) (ho _ hty)) ?_
    refine AWd.go rfl (d_indexR rfl rfl ty36 rfl ty38 rfl (by decide) hlen hlt) ?_
    refine AWd.go0 rfl (d_store rfl rfl (sta ty38 rfl (by obtain ⟨_, _, _, _, rfl⟩ := hsh; rfl) (by show i * 4 + 4 ≤ _; rw [hu.length]; omega))) ?_
    refine AWd.nil ⟨rfl, rfl, ?_⟩
    refine AW.region ?_
    refine AWo.go (f := 0) hev (d_add64 rfl rfl (by omega) (by omega)) ?_
    refine AWo.go (f := 0) hev (d_moveT rfl) ?_
    refine AWo.nil ?_
    exact ⟨i + 1, hlt, Nat.sub_lt_sub_left hlt (Nat.lt_succ_self i), Re.sq [.loc [0], .loc [1], .loc [2]] ⟨rfl, rfl, rfl, rfl, trivial⟩ ⟨⟨.loc [0], _, rfl, rfl, .inl rfl⟩, ⟨.loc [1], _, rfl, rfl, .inl rfl⟩, ⟨.loc [2], _, rfl, rfl, .inl (rn_row_eq (by obtain ⟨_, _, _, _, rfl⟩ := hsh; exact set_row (j := 0) (m := 4) hu.lens he (by decide)))⟩, trivial⟩ (by decide) rfl rfl (by decide)⟩
  · have hie : i = os.length := by have := of_decide_eq_false h16; omega
    subst hie
    skip
    refine AW.exit ?_
    refine AW.seq ?_
    refine AW.region ?_
    refine AWo.go (f := 0) hev (by first | exact d_loadT rfl (ld ty38 rfl rfl) | exact d_load rfl (ld ty38 rfl rfl)) ?_
    refine AWo.go0 (f := 0) hev (d_store rfl rfl (stt ty38 rfl rfl)) ?_
    refine AWo.nil ?_
    refine AW.ret ?_
    exact .inl (fin_data rfl (frz_part rfl hu (by decide)))

theorem word_at {m : Int} {ev : CallF} (hev : CallOk (cf m) ev) (b0 b1 b2 b3 b4 b5 b6 b7 : UInt8) (r : List UInt8) :
    ∃ z : Int, CallRel (cf m) 73 [.t (.str (b0 :: b1 :: b2 :: b3 :: b4 :: b5 :: b6 :: b7 :: r))] [] (.ret (.t (.int .u64 z)) [] []) := by
  refine AX.start 59 1 Tryz.func73 rfl (by decide) rfl rfl (by decide) ?_
  refine AX.seq ?_
  refine AX.region ?_
  refine AXo.go (f := 0) hev (d_assign rfl) ?_
  refine AXo.nil ?_
  refine AX.seq ?_
  refine AX.condF rfl rfl ?_
  refine AX.skip ?_
  refine AX.seq ?_
  refine AX.draw (f := 0) orders hev ?_
  refine AXd.go rfl (d_move rfl) ?_
  refine AXd.go rfl (d_byte rfl rfl ty9 rfl rfl) ?_
  refine AXd.go rfl (d_conv rfl cv5_173) ?_
  refine AXd.go rfl (d_move rfl) ?_
  refine AXd.go rfl (d_byte rfl rfl ty9 rfl rfl) ?_
  refine AXd.go rfl (d_conv rfl cv5_173) ?_
  refine AXd.go rfl (d_bin rfl rfl rfl) ?_
  refine AXd.go rfl (d_bin rfl rfl rfl) ?_
  refine AXd.go rfl (d_move rfl) ?_
  refine AXd.go rfl (d_byte rfl rfl ty9 rfl rfl) ?_
  refine AXd.go rfl (d_conv rfl cv5_173) ?_
  refine AXd.go rfl (d_bin rfl rfl rfl) ?_
  refine AXd.go rfl (d_bin rfl rfl rfl) ?_
  refine AXd.go rfl (d_move rfl) ?_
  refine AXd.go rfl (d_byte rfl rfl ty9 rfl rfl) ?_
  refine AXd.go rfl (d_conv rfl cv5_173) ?_
  refine AXd.go rfl (d_bin rfl rfl rfl) ?_
  refine AXd.go rfl (d_bin rfl rfl rfl) ?_
  refine AXd.go rfl (d_move rfl) ?_
  refine AXd.go rfl (d_byte rfl rfl ty9 rfl rfl) ?_
  refine AXd.go rfl (d_conv rfl cv5_173) ?_
  refine AXd.go rfl (d_bin rfl rfl rfl) ?_
  refine AXd.go rfl (d_bin rfl rfl rfl) ?_
  refine AXd.go rfl (d_move rfl) ?_
  refine AXd.go rfl (d_byte rfl rfl ty9 rfl rfl) ?_
  refine AXd.go rfl (d_conv rfl cv5_173) ?_
  refine AXd.go rfl (d_bin rfl rfl rfl) ?_
  refine AXd.go rfl (d_bin rfl rfl rfl) ?_
  refine AXd.go rfl (d_move rfl) ?_
  refine AXd.go rfl (d_byte rfl rfl ty9 rfl rfl) ?_
  refine AXd.go rfl (d_conv rfl cv5_173) ?_
  refine AXd.go rfl (d_bin rfl rfl rfl) ?_
  refine AXd.go rfl (d_bin rfl rfl rfl) ?_
  refine AXd.go rfl (d_move rfl) ?_
  refine AXd.go rfl (d_byte rfl rfl ty9 rfl rfl) ?_
  refine AXd.go rfl (d_conv rfl cv5_173) ?_
  refine AXd.go rfl (d_bin rfl rfl rfl) ?_
  refine AXd.go rfl (d_bin rfl rfl rfl) ?_
  refine AXd.go rfl (d_assign rfl) ?_
  refine AXd.nil (ex_and2 rfl rfl ?_)
  refine AX.ret ?_
  exact ⟨_, .inl rfl⟩
end
end Go.Proofs.YtijfhoelihclbaaGreatDoor.w
