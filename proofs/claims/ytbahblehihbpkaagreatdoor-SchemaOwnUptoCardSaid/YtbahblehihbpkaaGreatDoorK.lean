/- schema: clones of rows, types of their own memory; copies, comparisons. -/
import Derived.Test.YtbahblehihbpkaaGreatDoorF
import Derived.Test.YtbahblehihbpkaaGreatDoorJ
namespace Go.Proofs.YtbahblehihbpkaaGreatDoor.w
open Go Go.Abs
set_option linter.unusedVariables false
set_option maxRecDepth 100000
set_option maxHeartbeats 1000000

noncomputable section
noncomputable def descOf (t : TypeId) : TypeDesc := (Tryz.prog.underlying t).getD .bool
noncomputable def cf (m : Int) : Cfg := { P := live.prg, glob := (live.cfg m).glob, asArr := fun f _ => f == 1 }
theorem orders {m : Int} : (cf m).P.prog.follows .mixedOrders = true := by kernel_rfl
abbrev ti9 : TI := { size := 1, bytes := 16, agg := false, zero := some (.t (.str [])), desc := .string }
theorem ty9 {m : Int} : (cf m).P.ty 9 = some ti9 := by kernel_rfl
abbrev ti22 : TI := { size := 1, bytes := 1, agg := false, zero := some (.t (.int .u8 0)), desc := .int .u8 }
theorem ty22 {m : Int} : (cf m).P.ty 22 = some ti22 := by kernel_rfl
abbrev ti23 : TI := { size := 1, bytes := 24, agg := false, zero := some (.nils), desc := .slice 26 }
theorem ty23 {m : Int} : (cf m).P.ty 23 = some ti23 := by kernel_rfl
abbrev ti24 : TI := { size := 1, bytes := 24, agg := false, zero := some (.nils), desc := .slice 31 }
theorem ty24 {m : Int} : (cf m).P.ty 24 = some ti24 := by kernel_rfl
abbrev ti26 : TI := { size := 4, bytes := 72, agg := true, zero := some (.agg [.t (.int .u8 0), .t (.str []), .nils, .nils]), desc := descOf 26 }
theorem ty26 {m : Int} : (cf m).P.ty 26 = some ti26 := by kernel_rfl
abbrev ti31 : TI := { size := 5, bytes := 88, agg := true, zero := some (.agg [.t (.str []), .t (.int .u8 0), .t (.str []), .nils, .nils]), desc := descOf 31 }
theorem ty31 {m : Int} : (cf m).P.ty 31 = some ti31 := by kernel_rfl
abbrev ti33 : TI := { size := 1, bytes := 24, agg := false, zero := some (.nils), desc := .slice 40 }
theorem ty33 {m : Int} : (cf m).P.ty 33 = some ti33 := by kernel_rfl
abbrev ti34 : TI := { size := 1, bytes := 24, agg := false, zero := some (.nils), desc := .slice 44 }
theorem ty34 {m : Int} : (cf m).P.ty 34 = some ti34 := by kernel_rfl
abbrev ti36 : TI := { size := 2, bytes := 48, agg := true, zero := some (.agg [.nils, .nils]), desc := descOf 36 }
theorem ty36 {m : Int} : (cf m).P.ty 36 = some ti36 := by kernel_rfl
abbrev ti38 : TI := { size := 1, bytes := 24, agg := false, zero := some (.nils), desc := .slice 9 }
theorem ty38 {m : Int} : (cf m).P.ty 38 = some ti38 := by kernel_rfl
abbrev ti40 : TI := { size := 3, bytes := 64, agg := true, zero := some (.agg [.t (.str []), .nils, .nils]), desc := descOf 40 }
theorem ty40 {m : Int} : (cf m).P.ty 40 = some ti40 := by kernel_rfl
abbrev ti44 : TI := { size := 4, bytes := 88, agg := true, zero := some (.agg [.t (.str []), .nils, .nils, .nils]), desc := descOf 44 }
theorem ty44 {m : Int} : (cf m).P.ty 44 = some ti44 := by kernel_rfl
theorem bl31 {m : Int} : bld (cf m).P 31 = some ([.t (.str []), .t (.int .u8 0), .t (.str []), .nils, .nils], [(0, 1), (1, 4)]) := by kernel_rfl
theorem app23 {m : Int} : AppTy (cf m).P 23 26 ti26 := ⟨⟨_, ty23, rfl⟩, ty26, _, rfl, by decide, rfl, by decide⟩
theorem app24 {m : Int} : AppTy (cf m).P 24 31 ti31 := ⟨⟨_, ty24, rfl⟩, ty31, _, rfl, by decide, rfl, by decide⟩
theorem app33 {m : Int} : AppTy (cf m).P 33 40 ti40 := ⟨⟨_, ty33, rfl⟩, ty40, _, rfl, by decide, rfl, by decide⟩
theorem app34 {m : Int} : AppTy (cf m).P 34 44 ti44 := ⟨⟨_, ty34, rfl⟩, ty44, _, rfl, by decide, rfl, by decide⟩
theorem app38 {m : Int} : AppTy (cf m).P 38 9 ti9 := ⟨⟨_, ty38, rfl⟩, ty9, _, rfl, by decide, rfl, by decide⟩
theorem fo26_0 {m : Int} : fieldOff (cf m).P 26 0 = some 0 := by kernel_rfl
theorem fo26_1 {m : Int} : fieldOff (cf m).P 26 1 = some 1 := by kernel_rfl
theorem fo26_2 {m : Int} : fieldOff (cf m).P 26 2 = some 2 := by kernel_rfl
theorem fo26_3 {m : Int} : fieldOff (cf m).P 26 3 = some 3 := by kernel_rfl
theorem fo31_0 {m : Int} : fieldOff (cf m).P 31 0 = some 0 := by kernel_rfl
theorem fo31_1 {m : Int} : fieldOff (cf m).P 31 1 = some 1 := by kernel_rfl
theorem fo36_0 {m : Int} : fieldOff (cf m).P 36 0 = some 0 := by kernel_rfl
theorem fo36_1 {m : Int} : fieldOff (cf m).P 36 1 = some 1 := by kernel_rfl
theorem fo40_0 {m : Int} : fieldOff (cf m).P 40 0 = some 0 := by kernel_rfl
theorem fo40_1 {m : Int} : fieldOff (cf m).P 40 1 = some 1 := by kernel_rfl
theorem fo40_2 {m : Int} : fieldOff (cf m).P 40 2 = some 2 := by kernel_rfl
theorem fo44_0 {m : Int} : fieldOff (cf m).P 44 0 = some 0 := by kernel_rfl
theorem fo44_1 {m : Int} : fieldOff (cf m).P 44 1 = some 1 := by kernel_rfl
theorem fo44_2 {m : Int} : fieldOff (cf m).P 44 2 = some 2 := by kernel_rfl
theorem fo44_3 {m : Int} : fieldOff (cf m).P 44 3 = some 3 := by kernel_rfl

theorem clone9_nil {m : Int} {ev : CallF} (hev : CallOk (cf m) ev) : CallRel (cf m) 17 [.t (.sl [])] [] (.ret (.t (.sl [])) [] []) := by
  refine fn_start2 8 1 Tryz.func17 rfl (by decide) rfl rfl (by decide) ?_
  refine AW.seq ?_
  refine AW.region ?_
  refine AWo.go (f := 0) hev (by first | exact d_assignT rfl | exact d_assign rfl) ?_
  refine AWo.nil ?_
  refine AW.seq ?_
  refine AW.seq ?_
  refine AW.region ?_
  refine AWo.go (f := 0) hev (by first | exact d_moveT rfl | exact d_move rfl) ?_
  refine AWo.nilB rfl rfl ty38 rfl (fun b hb => ?_)
  refine AWo.nil ?_
  refine AW.cond rfl (fun h4 => ?_) (fun h4 => ?_)
  · skip
    refine AW.seq ?_
    refine AW.region ?_
    refine AWo.go (f := 0) hev (by first | exact d_assignT rfl | exact d_assign rfl) ?_
    refine AWo.nil ?_
    refine AW.ret ?_
    exact .inl rfl
  · skip
    refine AW.skip ?_
    refine AW.seq ?_
    refine AW.region ?_
    refine AWo.go (f := 0) hev (d_lit0 rfl ty38 rfl ty9 rfl rfl) ?_
    refine AWo.go (f := 0) hev (by first | exact d_moveT rfl | exact d_move rfl) ?_
    refine AWo.go (f := 0) hev (d_app0 app38 rfl rfl (.inl (.inl rfl)) (.inr (.inr ⟨_, rfl⟩))) ?_
    refine AWo.go (f := 0) hev (by first | exact d_assignT rfl | exact d_assign rfl) ?_
    refine AWo.nil ?_
    refine AW.ret ?_
    exact .inl rfl

theorem clone9_row {m : Int} {ev : CallF} (hev : CallOk (cf m) ev) (es : List Tree) (hne : es ≠ []) (hu : Uni false 1 es) (hl : es.length ≤ 4194304) :
    CallRel (cf m) 17 [.t (.sl es)] [] (.ret (.ref (.loc [5]) 0 es.length) [] [(.loc [5], .arr (9, false) 1 false ((flat es).map .t))]) := by
  refine fn_start2 8 1 Tryz.func17 rfl (by decide) rfl rfl (by decide) ?_
  refine AW.seq ?_
  refine AW.region ?_
  refine AWo.go (f := 0) hev (by first | exact d_assignT rfl | exact d_assign rfl) ?_
  refine AWo.nil ?_
  refine AW.seq ?_
  refine AW.seq ?_
  refine AW.region ?_
  refine AWo.go (f := 0) hev (by first | exact d_moveT rfl | exact d_move rfl) ?_
  refine AWo.nilB rfl rfl ty38 rfl (fun b hb => ?_)
  have hb := hb hne
  subst hb
  refine AWo.nil ?_
  refine AW.cond rfl (fun h => absurd h (by decide)) (fun h => ?_)
  refine AW.skip ?_
  refine AW.seq ?_
  refine AW.region ?_
  refine AWo.go (f := 0) hev (d_lit0 rfl ty38 rfl ty9 rfl rfl) ?_
  refine AWo.go (f := 0) hev (by first | exact d_moveT rfl | exact d_move rfl) ?_
  refine AWo.go (f := 0) hev (d_appG app38 rfl rfl (.inl rfl) hu hne (by show es.length * 16 ≤ 70368744177664; omega)) ?_
  refine AWo.go (f := 0) hev (by first | exact d_assignT rfl | exact d_assign rfl) ?_
  refine AWo.nil ?_
  refine AW.ret ?_
  exact .inr (fin_ref rfl rfl rfl)

theorem clone26_nil {m : Int} {ev : CallF} (hev : CallOk (cf m) ev) : CallRel (cf m) 91 [.t (.sl [])] [] (.ret (.t (.sl [])) [] []) := by
  refine fn_start2 8 1 Tryz.func91 rfl (by decide) rfl rfl (by decide) ?_
  refine AW.seq ?_
  refine AW.region ?_
  refine AWo.go (f := 0) hev (by first | exact d_assignT rfl | exact d_assign rfl) ?_
  refine AWo.nil ?_
  refine AW.seq ?_
  refine AW.seq ?_
  refine AW.region ?_
  refine AWo.go (f := 0) hev (by first | exact d_moveT rfl | exact d_move rfl) ?_
  refine AWo.nilB rfl rfl ty23 rfl (fun b hb => ?_)
  refine AWo.nil ?_
  refine AW.cond rfl (fun h4 => ?_) (fun h4 => ?_)
  · skip
    refine AW.seq ?_
    refine AW.region ?_
    refine AWo.go (f := 0) hev (by first | exact d_assignT rfl | exact d_assign rfl) ?_
    refine AWo.nil ?_
    refine AW.ret ?_
    exact .inl rfl
  · skip
    refine AW.skip ?_
    refine AW.seq ?_
    refine AW.region ?_
    refine AWo.go (f := 0) hev (d_lit0 rfl ty23 rfl ty26 rfl rfl) ?_
    refine AWo.go (f := 0) hev (by first | exact d_moveT rfl | exact d_move rfl) ?_
    refine AWo.go (f := 0) hev (d_app0 app23 rfl rfl (.inl (.inl rfl)) (.inr (.inr ⟨_, rfl⟩))) ?_
    refine AWo.go (f := 0) hev (by first | exact d_assignT rfl | exact d_assign rfl) ?_
    refine AWo.nil ?_
    refine AW.ret ?_
    exact .inl rfl

theorem clone26_row {m : Int} {ev : CallF} (hev : CallOk (cf m) ev) (es : List Tree) (hne : es ≠ []) (hu : Uni true 4 es) (hl : es.length ≤ 4194304) :
    CallRel (cf m) 91 [.t (.sl es)] [] (.ret (.ref (.loc [5]) 0 es.length) [] [(.loc [5], .arr (26, true) 4 false ((flat es).map .t))]) := by
  refine fn_start2 8 1 Tryz.func91 rfl (by decide) rfl rfl (by decide) ?_
  refine AW.seq ?_
  refine AW.region ?_
  refine AWo.go (f := 0) hev (by first | exact d_assignT rfl | exact d_assign rfl) ?_
  refine AWo.nil ?_
  refine AW.seq ?_
  refine AW.seq ?_
  refine AW.region ?_
  refine AWo.go (f := 0) hev (by first | exact d_moveT rfl | exact d_move rfl) ?_
  refine AWo.nilB rfl rfl ty23 rfl (fun b hb => ?_)
  have hb := hb hne
  subst hb
  refine AWo.nil ?_
  refine AW.cond rfl (fun h => absurd h (by decide)) (fun h => ?_)
  refine AW.skip ?_
  refine AW.seq ?_
  refine AW.region ?_
  refine AWo.go (f := 0) hev (d_lit0 rfl ty23 rfl ty26 rfl rfl) ?_
  refine AWo.go (f := 0) hev (by first | exact d_moveT rfl | exact d_move rfl) ?_
  refine AWo.go (f := 0) hev (d_appG app23 rfl rfl (.inl rfl) hu hne (by show es.length * 72 ≤ 70368744177664; omega)) ?_
  refine AWo.go (f := 0) hev (by first | exact d_assignT rfl | exact d_assign rfl) ?_
  refine AWo.nil ?_
  refine AW.ret ?_
  exact .inr (fin_ref rfl rfl rfl)

theorem clone31_nil {m : Int} {ev : CallF} (hev : CallOk (cf m) ev) : CallRel (cf m) 46 [.t (.sl [])] [] (.ret (.t (.sl [])) [] []) := by
  refine fn_start2 8 1 Tryz.func46 rfl (by decide) rfl rfl (by decide) ?_
  refine AW.seq ?_
  refine AW.region ?_
  refine AWo.go (f := 0) hev (by first | exact d_assignT rfl | exact d_assign rfl) ?_
  refine AWo.nil ?_
  refine AW.seq ?_
  refine AW.seq ?_
  refine AW.region ?_
  refine AWo.go (f := 0) hev (by first | exact d_moveT rfl | exact d_move rfl) ?_
  refine AWo.nilB rfl rfl ty24 rfl (fun b hb => ?_)
  refine AWo.nil ?_
  refine AW.cond rfl (fun h4 => ?_) (fun h4 => ?_)
  · skip
    refine AW.seq ?_
    refine AW.region ?_
    refine AWo.go (f := 0) hev (by first | exact d_assignT rfl | exact d_assign rfl) ?_
    refine AWo.nil ?_
    refine AW.ret ?_
    exact .inl rfl
  · skip
    refine AW.skip ?_
    refine AW.seq ?_
    refine AW.region ?_
    refine AWo.go (f := 0) hev (d_lit0 rfl ty24 rfl ty31 rfl rfl) ?_
    refine AWo.go (f := 0) hev (by first | exact d_moveT rfl | exact d_move rfl) ?_
    refine AWo.go (f := 0) hev (d_app0 app24 rfl rfl (.inl (.inl rfl)) (.inr (.inr ⟨_, rfl⟩))) ?_
    refine AWo.go (f := 0) hev (by first | exact d_assignT rfl | exact d_assign rfl) ?_
    refine AWo.nil ?_
    refine AW.ret ?_
    exact .inl rfl

theorem clone31_row {m : Int} {ev : CallF} (hev : CallOk (cf m) ev) (es : List Tree) (hne : es ≠ []) (hu : Uni true 5 es) (hl : es.length ≤ 4194304) :
    CallRel (cf m) 46 [.t (.sl es)] [] (.ret (.ref (.loc [5]) 0 es.length) [] [(.loc [5], .arr (31, true) 5 false ((flat es).map .t))]) := by
  refine fn_start2 8 1 Tryz.func46 rfl (by decide) rfl rfl (by decide) ?_
  refine AW.seq ?_
  refine AW.region ?_
  refine AWo.go (f := 0) hev (by first | exact d_assignT rfl | exact d_assign rfl) ?_
  refine AWo.nil ?_
  refine AW.seq ?_
  refine AW.seq ?_
  refine AW.region ?_
  refine AWo.go (f := 0) hev (by first | exact d_moveT rfl | exact d_move rfl) ?_
  refine AWo.nilB rfl rfl ty24 rfl (fun b hb => ?_)
  have hb := hb hne
  subst hb
  refine AWo.nil ?_
  refine AW.cond rfl (fun h => absurd h (by decide)) (fun h => ?_)
  refine AW.skip ?_
  refine AW.seq ?_
  refine AW.region ?_
  refine AWo.go (f := 0) hev (d_lit0 rfl ty24 rfl ty31 rfl rfl) ?_
  refine AWo.go (f := 0) hev (by first | exact d_moveT rfl | exact d_move rfl) ?_
  refine AWo.go (f := 0) hev (d_appG app24 rfl rfl (.inl rfl) hu hne (by show es.length * 88 ≤ 70368744177664; omega)) ?_
  refine AWo.go (f := 0) hev (by first | exact d_assignT rfl | exact d_assign rfl) ?_
  refine AWo.nil ?_
  refine AW.ret ?_
  exact .inr (fin_ref rfl rfl rfl)

theorem attrs_nil {m : Int} (ev : CallF) (hev : CallOk (cf m) ev) (hc0 : ev 46 [.t (.sl [])] [] = some (.ret (.t (.sl [])) [] [])) : CallRel (cf m) 18 [.t (.sl [])] [] (.ret (.t (.sl [])) [] []) := by
  refine fn_start2 23 1 Tryz.func18 rfl (by decide) rfl rfl (by decide) ?_
  refine AW.seq ?_
  refine AW.region ?_
  refine AWo.go (f := 0) hev (by first | exact d_assignT rfl | exact d_assign rfl) ?_
  refine AWo.nil ?_
  refine AW.seq ?_
  refine AW.region ?_
  refine AWo.go (f := 0) hev (by first | exact d_moveT rfl | exact d_move rfl) ?_
  refine AWo.go (f := 0) hev (d_callT (rh1 rfl) hc0) ?_
  refine AWo.go (f := 0) hev (by first | exact d_assignT rfl | exact d_assign rfl) ?_
  refine AWo.nil ?_
  refine AW.seq ?_
  refine AW.seq ?_
  refine AW.region ?_
  refine AWo.go (f := 0) hev (by first | exact d_moveT rfl | exact d_move rfl) ?_
  refine AWo.go (f := 0) hev (by first | exact d_lenT rfl ty24 rfl | exact d_lenR rfl ty24 rfl | exact d_lenN rfl ty24 rfl | exact d_lenG rfl ty24 rfl) ?_
  refine AWo.go (f := 0) hev (d_moveT rfl) ?_
  refine AWo.nil ?_
  refine AW.block ?_
  refine AW.loop (α := Unit) (fun _ => _) (fun _ => True) (fun _ => 0) () (Re.refl _) trivial (fun _ _ => ?_)
  refine AW.seq ?_
  refine AW.region ?_
  refine AWo.go (f := 0) hev (d_ltI rfl rfl) ?_
  refine AWo.nil ?_
  refine AW.seq ?_
  refine AW.cond rfl (fun h => absurd h (by decide)) (fun h => ?_)
  refine AW.exit ?_
  refine AW.seq ?_
  refine AW.region ?_
  refine AWo.go (f := 0) hev (by first | exact d_moveT rfl | exact d_move rfl) ?_
  refine AWo.go (f := 0) hev (by first | exact d_assignT rfl | exact d_assign rfl) ?_
  refine AWo.nil ?_
  refine AW.ret ?_
  exact .inl rfl

theorem attrs_row {m : Int} (ev : CallF) (hev : CallOk (cf m) ev) (l : List Tree) (hne : l ≠ []) (hl : l.length ≤ 4194304) (Ty : Tree → Prop) (hat : ∀ e ∈ l, ∃ nm k s o a, e = .agg [.str nm, .int .u8 k, .str s, .sl o, .sl a] ∧ Ty (.agg [.int .u8 k, .str s, .sl o, .sl a]))
    (hc : ev 46 [.t (.sl l)] [] = some (.ret (.ref (.loc [5]) 0 l.length) [] [(.loc [5], .arr (31, true) 5 false ((flat l).map .t))])) (ho : ∀ x, Ty x → ev 47 [.t x] [] = some (.ret (.t x) [] [])) (r : FRes)
    (hfin : r = .ret (.t (.sl l)) [] [] ∨ r = .ret (.ref (.loc [0]) 0 l.length) [] [(.loc [0], .arr (31, true) 5 false ((flat l).map .t))]) : CallRel (cf m) 18 [.t (.sl l)] [] r := by
  have hu : Uni true 5 l := fun e he => by obtain ⟨nm, k, s, o, a, rfl, _⟩ := hat e he; exact ⟨rfl, rfl, rfl⟩
  have hlen : l.length * 5 = ((flat l).map TV.t).length := hu.length.symm
  refine fn_start2 23 1 Tryz.func18 rfl (by decide) rfl rfl (by decide) ?_
  refine AW.seq ?_
  refine AW.region ?_
  refine AWo.go (f := 0) hev (by first | exact d_assignT rfl | exact d_assign rfl) ?_
  refine AWo.nil ?_
  refine AW.seq ?_
  refine AW.region ?_
  refine AWo.go (f := 0) hev (by first | exact d_moveT rfl | exact d_move rfl) ?_
  refine AWo.go (f := 0) hev (d_callN (rh1 rfl) hc rfl news_row) ?_
  refine AWo.go (f := 0) hev (by first | exact d_assignT rfl | exact d_assign rfl) ?_
  refine AWo.nil ?_
  refine AW.seq ?_
  refine AW.seq ?_
  refine AW.region ?_
  refine AWo.go (f := 0) hev (by first | exact d_moveT rfl | exact d_move rfl) ?_
  refine AWo.go (f := 0) hev (by first | exact d_lenT rfl ty24 rfl | exact d_lenR rfl ty24 rfl | exact d_lenN rfl ty24 rfl | exact d_lenG rfl ty24 rfl) ?_
  refine AWo.go (f := 0) hev (d_moveT rfl) ?_
  refine AWo.nil ?_
  refine AW.block ?_
  refine AW.loop (α := Nat) (fun i => ⟨frm 23 [(0, .ref (.loc [0]) 0 l.length), (7, .t (.int .i64 l.length)), (8, .t (.int .i64 i))], [(.loc [0], .arr (31, true) 5 false ((flat l).map .t))], 1⟩) (fun i => i ≤ l.length) (fun i => l.length - i) 0 (Re.sq [.loc [2, 5]] ⟨rfl, rfl, rfl, trivial⟩ ⟨⟨.loc [2, 5], _, rfl, rfl, .inl rn_row⟩, trivial⟩ (by decide) rfl rfl (by decide)) (Nat.zero_le _) (fun i hi => ?_)
  refine AW.seq ?_
  refine AW.region ?_
  refine AWo.go (f := 0) hev (d_ltI rfl rfl) ?_
  refine AWo.nil ?_
  refine AW.seq ?_
  refine AW.cond rfl (fun h9 => ?_) (fun h9 => ?_)
  · have hlt : i < l.length := by have := of_decide_eq_true h9; omega
    obtain ⟨e, he⟩ : ∃ e, l[i]? = some e := ⟨l[i], List.getElem?_eq_getElem hlt⟩
    obtain ⟨nm, k, s, o, a, rfl, hty⟩ := hat e (List.mem_of_getElem? he)
    refine AW.skip ?_
    refine AW.seq ?_
    refine AW.block ?_
    refine AW.seq ?_
    refine AW.region ?_
    refine AWo.go (f := 0) hev (d_moveT rfl) ?_
    refine AWo.go (f := 0) hev (d_assignT rfl) ?_
    refine AWo.nil ?_
    refine AW.region ?_
    refine AWo.go (f := 0) hev (by first | exact d_moveT rfl | exact d_move rfl) ?_
    refine AWo.go (f := 0) hev (d_moveT rfl) ?_
    refine AWo.go (f := 0) hev (by first | exact d_moveT rfl | exact d_move rfl) ?_
    refine AWo.go (f := 0) hev (d_moveT rfl) ?_
    refine AWo.go (f := 0) hev (d_indexR rfl rfl ty24 rfl ty31 rfl (by decide) hlen hlt) ?_
    refine AWo.go (f := 0) hev (d_fieldAddr rfl fo31_1 (padd rfl)) ?_
    refine AWo.go (f := 0) hev (d_load (v := .t (.agg [.int .u8 k, .str s, .sl o, .sl a])) rfl (lda ty26 rfl (part_row hu.lens he (by decide)))) ?_
    refine AWo.go (f := 0) hev (d_callT (rh1 rfl) (ho _ hty)) ?_
    refine AWo.go (f := 0) hev (d_indexR rfl rfl ty24 rfl ty31 rfl (by decide) hlen hlt) ?_
    refine AWo.go (f := 0) hev (d_fieldAddr rfl fo31_1 (padd rfl)) ?_
    refine AWo.go0 (f := 0) hev (d_store rfl rfl (sta ty26 rfl rfl (by show i * 5 + 1 + 4 ≤ _; rw [hu.length]; omega))) ?_
    refine AWo.nil ?_
    refine AW.region ?_
    refine AWo.go (f := 0) hev (d_add64 rfl rfl (by omega) (by omega)) ?_
    refine AWo.go (f := 0) hev (d_moveT rfl) ?_
    refine AWo.nil ?_
    exact ⟨i + 1, hlt, Nat.sub_lt_sub_left hlt (Nat.lt_succ_self i), Re.sq [.loc [0]] ⟨rfl, rfl, rfl, trivial⟩ ⟨⟨.loc [0], _, rfl, rfl, .inl (rn_row_eq (set_row (j := 1) (m := 4) hu.lens he (by decide)))⟩, trivial⟩ (by decide) rfl rfl (by decide)⟩
  · have hie : i = l.length := by have := of_decide_eq_false h9; omega
    subst hie
    skip
    refine AW.exit ?_
    refine AW.seq ?_
    refine AW.region ?_
    refine AWo.go (f := 0) hev (by first | exact d_moveT rfl | exact d_move rfl) ?_
    refine AWo.go (f := 0) hev (by first | exact d_assignT rfl | exact d_assign rfl) ?_
    refine AWo.nil ?_
    refine AW.ret ?_
    exact Or.elim hfin (fun h => by subst h; exact .inl (fin_data rfl (frz_row rfl hu (by decide) rfl))) (fun h => by subst h; exact .inr (fin_ref rfl rfl rfl))

theorem own_nil {m : Int} (ev : CallF) (hev : CallOk (cf m) ev) (k : Int) (s : List UInt8) (bs : List Tree) (hc0 : ev 91 [.t (.sl [])] [] = some (.ret (.t (.sl [])) [] [])) (ha : ev 18 [.t (.sl bs)] [] = some (.ret (.t (.sl bs)) [] [])) :
    CallRel (cf m) 47 [.t (.agg [.int .u8 k, .str s, .sl [], .sl bs])] [] (.ret (.t (.agg [.int .u8 k, .str s, .sl [], .sl bs])) [] []) := by
  refine fn_start2 30 1 Tryz.func47 rfl (by decide) rfl rfl (by decide) ?_
  refine AW.seq ?_
  refine AW.region ?_
  refine AWo.go (f := 0) hev (d_box rfl rfl) ?_
  refine AWo.go (f := 0) hev (d_alloc ty26 rfl rfl) ?_
  refine AWo.nil ?_
  refine AW.seq ?_
  refine AW.draw (f := 0) orders hev ?_
  refine AWd.go rfl (d_fieldAddr rfl fo26_2 rfl) ?_
  refine AWd.go rfl ((by first | exact d_loadT rfl (ld ty23 rfl rfl) | exact d_load rfl (ld ty23 rfl rfl))) ?_
  refine AWd.go rfl (d_callT (rh1 rfl) hc0) ?_
  refine AWd.go rfl (d_fieldAddr rfl fo26_3 rfl) ?_
  refine AWd.go rfl ((by first | exact d_loadT rfl (ld ty24 rfl rfl) | exact d_load rfl (ld ty24 rfl rfl))) ?_
  refine AWd.go rfl (d_callT (rh1 rfl) ha) ?_
  refine AWd.go rfl (d_fieldAddr rfl fo26_2 rfl) ?_
  refine AWd.go0 rfl (d_store rfl rfl (stt ty23 rfl rfl)) ?_
  refine AWd.go rfl (d_fieldAddr rfl fo26_3 rfl) ?_
  refine AWd.go0 rfl (d_store rfl rfl (stt ty24 rfl rfl)) ?_
  refine AWd.nil ⟨rfl, rfl, ?_⟩
  refine AW.seq ?_
  refine AW.seq ?_
  refine AW.region ?_
  refine AWo.go (f := 0) hev (d_fieldAddr rfl fo26_2 rfl) ?_
  refine AWo.go (f := 0) hev (by first | exact d_loadT rfl (ld ty23 rfl rfl) | exact d_load rfl (ld ty23 rfl rfl)) ?_
  refine AWo.go (f := 0) hev (by first | exact d_lenT rfl ty23 rfl | exact d_lenR rfl ty23 rfl | exact d_lenN rfl ty23 rfl | exact d_lenG rfl ty23 rfl) ?_
  refine AWo.go (f := 0) hev (d_moveT rfl) ?_
  refine AWo.nil ?_
  refine AW.block ?_
  refine AW.loop (α := Unit) (fun _ => _) (fun _ => True) (fun _ => 0) () (Re.refl _) trivial (fun _ _ => ?_)
  refine AW.seq ?_
  refine AW.region ?_
  refine AWo.go (f := 0) hev (d_ltI rfl rfl) ?_
  refine AWo.nil ?_
  refine AW.seq ?_
  refine AW.cond rfl (fun h => absurd h (by decide)) (fun h => ?_)
  refine AW.exit ?_
  refine AW.seq ?_
  refine AW.region ?_
  refine AWo.go (f := 0) hev (by first | exact d_loadT rfl (ld ty26 rfl rfl) | exact d_load rfl (ld ty26 rfl rfl)) ?_
  refine AWo.go0 (f := 0) hev (d_store rfl rfl (stt ty26 rfl rfl)) ?_
  refine AWo.nil ?_
  refine AW.ret ?_
  exact .inl (fin_data rfl rfl)

theorem own_row {m : Int} (ev : CallF) (hev : CallOk (cf m) ev) (k : Int) (s : List UInt8) (os bs : List Tree) (hne : os ≠ []) (hl : os.length ≤ 4194304) (Ty : Tree → Prop) (hform : ∀ x, Ty x → ∃ k s o a, x = .agg [.int .u8 k, .str s, .sl o, .sl a]) (hos : ∀ x ∈ os, Ty x)
    (hc : ev 91 [.t (.sl os)] [] = some (.ret (.ref (.loc [5]) 0 os.length) [] [(.loc [5], .arr (26, true) 4 false ((flat os).map .t))])) (ho : ∀ x, Ty x → ev 47 [.t x] [] = some (.ret (.t x) [] []))
    (ha : ev 18 [.t (.sl bs)] [] = some (.ret (.t (.sl bs)) [] [])) :
    CallRel (cf m) 47 [.t (.agg [.int .u8 k, .str s, .sl os, .sl bs])] [] (.ret (.t (.agg [.int .u8 k, .str s, .sl os, .sl bs])) [] []) := by
  have hu : Uni true 4 os := fun e he => by obtain ⟨k, s, o, a, rfl⟩ := hform e (hos e he); exact ⟨rfl, rfl, rfl⟩
  have hlen : os.length * 4 = ((flat os).map TV.t).length := hu.length.symm
  refine fn_start2 30 1 Tryz.func47 rfl (by decide) rfl rfl (by decide) ?_
  refine AW.seq ?_
  refine AW.region ?_
  refine AWo.go (f := 0) hev (d_box rfl rfl) ?_
  refine AWo.go (f := 0) hev (d_alloc ty26 rfl rfl) ?_
  refine AWo.nil ?_
  refine AW.seq ?_
  refine AW.draw (f := 0) orders hev ?_
  refine AWd.go rfl (d_fieldAddr rfl fo26_2 rfl) ?_
  refine AWd.go rfl ((by first | exact d_loadT rfl (ld ty23 rfl rfl) | exact d_load rfl (ld ty23 rfl rfl))) ?_
  refine AWd.go rfl (d_callN (rh1 rfl) hc rfl news_row) ?_
  refine AWd.go rfl (d_fieldAddr rfl fo26_3 rfl) ?_
  refine AWd.go rfl ((by first | exact d_loadT rfl (ld ty24 rfl rfl) | exact d_load rfl (ld ty24 rfl rfl))) ?_
  refine AWd.go rfl (d_callT (rh1 rfl) ha) ?_
  refine AWd.go rfl (d_fieldAddr rfl fo26_2 rfl) ?_
  refine AWd.go0 rfl (d_store rfl rfl (stt ty23 rfl rfl)) ?_
  refine AWd.go rfl (d_fieldAddr rfl fo26_3 rfl) ?_
  refine AWd.go0 rfl (d_store rfl rfl (stt ty24 rfl rfl)) ?_
  refine AWd.nil ⟨rfl, rfl, ?_⟩
  refine AW.seq ?_
  refine AW.seq ?_
  refine AW.region ?_
  refine AWo.go (f := 0) hev (d_fieldAddr rfl fo26_2 rfl) ?_
  refine AWo.go (f := 0) hev (by first | exact d_loadT rfl (ld ty23 rfl rfl) | exact d_load rfl (ld ty23 rfl rfl)) ?_
  refine AWo.go (f := 0) hev (by first | exact d_lenT rfl ty23 rfl | exact d_lenR rfl ty23 rfl | exact d_lenN rfl ty23 rfl | exact d_lenG rfl ty23 rfl) ?_
  refine AWo.go (f := 0) hev (d_moveT rfl) ?_
  refine AWo.nil ?_
  refine AW.block ?_
  refine AW.loop (α := Nat) (fun i => ⟨frm 30 [(1, .ptr (.loc [0]) 0), (2, .ptr (.loc [1]) 0), (14, .t (.int .i64 os.length)), (15, .t (.int .i64 i))], [(.loc [0], .cells 26 [.t (.int .u8 k), .t (.str s), .ref (.loc [2]) 0 os.length, .t (.sl bs)]), (.loc [1], .cells 26 [.t (.int .u8 0), .t (.str []), .nils, .nils]), (.loc [2], .arr (26, true) 4 false ((flat os).map .t))], 3⟩) (fun i => i ≤ os.length) (fun i => os.length - i) 0 (Re.sq [.loc [0], .loc [1], .loc [4, 5]] ⟨rfl, rfl, rfl, rfl, trivial⟩ ⟨⟨.loc [0], _, rfl, rfl, .inl rfl⟩, ⟨.loc [1], _, rfl, rfl, .inl rfl⟩, ⟨.loc [4, 5], _, rfl, rfl, .inl rn_row⟩, trivial⟩ (by decide) rfl rfl (by decide)) (Nat.zero_le _) (fun i hi => ?_)
  refine AW.seq ?_
  refine AW.region ?_
  refine AWo.go (f := 0) hev (d_ltI rfl rfl) ?_
  refine AWo.nil ?_
  refine AW.seq ?_
  refine AW.cond rfl (fun h16 => ?_) (fun h16 => ?_)
  · have hlt : i < os.length := by have := of_decide_eq_true h16; omega
    obtain ⟨x, he⟩ : ∃ x, os[i]? = some x := ⟨os[i], List.getElem?_eq_getElem hlt⟩
    have hty := hos x (List.mem_of_getElem? he)
    have hsh := hform x hty
    refine AW.skip ?_
    refine AW.seq ?_
    refine AW.block ?_
    refine AW.seq ?_
    refine AW.region ?_
    refine AWo.go (f := 0) hev (d_moveT rfl) ?_
    refine AWo.go (f := 0) hev (d_assignT rfl) ?_
    refine AWo.nil ?_
    refine AW.draw (f := 0) orders hev ?_
    refine AWd.go rfl (d_fieldAddr rfl fo26_2 rfl) ?_
    refine AWd.go rfl ((by first | exact d_loadT rfl (ld ty23 rfl rfl) | exact d_load rfl (ld ty23 rfl rfl))) ?_
    refine AWd.go rfl (d_moveT rfl) ?_
    refine AWd.go rfl (d_fieldAddr rfl fo26_2 rfl) ?_
    refine AWd.go rfl ((by first | exact d_loadT rfl (ld ty23 rfl rfl) | exact d_load rfl (ld ty23 rfl rfl))) ?_
    refine AWd.go rfl (d_moveT rfl) ?_
    refine AWd.go rfl (d_indexR rfl rfl ty23 rfl ty26 rfl (by decide) hlen hlt) ?_
    refine AWd.go rfl (d_load (v := .t x) rfl (lda ty26 rfl (by obtain ⟨_, _, _, _, rfl⟩ := hsh; exact part_row (j := 0) hu.lens he (by decide)))) ?_
    refine AWd.go rfl (d_callT (rh1 rfl) (ho _ hty)) ?_
    refine AWd.go rfl (d_indexR rfl rfl ty23 rfl ty26 rfl (by decide) hlen hlt) ?_
    refine AWd.go0 rfl (d_store rfl rfl (sta ty26 rfl (by obtain ⟨_, _, _, _, rfl⟩ := hsh; rfl) (by show i * 4 + 4 ≤ _; rw [hu.length]; omega))) ?_
    refine AWd.nil ⟨rfl, rfl, ?_⟩
    refine AW.region ?_
    refine AWo.go (f := 0) hev (d_add64 rfl rfl (by omega) (by omega)) ?_
    refine AWo.go (f := 0) hev (d_moveT rfl) ?_
    refine AWo.nil ?_
    exact ⟨i + 1, hlt, Nat.sub_lt_sub_left hlt (Nat.lt_succ_self i), Re.sq [.loc [0], .loc [1], .loc [2]] ⟨rfl, rfl, rfl, rfl, trivial⟩ ⟨⟨.loc [0], _, rfl, rfl, .inl rfl⟩, ⟨.loc [1], _, rfl, rfl, .inl rfl⟩, ⟨.loc [2], _, rfl, rfl, .inl (rn_row_eq (by obtain ⟨_, _, _, _, rfl⟩ := hsh; exact set_row (j := 0) (m := 4) hu.lens he (by decide)))⟩, trivial⟩ (by decide) rfl rfl (by decide)⟩
  · have hie : i = os.length := by have := of_decide_eq_false h16; omega
    subst hie
    skip
    refine AW.exit ?_
    refine AW.seq ?_
    refine AW.region ?_
    refine AWo.go (f := 0) hev (by first | exact d_loadT rfl (ld ty26 rfl rfl) | exact d_load rfl (ld ty26 rfl rfl)) ?_
    refine AWo.go0 (f := 0) hev (d_store rfl rfl (stt ty26 rfl rfl)) ?_
    refine AWo.nil ?_
    refine AW.ret ?_
    exact .inl (fin_data rfl (frz_part rfl hu (by decide)))

theorem texts_same {m : Int} (ev : CallF) (hev : CallOk (cf m) ev) (l : List Tree) (hl : l.length ≤ 4194304) (hs : ∀ e ∈ l, ∃ s, e = .str s) : CallRel (cf m) 48 [.t (.sl l), .t (.sl l)] [] (.ret (.t (.bool true)) [] []) := by
  refine fn_start2 26 2 Tryz.func48 rfl (by decide) rfl rfl (by decide) ?_
  refine AW.seq ?_
  refine AW.region ?_
  refine AWo.go (f := 0) hev (d_assignT rfl) ?_
  refine AWo.nil ?_
  refine AW.seq ?_
  refine AW.seq ?_
  refine AW.region ?_
  refine AWo.go (f := 0) hev (by first | exact d_moveT rfl | exact d_move rfl) ?_
  refine AWo.go (f := 0) hev (by first | exact d_lenT rfl ty38 rfl | exact d_lenR rfl ty38 rfl | exact d_lenN rfl ty38 rfl | exact d_lenG rfl ty38 rfl) ?_
  refine AWo.go (f := 0) hev (by first | exact d_moveT rfl | exact d_move rfl) ?_
  refine AWo.go (f := 0) hev (by first | exact d_lenT rfl ty38 rfl | exact d_lenR rfl ty38 rfl | exact d_lenN rfl ty38 rfl | exact d_lenG rfl ty38 rfl) ?_
  refine AWo.go (f := 0) hev (d_neI0 rfl rfl) ?_
  refine AWo.nil ?_
  refine AW.cond rfl (fun h => absurd h (by decide)) (fun h => ?_)
  refine AW.skip ?_
  refine AW.seq ?_
  refine AW.seq ?_
  refine AW.region ?_
  refine AWo.go (f := 0) hev (by first | exact d_moveT rfl | exact d_move rfl) ?_
  refine AWo.go (f := 0) hev (by first | exact d_lenT rfl ty38 rfl | exact d_lenR rfl ty38 rfl | exact d_lenN rfl ty38 rfl | exact d_lenG rfl ty38 rfl) ?_
  refine AWo.go (f := 0) hev (d_moveT rfl) ?_
  refine AWo.nil ?_
  refine AW.block ?_
  refine AW.loop (α := Nat) (fun i => ⟨frm 26 [(0, .t (.sl l)), (1, .t (.sl l)), (12, .t (.int .i64 l.length)), (13, .t (.int .i64 i))], [], 0⟩) (fun i => i ≤ l.length) (fun i => l.length - i) 0 (Re.sq [] ⟨rfl, rfl, rfl, rfl, trivial⟩ trivial (by decide) rfl rfl (by decide)) (Nat.zero_le _) (fun i hi => ?_)
  refine AW.seq ?_
  refine AW.region ?_
  refine AWo.go (f := 0) hev (d_ltI rfl rfl) ?_
  refine AWo.nil ?_
  refine AW.seq ?_
  refine AW.cond rfl (fun h14 => ?_) (fun h14 => ?_)
  · have hlt : i < l.length := by have := of_decide_eq_true h14; omega
    obtain ⟨e, he⟩ : ∃ e, l[i]? = some e := ⟨l[i], List.getElem?_eq_getElem hlt⟩
    obtain ⟨s, rfl⟩ := hs e (List.mem_of_getElem? he)
    refine AW.skip ?_
    refine AW.seq ?_
    refine AW.block ?_
    refine AW.seq ?_
    refine AW.region ?_
    refine AWo.go (f := 0) hev (d_moveT rfl) ?_
    refine AWo.go (f := 0) hev (d_assignT rfl) ?_
    refine AWo.nil ?_
    refine AW.seq ?_
    refine AW.draw (f := 0) orders hev ?_
    refine AWd.go rfl ((by first | exact d_moveT rfl | exact d_move rfl)) ?_
    refine AWd.go rfl (d_moveT rfl) ?_
    refine AWd.go rfl (d_indexT rfl rfl ty38 rfl ty9 he rfl) ?_
    refine AWd.go rfl ((by first | exact d_loadT rfl (ld ty9 rfl rfl) | exact d_load rfl (ld ty9 rfl rfl))) ?_
    refine AWd.go rfl ((by first | exact d_moveT rfl | exact d_move rfl)) ?_
    refine AWd.go rfl (d_moveT rfl) ?_
    refine AWd.go rfl (d_indexT rfl rfl ty38 rfl ty9 he rfl) ?_
    refine AWd.go rfl ((by first | exact d_loadT rfl (ld ty9 rfl rfl) | exact d_load rfl (ld ty9 rfl rfl))) ?_
    refine AWd.go rfl (d_neS0 rfl rfl) ?_
    refine AWd.nil ⟨rfl, rfl, ?_⟩
    refine AW.cond rfl (fun h => absurd h (by decide)) (fun h => ?_)
    refine AW.skip ?_
    refine AW.region ?_
    refine AWo.go (f := 0) hev (d_add64 rfl rfl (by omega) (by omega)) ?_
    refine AWo.go (f := 0) hev (d_moveT rfl) ?_
    refine AWo.nil ?_
    exact ⟨i + 1, hlt, Nat.sub_lt_sub_left hlt (Nat.lt_succ_self i), (Re.sq [] ⟨rfl, rfl, rfl, rfl, trivial⟩ trivial (by decide) rfl rfl (by decide))⟩
  · have hie : i = l.length := by have := of_decide_eq_false h14; omega
    subst hie
    skip
    refine AW.exit ?_
    refine AW.seq ?_
    refine AW.region ?_
    refine AWo.go (f := 0) hev (d_assignT rfl) ?_
    refine AWo.nil ?_
    refine AW.ret ?_
    exact .inl (fin_data rfl rfl)

theorem sameAttrs {m : Int} (ev : CallF) (hev : CallOk (cf m) ev) (l : List Tree) (hl : l.length ≤ 4194304) (Ty : Tree → Prop) (hat : ∀ e ∈ l, ∃ nm k s o a, e = .agg [.str nm, .int .u8 k, .str s, .sl o, .sl a] ∧ Ty (.agg [.int .u8 k, .str s, .sl o, .sl a])) (ho : ∀ x, Ty x → ev 92 [.t x, .t x] [] = some (.ret (.t (.bool true)) [] [])) :
    CallRel (cf m) 49 [.t (.sl l), .t (.sl l)] [] (.ret (.t (.bool true)) [] []) := by
  refine fn_start2 42 2 Tryz.func49 rfl (by decide) rfl rfl (by decide) ?_
  refine AW.seq ?_
  refine AW.region ?_
  refine AWo.go (f := 0) hev (d_assignT rfl) ?_
  refine AWo.nil ?_
  refine AW.seq ?_
  refine AW.seq ?_
  refine AW.region ?_
  refine AWo.go (f := 0) hev (by first | exact d_moveT rfl | exact d_move rfl) ?_
  refine AWo.go (f := 0) hev (by first | exact d_lenT rfl ty24 rfl | exact d_lenR rfl ty24 rfl | exact d_lenN rfl ty24 rfl | exact d_lenG rfl ty24 rfl) ?_
  refine AWo.go (f := 0) hev (by first | exact d_moveT rfl | exact d_move rfl) ?_
  refine AWo.go (f := 0) hev (by first | exact d_lenT rfl ty24 rfl | exact d_lenR rfl ty24 rfl | exact d_lenN rfl ty24 rfl | exact d_lenG rfl ty24 rfl) ?_
  refine AWo.go (f := 0) hev (d_neI0 rfl rfl) ?_
  refine AWo.nil ?_
  refine AW.cond rfl (fun h => absurd h (by decide)) (fun h => ?_)
  refine AW.skip ?_
  refine AW.seq ?_
  refine AW.seq ?_
  refine AW.region ?_
  refine AWo.go (f := 0) hev (by first | exact d_moveT rfl | exact d_move rfl) ?_
  refine AWo.go (f := 0) hev (by first | exact d_lenT rfl ty24 rfl | exact d_lenR rfl ty24 rfl | exact d_lenN rfl ty24 rfl | exact d_lenG rfl ty24 rfl) ?_
  refine AWo.go (f := 0) hev (d_moveT rfl) ?_
  refine AWo.nil ?_
  refine AW.block ?_
  refine AW.loop (α := Nat) (fun i => ⟨frm 42 [(0, .t (.sl l)), (1, .t (.sl l)), (12, .t (.int .i64 l.length)), (13, .t (.int .i64 i))], [], 0⟩) (fun i => i ≤ l.length) (fun i => l.length - i) 0 (Re.sq [] ⟨rfl, rfl, rfl, rfl, trivial⟩ trivial (by decide) rfl rfl (by decide)) (Nat.zero_le _) (fun i hi => ?_)
  refine AW.seq ?_
  refine AW.region ?_
  refine AWo.go (f := 0) hev (d_ltI rfl rfl) ?_
  refine AWo.nil ?_
  refine AW.seq ?_
  refine AW.cond rfl (fun h14 => ?_) (fun h14 => ?_)
  · have hlt : i < l.length := by have := of_decide_eq_true h14; omega
    obtain ⟨e, he⟩ : ∃ e, l[i]? = some e := ⟨l[i], List.getElem?_eq_getElem hlt⟩
    obtain ⟨nm, k, s, o, a, rfl, hty⟩ := hat e (List.mem_of_getElem? he)
    refine AW.skip ?_
    refine AW.seq ?_
    refine AW.block ?_
    refine AW.seq ?_
    refine AW.region ?_
    refine AWo.go (f := 0) hev (d_moveT rfl) ?_
    refine AWo.go (f := 0) hev (d_assignT rfl) ?_
    refine AWo.nil ?_
    refine AW.seq ?_
    refine AW.draw (f := 0) orders hev ?_
    refine AWd.go rfl ((by first | exact d_moveT rfl | exact d_move rfl)) ?_
    refine AWd.go rfl (d_moveT rfl) ?_
    refine AWd.go rfl (d_indexT rfl rfl ty24 rfl ty31 he rfl) ?_
    refine AWd.go rfl (d_fieldAddr rfl fo31_0 rfl) ?_
    refine AWd.go rfl ((by first | exact d_loadT rfl (ld ty9 rfl rfl) | exact d_load rfl (ld ty9 rfl rfl))) ?_
    refine AWd.go rfl ((by first | exact d_moveT rfl | exact d_move rfl)) ?_
    refine AWd.go rfl (d_moveT rfl) ?_
    refine AWd.go rfl (d_indexT rfl rfl ty24 rfl ty31 he rfl) ?_
    refine AWd.go rfl (d_fieldAddr rfl fo31_0 rfl) ?_
    refine AWd.go rfl ((by first | exact d_loadT rfl (ld ty9 rfl rfl) | exact d_load rfl (ld ty9 rfl rfl))) ?_
    refine AWd.go rfl (d_neS0 rfl rfl) ?_
    refine AWd.go rfl (d_moveT rfl) ?_
    refine AWd.yes rfl rfl rfl rfl rfl ((by first | exact d_moveT rfl | exact d_move rfl)) ?_
    refine AWd.yes rfl rfl rfl rfl rfl (d_moveT rfl) ?_
    refine AWd.yes rfl rfl rfl rfl rfl (d_indexT rfl rfl ty24 rfl ty31 he rfl) ?_
    refine AWd.yes rfl rfl rfl rfl rfl (d_fieldAddr rfl fo31_1 rfl) ?_
    refine AWd.yes rfl rfl rfl rfl rfl ((by first | exact d_loadT rfl (ld ty26 rfl rfl) | exact d_load rfl (ld ty26 rfl rfl))) ?_
    refine AWd.yes rfl rfl rfl rfl rfl ((by first | exact d_moveT rfl | exact d_move rfl)) ?_
    refine AWd.yes rfl rfl rfl rfl rfl (d_moveT rfl) ?_
    refine AWd.yes rfl rfl rfl rfl rfl (d_indexT rfl rfl ty24 rfl ty31 he rfl) ?_
    refine AWd.yes rfl rfl rfl rfl rfl (d_fieldAddr rfl fo31_1 rfl) ?_
    refine AWd.yes rfl rfl rfl rfl rfl ((by first | exact d_loadT rfl (ld ty26 rfl rfl) | exact d_load rfl (ld ty26 rfl rfl))) ?_
    refine AWd.yes rfl rfl rfl rfl rfl (d_callT (rh2 rfl rfl) (ho _ hty)) ?_
    refine AWd.yes rfl rfl rfl rfl rfl (d_not rfl) ?_
    refine AWd.go rfl (d_pick rfl rfl rfl) ?_
    refine AWd.nil ⟨rfl, rfl, ?_⟩
    refine AW.cond rfl (fun h => absurd h (by decide)) (fun h => ?_)
    refine AW.skip ?_
    refine AW.region ?_
    refine AWo.go (f := 0) hev (d_add64 rfl rfl (by omega) (by omega)) ?_
    refine AWo.go (f := 0) hev (d_moveT rfl) ?_
    refine AWo.nil ?_
    exact ⟨i + 1, hlt, Nat.sub_lt_sub_left hlt (Nat.lt_succ_self i), (Re.sq [] ⟨rfl, rfl, rfl, rfl, trivial⟩ trivial (by decide) rfl rfl (by decide))⟩
  · have hie : i = l.length := by have := of_decide_eq_false h14; omega
    subst hie
    skip
    refine AW.exit ?_
    refine AW.seq ?_
    refine AW.region ?_
    refine AWo.go (f := 0) hev (d_assignT rfl) ?_
    refine AWo.nil ?_
    refine AW.ret ?_
    exact .inl (fin_data rfl rfl)

theorem sameType {m : Int} (ev : CallF) (hev : CallOk (cf m) ev) (k : Int) (s : List UInt8) (os bs : List Tree) (hl : os.length ≤ 4194304) (Ty : Tree → Prop) (hform : ∀ x, Ty x → ∃ k s o a, x = .agg [.int .u8 k, .str s, .sl o, .sl a]) (hos : ∀ x ∈ os, Ty x)
    (ho : ∀ x, Ty x → ev 92 [.t x, .t x] [] = some (.ret (.t (.bool true)) [] [])) (ha : ev 49 [.t (.sl bs), .t (.sl bs)] [] = some (.ret (.t (.bool true)) [] [])) :
    CallRel (cf m) 92 [.t (.agg [.int .u8 k, .str s, .sl os, .sl bs]), .t (.agg [.int .u8 k, .str s, .sl os, .sl bs])] [] (.ret (.t (.bool true)) [] []) := by
  refine fn_start2 51 2 Tryz.func92 rfl (by decide) rfl rfl (by decide) ?_
  refine AW.seq ?_
  refine AW.region ?_
  refine AWo.go (f := 0) hev (d_box rfl rfl) ?_
  refine AWo.go (f := 0) hev (d_box rfl rfl) ?_
  refine AWo.go (f := 0) hev (d_assignT rfl) ?_
  refine AWo.nil ?_
  refine AW.seq ?_
  refine AW.seq ?_
  refine AW.region ?_
  refine AWo.go (f := 0) hev (d_fieldAddr rfl fo26_0 rfl) ?_
  refine AWo.go (f := 0) hev (by first | exact d_loadT rfl (ld ty22 rfl rfl) | exact d_load rfl (ld ty22 rfl rfl)) ?_
  refine AWo.go (f := 0) hev (d_fieldAddr rfl fo26_0 rfl) ?_
  refine AWo.go (f := 0) hev (by first | exact d_loadT rfl (ld ty22 rfl rfl) | exact d_load rfl (ld ty22 rfl rfl)) ?_
  refine AWo.go (f := 0) hev (d_neI0 rfl rfl) ?_
  refine AWo.go (f := 0) hev (d_moveT rfl) ?_
  refine AWo.gF (f := 0) hev rfl rfl rfl (fun hb => d_fieldAddr rfl fo26_1 rfl) ?_
  refine AWo.gF (f := 0) hev rfl rfl rfl (fun hb => (by first | exact d_loadT (rho_gv hb rfl) (ld ty9 rfl rfl) | exact d_load (rho_gv hb rfl) (ld ty9 rfl rfl))) ?_
  refine AWo.gF (f := 0) hev rfl rfl rfl (fun hb => d_fieldAddr rfl fo26_1 rfl) ?_
  refine AWo.gF (f := 0) hev rfl rfl rfl (fun hb => (by first | exact d_loadT (rho_gv hb rfl) (ld ty9 rfl rfl) | exact d_load (rho_gv hb rfl) (ld ty9 rfl rfl))) ?_
  refine AWo.gF (f := 0) hev rfl rfl rfl (fun hb => d_neS0 (rho_gv hb rfl) (rho_gv hb rfl)) ?_
  refine AWo.go (f := 0) hev (by first | exact d_or rfl rfl (fun h => by simp_all) | exact d_pick rfl rfl rfl) ?_
  refine AWo.go (f := 0) hev (d_moveT rfl) ?_
  refine AWo.gF (f := 0) hev rfl rfl rfl (fun hb => d_fieldAddr rfl fo26_2 rfl) ?_
  refine AWo.gF (f := 0) hev rfl rfl rfl (fun hb => (by first | exact d_loadT (rho_gv hb rfl) (ld ty23 rfl rfl) | exact d_load (rho_gv hb rfl) (ld ty23 rfl rfl))) ?_
  refine AWo.gF (f := 0) hev rfl rfl rfl (fun hb => (by first | exact d_lenT (rho_gv hb rfl) ty23 rfl | exact d_lenR (rho_gv hb rfl) ty23 rfl | exact d_lenN (rho_gv hb rfl) ty23 rfl | exact d_lenG (rho_gv hb rfl) ty23 rfl)) ?_
  refine AWo.gF (f := 0) hev rfl rfl rfl (fun hb => d_fieldAddr rfl fo26_2 rfl) ?_
  refine AWo.gF (f := 0) hev rfl rfl rfl (fun hb => (by first | exact d_loadT (rho_gv hb rfl) (ld ty23 rfl rfl) | exact d_load (rho_gv hb rfl) (ld ty23 rfl rfl))) ?_
  refine AWo.gF (f := 0) hev rfl rfl rfl (fun hb => (by first | exact d_lenT (rho_gv hb rfl) ty23 rfl | exact d_lenR (rho_gv hb rfl) ty23 rfl | exact d_lenN (rho_gv hb rfl) ty23 rfl | exact d_lenG (rho_gv hb rfl) ty23 rfl)) ?_
  refine AWo.gF (f := 0) hev rfl rfl rfl (fun hb => d_neI0 (rho_gv hb rfl) (rho_gv hb rfl)) ?_
  refine AWo.go (f := 0) hev (by first | exact d_or rfl rfl (fun h => by simp_all) | exact d_pick rfl rfl rfl) ?_
  refine AWo.nil ?_
  refine AW.cond rfl (fun h => absurd h (by decide)) (fun h => ?_)
  refine AW.skip ?_
  refine AW.seq ?_
  refine AW.seq ?_
  refine AW.region ?_
  refine AWo.go (f := 0) hev (d_fieldAddr rfl fo26_2 rfl) ?_
  refine AWo.go (f := 0) hev (by first | exact d_loadT rfl (ld ty23 rfl rfl) | exact d_load rfl (ld ty23 rfl rfl)) ?_
  refine AWo.go (f := 0) hev (by first | exact d_lenT rfl ty23 rfl | exact d_lenR rfl ty23 rfl | exact d_lenN rfl ty23 rfl | exact d_lenG rfl ty23 rfl) ?_
  refine AWo.go (f := 0) hev (d_moveT rfl) ?_
  refine AWo.nil ?_
  refine AW.block ?_
  refine AW.loop (α := Nat) (fun i => ⟨frm 51 [(2, .ptr (.loc [0]) 0), (3, .ptr (.loc [1]) 0), (29, .t (.int .i64 os.length)), (30, .t (.int .i64 i))], [(.loc [0], .cells 26 [.t (.int .u8 k), .t (.str s), .t (.sl os), .t (.sl bs)]), (.loc [1], .cells 26 [.t (.int .u8 k), .t (.str s), .t (.sl os), .t (.sl bs)])], 2⟩) (fun i => i ≤ os.length) (fun i => os.length - i) 0 (Re.sq [.loc [0], .loc [1]] ⟨rfl, rfl, rfl, rfl, trivial⟩ ⟨⟨.loc [0], _, rfl, rfl, .inl rfl⟩, ⟨.loc [1], _, rfl, rfl, .inl rfl⟩, trivial⟩ (by decide) rfl rfl (by decide)) (Nat.zero_le _) (fun i hi => ?_)
  refine AW.seq ?_
  refine AW.region ?_
  refine AWo.go (f := 0) hev (d_ltI rfl rfl) ?_
  refine AWo.nil ?_
  refine AW.seq ?_
  refine AW.cond rfl (fun h31 => ?_) (fun h31 => ?_)
  · have hlt : i < os.length := by have := of_decide_eq_true h31; omega
    obtain ⟨x, he⟩ : ∃ x, os[i]? = some x := ⟨os[i], List.getElem?_eq_getElem hlt⟩
    have hty := hos x (List.mem_of_getElem? he)
    have hsh := hform x hty
    refine AW.skip ?_
    refine AW.seq ?_
    refine AW.block ?_
    refine AW.seq ?_
    refine AW.region ?_
    refine AWo.go (f := 0) hev (d_moveT rfl) ?_
    refine AWo.go (f := 0) hev (d_assignT rfl) ?_
    refine AWo.nil ?_
    refine AW.seq ?_
    refine AW.draw (f := 0) orders hev ?_
    refine AWd.go rfl (d_fieldAddr rfl fo26_2 rfl) ?_
    refine AWd.go rfl ((by first | exact d_loadT rfl (ld ty23 rfl rfl) | exact d_load rfl (ld ty23 rfl rfl))) ?_
    refine AWd.go rfl (d_moveT rfl) ?_
    refine AWd.go rfl (d_indexT rfl rfl ty23 rfl ty26 he (by obtain ⟨_, _, _, _, rfl⟩ := hsh; rfl)) ?_
    refine AWd.go rfl (d_load (v := .t x) rfl (ld ty26 rfl (by obtain ⟨_, _, _, _, rfl⟩ := hsh; rfl))) ?_
    refine AWd.go rfl (d_fieldAddr rfl fo26_2 rfl) ?_
    refine AWd.go rfl ((by first | exact d_loadT rfl (ld ty23 rfl rfl) | exact d_load rfl (ld ty23 rfl rfl))) ?_
    refine AWd.go rfl (d_moveT rfl) ?_
    refine AWd.go rfl (d_indexT rfl rfl ty23 rfl ty26 he (by obtain ⟨_, _, _, _, rfl⟩ := hsh; rfl)) ?_
    refine AWd.go rfl (d_load (v := .t x) rfl (ld ty26 rfl (by obtain ⟨_, _, _, _, rfl⟩ := hsh; rfl))) ?_
    refine AWd.go rfl (d_callT (rh2 rfl rfl) (ho _ hty)) ?_
    refine AWd.go rfl (d_not rfl) ?_
    refine AWd.nil ⟨rfl, rfl, ?_⟩
    refine AW.cond rfl (fun h => absurd h (by decide)) (fun h => ?_)
    refine AW.skip ?_
    refine AW.region ?_
    refine AWo.go (f := 0) hev (d_add64 rfl rfl (by omega) (by omega)) ?_
    refine AWo.go (f := 0) hev (d_moveT rfl) ?_
    refine AWo.nil ?_
    exact ⟨i + 1, hlt, Nat.sub_lt_sub_left hlt (Nat.lt_succ_self i), (Re.sq [.loc [0], .loc [1]] ⟨rfl, rfl, rfl, rfl, trivial⟩ ⟨⟨.loc [0], _, rfl, rfl, .inl rfl⟩, ⟨.loc [1], _, rfl, rfl, .inl rfl⟩, trivial⟩ (by decide) rfl rfl (by decide))⟩
  · have hie : i = os.length := by have := of_decide_eq_false h31; omega
    subst hie
    skip
    refine AW.exit ?_
    refine AW.seq ?_
    refine AW.region ?_
    refine AWo.go (f := 0) hev (d_fieldAddr rfl fo26_3 rfl) ?_
    refine AWo.go (f := 0) hev (by first | exact d_loadT rfl (ld ty24 rfl rfl) | exact d_load rfl (ld ty24 rfl rfl)) ?_
    refine AWo.go (f := 0) hev (d_fieldAddr rfl fo26_3 rfl) ?_
    refine AWo.go (f := 0) hev (by first | exact d_loadT rfl (ld ty24 rfl rfl) | exact d_load rfl (ld ty24 rfl rfl)) ?_
    refine AWo.go (f := 0) hev (d_callT (rh2 rfl rfl) ha) ?_
    refine AWo.go (f := 0) hev (d_assignT rfl) ?_
    refine AWo.nil ?_
    refine AW.ret ?_
    exact .inl (fin_data rfl rfl)

theorem sameEntity {m : Int} (ev : CallF) (hev : CallOk (cf m) ev) (nm : List UInt8) (ps bs : List Tree) (hp : ev 48 [.t (.sl ps), .t (.sl ps)] [] = some (.ret (.t (.bool true)) [] [])) (ha : ev 49 [.t (.sl bs), .t (.sl bs)] [] = some (.ret (.t (.bool true)) [] [])) :
    CallRel (cf m) 19 [.t (.agg [.str nm, .sl ps, .sl bs]), .t (.agg [.str nm, .sl ps, .sl bs])] [] (.ret (.t (.bool true)) [] []) := by
  refine fn_start2 24 2 Tryz.func19 rfl (by decide) rfl rfl (by decide) ?_
  refine AW.seq ?_
  refine AW.region ?_
  refine AWo.go (f := 0) hev (d_box rfl rfl) ?_
  refine AWo.go (f := 0) hev (d_box rfl rfl) ?_
  refine AWo.go (f := 0) hev (d_assignT rfl) ?_
  refine AWo.nil ?_
  refine AW.seq ?_
  refine AW.region ?_
  refine AWo.go (f := 0) hev (d_fieldAddr rfl fo40_0 rfl) ?_
  refine AWo.go (f := 0) hev (by first | exact d_loadT rfl (ld ty9 rfl rfl) | exact d_load rfl (ld ty9 rfl rfl)) ?_
  refine AWo.go (f := 0) hev (d_fieldAddr rfl fo40_0 rfl) ?_
  refine AWo.go (f := 0) hev (by first | exact d_loadT rfl (ld ty9 rfl rfl) | exact d_load rfl (ld ty9 rfl rfl)) ?_
  refine AWo.go (f := 0) hev (d_eqS0 rfl rfl) ?_
  refine AWo.go (f := 0) hev (d_moveT rfl) ?_
  refine AWo.gT (f := 0) hev rfl rfl rfl (fun hb => d_fieldAddr rfl fo40_1 rfl) ?_
  refine AWo.gT (f := 0) hev rfl rfl rfl (fun hb => (by first | exact d_loadT (rho_gv hb rfl) (ld ty38 rfl rfl) | exact d_load (rho_gv hb rfl) (ld ty38 rfl rfl))) ?_
  refine AWo.gT (f := 0) hev rfl rfl rfl (fun hb => d_fieldAddr rfl fo40_1 rfl) ?_
  refine AWo.gT (f := 0) hev rfl rfl rfl (fun hb => (by first | exact d_loadT (rho_gv hb rfl) (ld ty38 rfl rfl) | exact d_load (rho_gv hb rfl) (ld ty38 rfl rfl))) ?_
  refine AWo.gT (f := 0) hev rfl rfl rfl (fun hb => d_callT (rh2 (rho_gv hb rfl) (rho_gv hb rfl)) hp) ?_
  refine AWo.go (f := 0) hev (by first | exact d_and rfl rfl (fun h => by simp_all) | exact d_pick rfl rfl rfl) ?_
  refine AWo.go (f := 0) hev (d_moveT rfl) ?_
  refine AWo.gT (f := 0) hev rfl rfl rfl (fun hb => d_fieldAddr rfl fo40_2 rfl) ?_
  refine AWo.gT (f := 0) hev rfl rfl rfl (fun hb => (by first | exact d_loadT (rho_gv hb rfl) (ld ty24 rfl rfl) | exact d_load (rho_gv hb rfl) (ld ty24 rfl rfl))) ?_
  refine AWo.gT (f := 0) hev rfl rfl rfl (fun hb => d_fieldAddr rfl fo40_2 rfl) ?_
  refine AWo.gT (f := 0) hev rfl rfl rfl (fun hb => (by first | exact d_loadT (rho_gv hb rfl) (ld ty24 rfl rfl) | exact d_load (rho_gv hb rfl) (ld ty24 rfl rfl))) ?_
  refine AWo.gT (f := 0) hev rfl rfl rfl (fun hb => d_callT (rh2 (rho_gv hb rfl) (rho_gv hb rfl)) ha) ?_
  refine AWo.go (f := 0) hev (by first | exact d_and rfl rfl (fun h => by simp_all) | exact d_pick rfl rfl rfl) ?_
  refine AWo.go (f := 0) hev (d_assignT rfl) ?_
  refine AWo.nil ?_
  refine AW.ret ?_
  exact .inl (fin_data rfl rfl)

theorem sameAction {m : Int} (ev : CallF) (hev : CallOk (cf m) ev) (nm : List UInt8) (ps rs bs : List Tree) (hp : ev 48 [.t (.sl ps), .t (.sl ps)] [] = some (.ret (.t (.bool true)) [] [])) (hr : ev 48 [.t (.sl rs), .t (.sl rs)] [] = some (.ret (.t (.bool true)) [] [])) (ha : ev 49 [.t (.sl bs), .t (.sl bs)] [] = some (.ret (.t (.bool true)) [] [])) :
    CallRel (cf m) 20 [.t (.agg [.str nm, .sl ps, .sl rs, .sl bs]), .t (.agg [.str nm, .sl ps, .sl rs, .sl bs])] [] (.ret (.t (.bool true)) [] []) := by
  refine fn_start2 31 2 Tryz.func20 rfl (by decide) rfl rfl (by decide) ?_
  refine AW.seq ?_
  refine AW.region ?_
  refine AWo.go (f := 0) hev (d_box rfl rfl) ?_
  refine AWo.go (f := 0) hev (d_box rfl rfl) ?_
  refine AWo.go (f := 0) hev (d_assignT rfl) ?_
  refine AWo.nil ?_
  refine AW.seq ?_
  refine AW.region ?_
  refine AWo.go (f := 0) hev (d_fieldAddr rfl fo44_0 rfl) ?_
  refine AWo.go (f := 0) hev (by first | exact d_loadT rfl (ld ty9 rfl rfl) | exact d_load rfl (ld ty9 rfl rfl)) ?_
  refine AWo.go (f := 0) hev (d_fieldAddr rfl fo44_0 rfl) ?_
  refine AWo.go (f := 0) hev (by first | exact d_loadT rfl (ld ty9 rfl rfl) | exact d_load rfl (ld ty9 rfl rfl)) ?_
  refine AWo.go (f := 0) hev (d_eqS0 rfl rfl) ?_
  refine AWo.go (f := 0) hev (d_moveT rfl) ?_
  refine AWo.gT (f := 0) hev rfl rfl rfl (fun hb => d_fieldAddr rfl fo44_1 rfl) ?_
  refine AWo.gT (f := 0) hev rfl rfl rfl (fun hb => (by first | exact d_loadT (rho_gv hb rfl) (ld ty38 rfl rfl) | exact d_load (rho_gv hb rfl) (ld ty38 rfl rfl))) ?_
  refine AWo.gT (f := 0) hev rfl rfl rfl (fun hb => d_fieldAddr rfl fo44_1 rfl) ?_
  refine AWo.gT (f := 0) hev rfl rfl rfl (fun hb => (by first | exact d_loadT (rho_gv hb rfl) (ld ty38 rfl rfl) | exact d_load (rho_gv hb rfl) (ld ty38 rfl rfl))) ?_
  refine AWo.gT (f := 0) hev rfl rfl rfl (fun hb => d_callT (rh2 (rho_gv hb rfl) (rho_gv hb rfl)) hp) ?_
  refine AWo.go (f := 0) hev (by first | exact d_and rfl rfl (fun h => by simp_all) | exact d_pick rfl rfl rfl) ?_
  refine AWo.go (f := 0) hev (d_moveT rfl) ?_
  refine AWo.gT (f := 0) hev rfl rfl rfl (fun hb => d_fieldAddr rfl fo44_2 rfl) ?_
  refine AWo.gT (f := 0) hev rfl rfl rfl (fun hb => (by first | exact d_loadT (rho_gv hb rfl) (ld ty38 rfl rfl) | exact d_load (rho_gv hb rfl) (ld ty38 rfl rfl))) ?_
  refine AWo.gT (f := 0) hev rfl rfl rfl (fun hb => d_fieldAddr rfl fo44_2 rfl) ?_
  refine AWo.gT (f := 0) hev rfl rfl rfl (fun hb => (by first | exact d_loadT (rho_gv hb rfl) (ld ty38 rfl rfl) | exact d_load (rho_gv hb rfl) (ld ty38 rfl rfl))) ?_
  refine AWo.gT (f := 0) hev rfl rfl rfl (fun hb => d_callT (rh2 (rho_gv hb rfl) (rho_gv hb rfl)) hr) ?_
  refine AWo.go (f := 0) hev (by first | exact d_and rfl rfl (fun h => by simp_all) | exact d_pick rfl rfl rfl) ?_
  refine AWo.go (f := 0) hev (d_moveT rfl) ?_
  refine AWo.gT (f := 0) hev rfl rfl rfl (fun hb => d_fieldAddr rfl fo44_3 rfl) ?_
  refine AWo.gT (f := 0) hev rfl rfl rfl (fun hb => (by first | exact d_loadT (rho_gv hb rfl) (ld ty24 rfl rfl) | exact d_load (rho_gv hb rfl) (ld ty24 rfl rfl))) ?_
  refine AWo.gT (f := 0) hev rfl rfl rfl (fun hb => d_fieldAddr rfl fo44_3 rfl) ?_
  refine AWo.gT (f := 0) hev rfl rfl rfl (fun hb => (by first | exact d_loadT (rho_gv hb rfl) (ld ty24 rfl rfl) | exact d_load (rho_gv hb rfl) (ld ty24 rfl rfl))) ?_
  refine AWo.gT (f := 0) hev rfl rfl rfl (fun hb => d_callT (rh2 (rho_gv hb rfl) (rho_gv hb rfl)) ha) ?_
  refine AWo.go (f := 0) hev (by first | exact d_and rfl rfl (fun h => by simp_all) | exact d_pick rfl rfl rfl) ?_
  refine AWo.go (f := 0) hev (d_assignT rfl) ?_
  refine AWo.nil ?_
  refine AW.ret ?_
  exact .inl (fin_data rfl rfl)

theorem sameSchema {m : Int} (ev : CallF) (hev : CallOk (cf m) ev) (ts cs : List Tree) (hl : ts.length ≤ 4194304) (hl2 : cs.length ≤ 4194304) (En Ac : Tree → Prop) (hef : ∀ x, En x → ∃ nm p b, x = .agg [.str nm, .sl p, .sl b]) (haf : ∀ x, Ac x → ∃ nm p r b, x = .agg [.str nm, .sl p, .sl r, .sl b]) (hts : ∀ x ∈ ts, En x) (hcs : ∀ x ∈ cs, Ac x)
    (he1 : ∀ x, En x → ev 19 [.t x, .t x] [] = some (.ret (.t (.bool true)) [] [])) (ha1 : ∀ x, Ac x → ev 20 [.t x, .t x] [] = some (.ret (.t (.bool true)) [] [])) :
    CallRel (cf m) 10 [.t (.agg [.sl ts, .sl cs]), .t (.agg [.sl ts, .sl cs])] [] (.ret (.t (.bool true)) [] []) := by
  refine fn_start2 61 2 Tryz.func10 rfl (by decide) rfl rfl (by decide) ?_
  refine AW.seq ?_
  refine AW.region ?_
  refine AWo.go (f := 0) hev (d_box rfl rfl) ?_
  refine AWo.go (f := 0) hev (d_box rfl rfl) ?_
  refine AWo.go (f := 0) hev (d_assignT rfl) ?_
  refine AWo.nil ?_
  refine AW.seq ?_
  refine AW.seq ?_
  refine AW.region ?_
  refine AWo.go (f := 0) hev (d_fieldAddr rfl fo36_0 rfl) ?_
  refine AWo.go (f := 0) hev (by first | exact d_loadT rfl (ld ty33 rfl rfl) | exact d_load rfl (ld ty33 rfl rfl)) ?_
  refine AWo.go (f := 0) hev (by first | exact d_lenT rfl ty33 rfl | exact d_lenR rfl ty33 rfl | exact d_lenN rfl ty33 rfl | exact d_lenG rfl ty33 rfl) ?_
  refine AWo.go (f := 0) hev (d_fieldAddr rfl fo36_0 rfl) ?_
  refine AWo.go (f := 0) hev (by first | exact d_loadT rfl (ld ty33 rfl rfl) | exact d_load rfl (ld ty33 rfl rfl)) ?_
  refine AWo.go (f := 0) hev (by first | exact d_lenT rfl ty33 rfl | exact d_lenR rfl ty33 rfl | exact d_lenN rfl ty33 rfl | exact d_lenG rfl ty33 rfl) ?_
  refine AWo.go (f := 0) hev (d_neI0 rfl rfl) ?_
  refine AWo.go (f := 0) hev (d_moveT rfl) ?_
  refine AWo.gF (f := 0) hev rfl rfl rfl (fun hb => d_fieldAddr rfl fo36_1 rfl) ?_
  refine AWo.gF (f := 0) hev rfl rfl rfl (fun hb => (by first | exact d_loadT (rho_gv hb rfl) (ld ty34 rfl rfl) | exact d_load (rho_gv hb rfl) (ld ty34 rfl rfl))) ?_
  refine AWo.gF (f := 0) hev rfl rfl rfl (fun hb => (by first | exact d_lenT (rho_gv hb rfl) ty34 rfl | exact d_lenR (rho_gv hb rfl) ty34 rfl | exact d_lenN (rho_gv hb rfl) ty34 rfl | exact d_lenG (rho_gv hb rfl) ty34 rfl)) ?_
  refine AWo.gF (f := 0) hev rfl rfl rfl (fun hb => d_fieldAddr rfl fo36_1 rfl) ?_
  refine AWo.gF (f := 0) hev rfl rfl rfl (fun hb => (by first | exact d_loadT (rho_gv hb rfl) (ld ty34 rfl rfl) | exact d_load (rho_gv hb rfl) (ld ty34 rfl rfl))) ?_
  refine AWo.gF (f := 0) hev rfl rfl rfl (fun hb => (by first | exact d_lenT (rho_gv hb rfl) ty34 rfl | exact d_lenR (rho_gv hb rfl) ty34 rfl | exact d_lenN (rho_gv hb rfl) ty34 rfl | exact d_lenG (rho_gv hb rfl) ty34 rfl)) ?_
  refine AWo.gF (f := 0) hev rfl rfl rfl (fun hb => d_neI0 (rho_gv hb rfl) (rho_gv hb rfl)) ?_
  refine AWo.go (f := 0) hev (by first | exact d_or rfl rfl (fun h => by simp_all) | exact d_pick rfl rfl rfl) ?_
  refine AWo.nil ?_
  refine AW.cond rfl (fun h => absurd h (by decide)) (fun h => ?_)
  refine AW.skip ?_
  refine AW.seq ?_
  refine AW.seq ?_
  refine AW.region ?_
  refine AWo.go (f := 0) hev (d_fieldAddr rfl fo36_0 rfl) ?_
  refine AWo.go (f := 0) hev (by first | exact d_loadT rfl (ld ty33 rfl rfl) | exact d_load rfl (ld ty33 rfl rfl)) ?_
  refine AWo.go (f := 0) hev (by first | exact d_lenT rfl ty33 rfl | exact d_lenR rfl ty33 rfl | exact d_lenN rfl ty33 rfl | exact d_lenG rfl ty33 rfl) ?_
  refine AWo.go (f := 0) hev (d_moveT rfl) ?_
  refine AWo.nil ?_
  refine AW.block ?_
  refine AW.loop (α := Nat) (fun i => ⟨frm 61 [(2, .ptr (.loc [0]) 0), (3, .ptr (.loc [1]) 0), (25, .t (.int .i64 ts.length)), (26, .t (.int .i64 i))], [(.loc [0], .cells 36 [.t (.sl ts), .t (.sl cs)]), (.loc [1], .cells 36 [.t (.sl ts), .t (.sl cs)])], 2⟩) (fun i => i ≤ ts.length) (fun i => ts.length - i) 0 (Re.sq [.loc [0], .loc [1]] ⟨rfl, rfl, rfl, rfl, trivial⟩ ⟨⟨.loc [0], _, rfl, rfl, .inl rfl⟩, ⟨.loc [1], _, rfl, rfl, .inl rfl⟩, trivial⟩ (by decide) rfl rfl (by decide)) (Nat.zero_le _) (fun i hi => ?_)
  refine AW.seq ?_
  refine AW.region ?_
  refine AWo.go (f := 0) hev (d_ltI rfl rfl) ?_
  refine AWo.nil ?_
  refine AW.seq ?_
  refine AW.cond rfl (fun h27 => ?_) (fun h27 => ?_)
  · have hlt : i < ts.length := by have := of_decide_eq_true h27; omega
    obtain ⟨x, he⟩ : ∃ x, ts[i]? = some x := ⟨ts[i], List.getElem?_eq_getElem hlt⟩
    have hty := hts x (List.mem_of_getElem? he)
    have hsh := hef x hty
    refine AW.skip ?_
    refine AW.seq ?_
    refine AW.block ?_
    refine AW.seq ?_
    refine AW.region ?_
    refine AWo.go (f := 0) hev (d_moveT rfl) ?_
    refine AWo.go (f := 0) hev (d_assignT rfl) ?_
    refine AWo.nil ?_
    refine AW.seq ?_
    refine AW.draw (f := 0) orders hev ?_
    refine AWd.go rfl (d_fieldAddr rfl fo36_0 rfl) ?_
    refine AWd.go rfl ((by first | exact d_loadT rfl (ld ty33 rfl rfl) | exact d_load rfl (ld ty33 rfl rfl))) ?_
    refine AWd.go rfl (d_moveT rfl) ?_
    refine AWd.go rfl (d_indexT rfl rfl ty33 rfl ty40 he (by obtain ⟨_, _, _, rfl⟩ := hsh; rfl)) ?_
    refine AWd.go rfl (d_load (v := .t x) rfl (ld ty40 rfl (by obtain ⟨_, _, _, rfl⟩ := hsh; rfl))) ?_
    refine AWd.go rfl (d_fieldAddr rfl fo36_0 rfl) ?_
    refine AWd.go rfl ((by first | exact d_loadT rfl (ld ty33 rfl rfl) | exact d_load rfl (ld ty33 rfl rfl))) ?_
    refine AWd.go rfl (d_moveT rfl) ?_
    refine AWd.go rfl (d_indexT rfl rfl ty33 rfl ty40 he (by obtain ⟨_, _, _, rfl⟩ := hsh; rfl)) ?_
    refine AWd.go rfl (d_load (v := .t x) rfl (ld ty40 rfl (by obtain ⟨_, _, _, rfl⟩ := hsh; rfl))) ?_
    refine AWd.go rfl (d_callT (rh2 rfl rfl) (he1 _ hty)) ?_
    refine AWd.go rfl (d_not rfl) ?_
    refine AWd.nil ⟨rfl, rfl, ?_⟩
    refine AW.cond rfl (fun h => absurd h (by decide)) (fun h => ?_)
    refine AW.skip ?_
    refine AW.region ?_
    refine AWo.go (f := 0) hev (d_add64 rfl rfl (by omega) (by omega)) ?_
    refine AWo.go (f := 0) hev (d_moveT rfl) ?_
    refine AWo.nil ?_
    exact ⟨i + 1, hlt, Nat.sub_lt_sub_left hlt (Nat.lt_succ_self i), (Re.sq [.loc [0], .loc [1]] ⟨rfl, rfl, rfl, rfl, trivial⟩ ⟨⟨.loc [0], _, rfl, rfl, .inl rfl⟩, ⟨.loc [1], _, rfl, rfl, .inl rfl⟩, trivial⟩ (by decide) rfl rfl (by decide))⟩
  · have hie : i = ts.length := by have := of_decide_eq_false h27; omega
    subst hie
    skip
    refine AW.exit ?_
    refine AW.seq ?_
    refine AW.seq ?_
    refine AW.region ?_
    refine AWo.go (f := 0) hev (d_fieldAddr rfl fo36_1 rfl) ?_
    refine AWo.go (f := 0) hev (by first | exact d_loadT rfl (ld ty34 rfl rfl) | exact d_load rfl (ld ty34 rfl rfl)) ?_
    refine AWo.go (f := 0) hev (by first | exact d_lenT rfl ty34 rfl | exact d_lenR rfl ty34 rfl | exact d_lenN rfl ty34 rfl | exact d_lenG rfl ty34 rfl) ?_
    refine AWo.go (f := 0) hev (d_moveT rfl) ?_
    refine AWo.nil ?_
    refine AW.block ?_
    refine AW.loop (α := Nat) (fun i => ⟨frm 61 [(2, .ptr (.loc [0]) 0), (3, .ptr (.loc [1]) 0), (44, .t (.int .i64 cs.length)), (45, .t (.int .i64 i))], [(.loc [0], .cells 36 [.t (.sl ts), .t (.sl cs)]), (.loc [1], .cells 36 [.t (.sl ts), .t (.sl cs)])], 2⟩) (fun i => i ≤ cs.length) (fun i => cs.length - i) 0 (Re.sq [.loc [0], .loc [1]] ⟨rfl, rfl, rfl, rfl, trivial⟩ ⟨⟨.loc [0], _, rfl, rfl, .inl rfl⟩, ⟨.loc [1], _, rfl, rfl, .inl rfl⟩, trivial⟩ (by decide) rfl rfl (by decide)) (Nat.zero_le _) (fun i hi => ?_)
    refine AW.seq ?_
    refine AW.region ?_
    refine AWo.go (f := 0) hev (d_ltI rfl rfl) ?_
    refine AWo.nil ?_
    refine AW.seq ?_
    refine AW.cond rfl (fun h46 => ?_) (fun h46 => ?_)
    · have hlt : i < cs.length := by have := of_decide_eq_true h46; omega
      obtain ⟨x, he⟩ : ∃ x, cs[i]? = some x := ⟨cs[i], List.getElem?_eq_getElem hlt⟩
      have hty := hcs x (List.mem_of_getElem? he)
      have hsh := haf x hty
      refine AW.skip ?_
      refine AW.seq ?_
      refine AW.block ?_
      refine AW.seq ?_
      refine AW.region ?_
      refine AWo.go (f := 0) hev (d_moveT rfl) ?_
      refine AWo.go (f := 0) hev (d_assignT rfl) ?_
      refine AWo.nil ?_
      refine AW.seq ?_
      refine AW.draw (f := 0) orders hev ?_
      refine AWd.go rfl (d_fieldAddr rfl fo36_1 rfl) ?_
      refine AWd.go rfl ((by first | exact d_loadT rfl (ld ty34 rfl rfl) | exact d_load rfl (ld ty34 rfl rfl))) ?_
      refine AWd.go rfl (d_moveT rfl) ?_
      refine AWd.go rfl (d_indexT rfl rfl ty34 rfl ty44 he (by obtain ⟨_, _, _, _, rfl⟩ := hsh; rfl)) ?_
      refine AWd.go rfl (d_load (v := .t x) rfl (ld ty44 rfl (by obtain ⟨_, _, _, _, rfl⟩ := hsh; rfl))) ?_
      refine AWd.go rfl (d_fieldAddr rfl fo36_1 rfl) ?_
      refine AWd.go rfl ((by first | exact d_loadT rfl (ld ty34 rfl rfl) | exact d_load rfl (ld ty34 rfl rfl))) ?_
      refine AWd.go rfl (d_moveT rfl) ?_
      refine AWd.go rfl (d_indexT rfl rfl ty34 rfl ty44 he (by obtain ⟨_, _, _, _, rfl⟩ := hsh; rfl)) ?_
      refine AWd.go rfl (d_load (v := .t x) rfl (ld ty44 rfl (by obtain ⟨_, _, _, _, rfl⟩ := hsh; rfl))) ?_
      refine AWd.go rfl (d_callT (rh2 rfl rfl) (ha1 _ hty)) ?_
      refine AWd.go rfl (d_not rfl) ?_
      refine AWd.nil ⟨rfl, rfl, ?_⟩
      refine AW.cond rfl (fun h => absurd h (by decide)) (fun h => ?_)
      refine AW.skip ?_
      refine AW.region ?_
      refine AWo.go (f := 0) hev (d_add64 rfl rfl (by omega) (by omega)) ?_
      refine AWo.go (f := 0) hev (d_moveT rfl) ?_
      refine AWo.nil ?_
      exact ⟨i + 1, hlt, Nat.sub_lt_sub_left hlt (Nat.lt_succ_self i), (Re.sq [.loc [0], .loc [1]] ⟨rfl, rfl, rfl, rfl, trivial⟩ ⟨⟨.loc [0], _, rfl, rfl, .inl rfl⟩, ⟨.loc [1], _, rfl, rfl, .inl rfl⟩, trivial⟩ (by decide) rfl rfl (by decide))⟩
    · have hie : i = cs.length := by have := of_decide_eq_false h46; omega
      subst hie
      skip
      refine AW.exit ?_
      refine AW.seq ?_
      refine AW.region ?_
      refine AWo.go (f := 0) hev (d_assignT rfl) ?_
      refine AWo.nil ?_
      refine AW.ret ?_
      exact .inl (fin_data rfl rfl)

theorem copyAttrs {m : Int} (ev : CallF) (hev : CallOk (cf m) ev) (l : List Tree) (hl : l.length ≤ 4194304) (Ty : Tree → Prop) (hat : ∀ e ∈ l, ∃ nm k s o a, e = .agg [.str nm, .int .u8 k, .str s, .sl o, .sl a] ∧ Ty (.agg [.int .u8 k, .str s, .sl o, .sl a])) (ho : ∀ x, Ty x → ev 90 [.t x] [] = some (.ret (.t x) [] [])) :
    CallRel (cf m) 45 [.t (.sl l)] [] (.ret (.t (.sl l)) [] []) := by
  have hu : Uni true 5 l := fun e he => by obtain ⟨nm, k, s, o, a, rfl, _⟩ := hat e he; exact ⟨rfl, rfl, rfl⟩
  refine fn_start2 23 1 Tryz.func45 rfl (by decide) rfl rfl (by decide) ?_
  refine AW.seq ?_
  refine AW.region ?_
  refine AWo.go (f := 0) hev (by first | exact d_assignT rfl | exact d_assign rfl) ?_
  refine AWo.nil ?_
  refine AW.seq ?_
  refine AW.region ?_
  refine AWo.go (f := 0) hev (by first | exact d_assignT rfl | exact d_assign rfl) ?_
  refine AWo.nil ?_
  refine AW.seq ?_
  refine AW.seq ?_
  refine AW.region ?_
  refine AWo.go (f := 0) hev (by first | exact d_moveT rfl | exact d_move rfl) ?_
  refine AWo.go (f := 0) hev (by first | exact d_lenT rfl ty24 rfl | exact d_lenR rfl ty24 rfl | exact d_lenN rfl ty24 rfl | exact d_lenG rfl ty24 rfl) ?_
  refine AWo.go (f := 0) hev (d_moveT rfl) ?_
  refine AWo.nil ?_
  refine AW.block ?_
  refine AW.loop (α := Nat) (fun i => match i with | 0 => ⟨frm 23 [(3, .nils), (6, .t (.sl l)), (7, .t (.int .i64 l.length)), (8, .t (.int .i64 (0 : Nat)))], [], 1⟩ | j + 1 => ⟨frm 23 [(3, .ref (.loc [0]) 0 (j + 1)), (6, .t (.sl l)), (7, .t (.int .i64 l.length)), (8, .t (.int .i64 (j + 1 : Nat)))], [(.loc [0], .arr (31, true) 5 false ((flat (l.take (j + 1))).map .t))], 1⟩) (fun i => i ≤ l.length) (fun i => l.length - i) 0 (Re.sq [] ⟨rfl, rfl, rfl, rfl, trivial⟩ trivial (by decide) rfl rfl (by decide)) (Nat.zero_le _) (fun i hi => ?_)
  rcases i with _ | j
  · show AW _ _ ⟨frm 23 [(3, .nils), (6, .t (.sl l)), (7, .t (.int .i64 l.length)), (8, .t (.int .i64 (0 : Nat)))], [], 1⟩ _
    refine AW.seq ?_
    refine AW.region ?_
    refine AWo.go (f := 0) hev (d_ltI rfl rfl) ?_
    refine AWo.nil ?_
    refine AW.seq ?_
    refine AW.cond rfl (fun h9 => ?_) (fun h9 => ?_)
    · have hlt : 0 < l.length := by have := of_decide_eq_true h9; omega
      obtain ⟨e, he⟩ : ∃ e, l[0]? = some e := ⟨l[0], List.getElem?_eq_getElem hlt⟩
      obtain ⟨nm, k, s, o, a, rfl, hty⟩ := hat e (List.mem_of_getElem? he)
      refine AW.skip ?_
      refine AW.seq ?_
      refine AW.block ?_
      refine AW.seq ?_
      refine AW.region ?_
      refine AWo.go (f := 0) hev (d_indexT rfl rfl ty24 rfl ty31 he rfl) ?_
      refine AWo.go (f := 0) hev (by first | exact d_loadT rfl (ld ty31 rfl rfl) | exact d_load rfl (ld ty31 rfl rfl)) ?_
      refine AWo.go (f := 0) hev (d_alloc ty31 rfl rfl) ?_
      refine AWo.go0 (f := 0) hev (d_store rfl rfl (stt ty31 rfl rfl)) ?_
      refine AWo.nil ?_
      refine AW.draw (f := 0) orders hev ?_
      refine AWd.go rfl ((by first | exact d_moveT rfl | exact d_move rfl)) ?_
      refine AWd.go rfl (d_fieldAddr rfl fo31_0 rfl) ?_
      refine AWd.go rfl ((by first | exact d_loadT rfl (ld ty9 rfl rfl) | exact d_load rfl (ld ty9 rfl rfl))) ?_
      refine AWd.go rfl (d_fieldAddr rfl fo31_1 rfl) ?_
      refine AWd.go rfl ((by first | exact d_loadT rfl (ld ty26 rfl rfl) | exact d_load rfl (ld ty26 rfl rfl))) ?_
      refine AWd.go rfl (d_callT (rh1 rfl) (ho _ hty)) ?_
      refine AWd.go rfl (d_build rfl bl31 rfl rfl) ?_
      refine AWd.go rfl (d_lit1 (e := .agg [.str nm, .int .u8 k, .str s, .sl o, .sl a]) rfl rfl ty24 rfl ty31 rfl rfl ⟨rfl, rfl, rfl⟩) ?_
      refine AWd.go rfl (d_appN app24 rfl rfl (.inr rfl) (Uni.cons ⟨rfl, rfl, rfl⟩ .nil) (by simp) (by show _ * 88 ≤ 70368744177664; first | (simp; done) | (simp; omega))) ?_
      refine AWd.go rfl ((by first | exact d_assignT rfl | exact d_assign rfl)) ?_
      refine AWd.nil ⟨rfl, rfl, ?_⟩
      refine AW.region ?_
      refine AWo.go (f := 0) hev (d_add64 rfl rfl (by omega) (by omega)) ?_
      refine AWo.go (f := 0) hev (d_moveT rfl) ?_
      refine AWo.nil ?_
      exact ⟨0 + 1, hlt, Nat.sub_lt_sub_left hlt (Nat.lt_succ_self _), Re.sq [.loc [14]] ⟨rfl, rfl, rfl, rfl, trivial⟩ ⟨⟨.loc [14], _, rfl, rfl, .inl (by rw [take_snoc he]; exact rn_row)⟩, trivial⟩ (by decide) rfl rfl (by decide)⟩
    · have hie : 0 = l.length := by have := of_decide_eq_false h9; omega
      obtain rfl := List.eq_nil_of_length_eq_zero hie.symm
      refine AW.exit ?_
      refine AW.seq ?_
      refine AW.region ?_
      refine AWo.go (f := 0) hev (by first | exact d_moveT rfl | exact d_move rfl) ?_
      refine AWo.go (f := 0) hev (by first | exact d_assignT rfl | exact d_assign rfl) ?_
      refine AWo.nil ?_
      refine AW.ret ?_
      exact .inl (fin_data rfl rfl)
  · show AW _ _ ⟨frm 23 [(3, .ref (.loc [0]) 0 (j + 1)), (6, .t (.sl l)), (7, .t (.int .i64 l.length)), (8, .t (.int .i64 (j + 1 : Nat)))], [(.loc [0], .arr (31, true) 5 false ((flat (l.take (j + 1))).map .t))], 1⟩ _
    refine AW.seq ?_
    refine AW.region ?_
    refine AWo.go (f := 0) hev (d_ltI rfl rfl) ?_
    refine AWo.nil ?_
    refine AW.seq ?_
    refine AW.cond rfl (fun h9 => ?_) (fun h9 => ?_)
    · have hlt : j + 1 < l.length := by have := of_decide_eq_true h9; omega
      obtain ⟨e, he⟩ : ∃ e, l[(j + 1)]? = some e := ⟨l[(j + 1)], List.getElem?_eq_getElem hlt⟩
      obtain ⟨nm, k, s, o, a, rfl, hty⟩ := hat e (List.mem_of_getElem? he)
      refine AW.skip ?_
      refine AW.seq ?_
      refine AW.block ?_
      refine AW.seq ?_
      refine AW.region ?_
      refine AWo.go (f := 0) hev (d_indexT rfl rfl ty24 rfl ty31 he rfl) ?_
      refine AWo.go (f := 0) hev (by first | exact d_loadT rfl (ld ty31 rfl rfl) | exact d_load rfl (ld ty31 rfl rfl)) ?_
      refine AWo.go (f := 0) hev (d_alloc ty31 rfl rfl) ?_
      refine AWo.go0 (f := 0) hev (d_store rfl rfl (stt ty31 rfl rfl)) ?_
      refine AWo.nil ?_
      refine AW.draw (f := 0) orders hev ?_
      refine AWd.go rfl ((by first | exact d_moveT rfl | exact d_move rfl)) ?_
      refine AWd.go rfl (d_fieldAddr rfl fo31_0 rfl) ?_
      refine AWd.go rfl ((by first | exact d_loadT rfl (ld ty9 rfl rfl) | exact d_load rfl (ld ty9 rfl rfl))) ?_
      refine AWd.go rfl (d_fieldAddr rfl fo31_1 rfl) ?_
      refine AWd.go rfl ((by first | exact d_loadT rfl (ld ty26 rfl rfl) | exact d_load rfl (ld ty26 rfl rfl))) ?_
      refine AWd.go rfl (d_callT (rh1 rfl) (ho _ hty)) ?_
      refine AWd.go rfl (d_build rfl bl31 rfl rfl) ?_
      refine AWd.go rfl (d_lit1 (e := .agg [.str nm, .int .u8 k, .str s, .sl o, .sl a]) rfl rfl ty24 rfl ty31 rfl rfl ⟨rfl, rfl, rfl⟩) ?_
      refine AWd.go rfl (d_appR app24 rfl rfl (.inr rfl) rfl (by first | (simp; done) | (simp; omega)) (hu.take _) (Uni.cons ⟨rfl, rfl, rfl⟩ .nil) (by simp) (by show _ * 88 ≤ 70368744177664; first | (simp; done) | (simp; omega))) ?_
      refine AWd.go rfl ((by first | exact d_assignT rfl | exact d_assign rfl)) ?_
      refine AWd.nil ⟨rfl, rfl, ?_⟩
      refine AW.region ?_
      refine AWo.go (f := 0) hev (d_add64 rfl rfl (by omega) (by omega)) ?_
      refine AWo.go (f := 0) hev (d_moveT rfl) ?_
      refine AWo.nil ?_
      exact ⟨j + 1 + 1, hlt, Nat.sub_lt_sub_left hlt (Nat.lt_succ_self _), Re.sq [.loc [0]] ⟨rfl, rfl, rfl, rfl, trivial⟩ ⟨⟨.loc [0], _, rfl, rfl, .inl (by rw [take_snoc he]; exact rn_row)⟩, trivial⟩ (by decide) rfl rfl (by decide)⟩
    · have hie : j + 1 = l.length := by have := of_decide_eq_false h9; omega
      skip
      refine AW.exit ?_
      refine AW.seq ?_
      refine AW.region ?_
      refine AWo.go (f := 0) hev (by first | exact d_moveT rfl | exact d_move rfl) ?_
      refine AWo.go (f := 0) hev (by first | exact d_assignT rfl | exact d_assign rfl) ?_
      refine AWo.nil ?_
      refine AW.ret ?_
      exact .inl (fin_data rfl (frz_row' rfl (hu.take _) (by decide) (by first | (simp; done) | (simp; omega)) (List.take_of_length_le (by omega))))

theorem copyOf {m : Int} (ev : CallF) (hev : CallOk (cf m) ev) (k : Int) (s : List UInt8) (os bs : List Tree) (hl : os.length ≤ 4194304) (Ty : Tree → Prop) (hform : ∀ x, Ty x → ∃ k s o a, x = .agg [.int .u8 k, .str s, .sl o, .sl a]) (hos : ∀ x ∈ os, Ty x)
    (ho : ∀ x, Ty x → ev 90 [.t x] [] = some (.ret (.t x) [] [])) (ha : ev 45 [.t (.sl bs)] [] = some (.ret (.t (.sl bs)) [] [])) :
    CallRel (cf m) 90 [.t (.agg [.int .u8 k, .str s, .sl os, .sl bs])] [] (.ret (.t (.agg [.int .u8 k, .str s, .sl os, .sl bs])) [] []) := by
  have hu : Uni true 4 os := fun e he => by obtain ⟨k, s, o, a, rfl⟩ := hform e (hos e he); exact ⟨rfl, rfl, rfl⟩
  refine fn_start2 26 1 Tryz.func90 rfl (by decide) rfl rfl (by decide) ?_
  refine AW.seq ?_
  refine AW.region ?_
  refine AWo.go (f := 0) hev (d_box rfl rfl) ?_
  refine AWo.go (f := 0) hev (d_alloc ty26 rfl rfl) ?_
  refine AWo.nil ?_
  refine AW.seq ?_
  refine AW.region ?_
  refine AWo.go (f := 0) hev (by first | exact d_assignT rfl | exact d_assign rfl) ?_
  refine AWo.nil ?_
  refine AW.seq ?_
  refine AW.seq ?_
  refine AW.region ?_
  refine AWo.go (f := 0) hev (d_fieldAddr rfl fo26_2 rfl) ?_
  refine AWo.go (f := 0) hev (by first | exact d_loadT rfl (ld ty23 rfl rfl) | exact d_load rfl (ld ty23 rfl rfl)) ?_
  refine AWo.go (f := 0) hev (by first | exact d_lenT rfl ty23 rfl | exact d_lenR rfl ty23 rfl | exact d_lenN rfl ty23 rfl | exact d_lenG rfl ty23 rfl) ?_
  refine AWo.go (f := 0) hev (d_moveT rfl) ?_
  refine AWo.nil ?_
  refine AW.block ?_
  refine AW.loop (α := Nat) (fun i => match i with | 0 => ⟨frm 26 [(1, .ptr (.loc [0]) 0), (2, .ptr (.loc [1]) 0), (3, .nils), (7, .t (.sl os)), (8, .t (.int .i64 os.length)), (9, .t (.int .i64 (0 : Nat)))], [(.loc [0], .cells 26 [.t (.int .u8 k), .t (.str s), .t (.sl os), .t (.sl bs)]), (.loc [1], .cells 26 [.t (.int .u8 0), .t (.str []), .nils, .nils])], 3⟩ | j + 1 => ⟨frm 26 [(1, .ptr (.loc [0]) 0), (2, .ptr (.loc [1]) 0), (3, .ref (.loc [2]) 0 (j + 1)), (7, .t (.sl os)), (8, .t (.int .i64 os.length)), (9, .t (.int .i64 (j + 1 : Nat)))], [(.loc [0], .cells 26 [.t (.int .u8 k), .t (.str s), .t (.sl os), .t (.sl bs)]), (.loc [1], .cells 26 [.t (.int .u8 0), .t (.str []), .nils, .nils]), (.loc [2], .arr (26, true) 4 false ((flat (os.take (j + 1))).map .t))], 3⟩) (fun i => i ≤ os.length) (fun i => os.length - i) 0 (Re.sq [.loc [0], .loc [1]] ⟨rfl, rfl, rfl, rfl, rfl, rfl, trivial⟩ ⟨⟨.loc [0], _, rfl, rfl, .inl rfl⟩, ⟨.loc [1], _, rfl, rfl, .inl rfl⟩, trivial⟩ (by decide) rfl rfl (by decide)) (Nat.zero_le _) (fun i hi => ?_)
  rcases i with _ | j
  · show AW _ _ ⟨frm 26 [(1, .ptr (.loc [0]) 0), (2, .ptr (.loc [1]) 0), (3, .nils), (7, .t (.sl os)), (8, .t (.int .i64 os.length)), (9, .t (.int .i64 (0 : Nat)))], [(.loc [0], .cells 26 [.t (.int .u8 k), .t (.str s), .t (.sl os), .t (.sl bs)]), (.loc [1], .cells 26 [.t (.int .u8 0), .t (.str []), .nils, .nils])], 3⟩ _
    refine AW.seq ?_
    refine AW.region ?_
    refine AWo.go (f := 0) hev (d_ltI rfl rfl) ?_
    refine AWo.nil ?_
    refine AW.seq ?_
    refine AW.cond rfl (fun h10 => ?_) (fun h10 => ?_)
    · have hlt : 0 < os.length := by have := of_decide_eq_true h10; omega
      obtain ⟨x, he⟩ : ∃ e, os[0]? = some e := ⟨os[0], List.getElem?_eq_getElem hlt⟩
      have hty := hos x (List.mem_of_getElem? he)
      have hsh := hform x hty
      refine AW.skip ?_
      refine AW.seq ?_
      refine AW.block ?_
      refine AW.seq ?_
      refine AW.region ?_
      refine AWo.go (f := 0) hev (d_indexT rfl rfl ty23 rfl ty26 he (by obtain ⟨_, _, _, _, rfl⟩ := hsh; rfl)) ?_
      refine AWo.go (f := 0) hev (d_load (v := .t x) rfl (ld ty26 rfl (by obtain ⟨_, _, _, _, rfl⟩ := hsh; rfl))) ?_
      refine AWo.go (f := 0) hev (d_alloc ty26 rfl rfl) ?_
      refine AWo.go0 (f := 0) hev (d_store rfl rfl (stt ty26 rfl (by obtain ⟨_, _, _, _, rfl⟩ := hsh; rfl))) ?_
      refine AWo.nil ?_
      refine AW.region ?_
      refine AWo.go (f := 0) hev (by first | exact d_moveT rfl | exact d_move rfl) ?_
      refine AWo.go (f := 0) hev (d_load (v := .t x) rfl (ld ty26 rfl (by obtain ⟨_, _, _, _, rfl⟩ := hsh; rfl))) ?_
      refine AWo.go (f := 0) hev (d_callT (rh1 rfl) (ho _ hty)) ?_
      refine AWo.go (f := 0) hev (d_lit1 (e := x) rfl rfl ty23 rfl ty26 rfl rfl (by obtain ⟨_, _, _, _, rfl⟩ := hsh; exact ⟨rfl, rfl, rfl⟩)) ?_
      refine AWo.go (f := 0) hev (d_appN app23 rfl rfl (.inr rfl) (Uni.cons (by obtain ⟨_, _, _, _, rfl⟩ := hsh; exact ⟨rfl, rfl, rfl⟩) .nil) (by simp) (by show _ * 72 ≤ 70368744177664; first | (simp; done) | (simp; omega))) ?_
      refine AWo.go (f := 0) hev (by first | exact d_assignT rfl | exact d_assign rfl) ?_
      refine AWo.nil ?_
      refine AW.region ?_
      refine AWo.go (f := 0) hev (d_add64 rfl rfl (by omega) (by omega)) ?_
      refine AWo.go (f := 0) hev (d_moveT rfl) ?_
      refine AWo.nil ?_
      exact ⟨0 + 1, hlt, Nat.sub_lt_sub_left hlt (Nat.lt_succ_self _), Re.sq [.loc [0], .loc [1], .loc [12]] ⟨rfl, rfl, rfl, rfl, rfl, rfl, trivial⟩ ⟨⟨.loc [0], _, rfl, rfl, .inl rfl⟩, ⟨.loc [1], _, rfl, rfl, .inl rfl⟩, ⟨.loc [12], _, rfl, rfl, .inl (by rw [take_snoc he]; exact rn_row)⟩, trivial⟩ (by decide) rfl rfl (by decide)⟩
    · have hie : 0 = os.length := by have := of_decide_eq_false h10; omega
      obtain rfl := List.eq_nil_of_length_eq_zero hie.symm
      refine AW.exit ?_
      refine AW.seq ?_
      refine AW.region ?_
      refine AWo.go (f := 0) hev (by first | exact d_moveT rfl | exact d_move rfl) ?_
      refine AWo.go (f := 0) hev (d_fieldAddr rfl fo26_2 rfl) ?_
      refine AWo.go0 (f := 0) hev (d_store rfl rfl (stt ty23 rfl rfl)) ?_
      refine AWo.nil ?_
      refine AW.seq ?_
      refine AW.region ?_
      refine AWo.go (f := 0) hev (d_fieldAddr rfl fo26_3 rfl) ?_
      refine AWo.go (f := 0) hev (by first | exact d_loadT rfl (ld ty24 rfl rfl) | exact d_load rfl (ld ty24 rfl rfl)) ?_
      refine AWo.go (f := 0) hev (d_callT (rh1 rfl) ha) ?_
      refine AWo.go (f := 0) hev (d_fieldAddr rfl fo26_3 rfl) ?_
      refine AWo.go0 (f := 0) hev (d_store rfl rfl (stt ty24 rfl rfl)) ?_
      refine AWo.nil ?_
      refine AW.seq ?_
      refine AW.region ?_
      refine AWo.go (f := 0) hev (by first | exact d_loadT rfl (ld ty26 rfl rfl) | exact d_load rfl (ld ty26 rfl rfl)) ?_
      refine AWo.go0 (f := 0) hev (d_store rfl rfl (stt ty26 rfl rfl)) ?_
      refine AWo.nil ?_
      refine AW.ret ?_
      exact .inl (fin_data rfl rfl)
  · show AW _ _ ⟨frm 26 [(1, .ptr (.loc [0]) 0), (2, .ptr (.loc [1]) 0), (3, .ref (.loc [2]) 0 (j + 1)), (7, .t (.sl os)), (8, .t (.int .i64 os.length)), (9, .t (.int .i64 (j + 1 : Nat)))], [(.loc [0], .cells 26 [.t (.int .u8 k), .t (.str s), .t (.sl os), .t (.sl bs)]), (.loc [1], .cells 26 [.t (.int .u8 0), .t (.str []), .nils, .nils]), (.loc [2], .arr (26, true) 4 false ((flat (os.take (j + 1))).map .t))], 3⟩ _
    refine AW.seq ?_
    refine AW.region ?_
    refine AWo.go (f := 0) hev (d_ltI rfl rfl) ?_
    refine AWo.nil ?_
    refine AW.seq ?_
    refine AW.cond rfl (fun h10 => ?_) (fun h10 => ?_)
    · have hlt : j + 1 < os.length := by have := of_decide_eq_true h10; omega
      obtain ⟨x, he⟩ : ∃ e, os[(j + 1)]? = some e := ⟨os[(j + 1)], List.getElem?_eq_getElem hlt⟩
      have hty := hos x (List.mem_of_getElem? he)
      have hsh := hform x hty
      refine AW.skip ?_
      refine AW.seq ?_
      refine AW.block ?_
      refine AW.seq ?_
      refine AW.region ?_
      refine AWo.go (f := 0) hev (d_indexT rfl rfl ty23 rfl ty26 he (by obtain ⟨_, _, _, _, rfl⟩ := hsh; rfl)) ?_
      refine AWo.go (f := 0) hev (d_load (v := .t x) rfl (ld ty26 rfl (by obtain ⟨_, _, _, _, rfl⟩ := hsh; rfl))) ?_
      refine AWo.go (f := 0) hev (d_alloc ty26 rfl rfl) ?_
      refine AWo.go0 (f := 0) hev (d_store rfl rfl (stt ty26 rfl (by obtain ⟨_, _, _, _, rfl⟩ := hsh; rfl))) ?_
      refine AWo.nil ?_
      refine AW.region ?_
      refine AWo.go (f := 0) hev (by first | exact d_moveT rfl | exact d_move rfl) ?_
      refine AWo.go (f := 0) hev (d_load (v := .t x) rfl (ld ty26 rfl (by obtain ⟨_, _, _, _, rfl⟩ := hsh; rfl))) ?_
      refine AWo.go (f := 0) hev (d_callT (rh1 rfl) (ho _ hty)) ?_
      refine AWo.go (f := 0) hev (d_lit1 (e := x) rfl rfl ty23 rfl ty26 rfl rfl (by obtain ⟨_, _, _, _, rfl⟩ := hsh; exact ⟨rfl, rfl, rfl⟩)) ?_
      refine AWo.go (f := 0) hev (d_appR app23 rfl rfl (.inr rfl) rfl (by first | (simp; done) | (simp; omega)) (hu.take _) (Uni.cons (by obtain ⟨_, _, _, _, rfl⟩ := hsh; exact ⟨rfl, rfl, rfl⟩) .nil) (by simp) (by show _ * 72 ≤ 70368744177664; first | (simp; done) | (simp; omega))) ?_
      refine AWo.go (f := 0) hev (by first | exact d_assignT rfl | exact d_assign rfl) ?_
      refine AWo.nil ?_
      refine AW.region ?_
      refine AWo.go (f := 0) hev (d_add64 rfl rfl (by omega) (by omega)) ?_
      refine AWo.go (f := 0) hev (d_moveT rfl) ?_
      refine AWo.nil ?_
      exact ⟨j + 1 + 1, hlt, Nat.sub_lt_sub_left hlt (Nat.lt_succ_self _), Re.sq [.loc [0], .loc [1], .loc [2]] ⟨rfl, rfl, rfl, rfl, rfl, rfl, trivial⟩ ⟨⟨.loc [0], _, rfl, rfl, .inl rfl⟩, ⟨.loc [1], _, rfl, rfl, .inl rfl⟩, ⟨.loc [2], _, rfl, rfl, .inl (by rw [take_snoc he]; exact rn_row)⟩, trivial⟩ (by decide) rfl rfl (by decide)⟩
    · have hie : j + 1 = os.length := by have := of_decide_eq_false h10; omega
      skip
      refine AW.exit ?_
      refine AW.seq ?_
      refine AW.region ?_
      refine AWo.go (f := 0) hev (by first | exact d_moveT rfl | exact d_move rfl) ?_
      refine AWo.go (f := 0) hev (d_fieldAddr rfl fo26_2 rfl) ?_
      refine AWo.go0 (f := 0) hev (d_store rfl rfl (stt ty23 rfl rfl)) ?_
      refine AWo.nil ?_
      refine AW.seq ?_
      refine AW.region ?_
      refine AWo.go (f := 0) hev (d_fieldAddr rfl fo26_3 rfl) ?_
      refine AWo.go (f := 0) hev (by first | exact d_loadT rfl (ld ty24 rfl rfl) | exact d_load rfl (ld ty24 rfl rfl)) ?_
      refine AWo.go (f := 0) hev (d_callT (rh1 rfl) ha) ?_
      refine AWo.go (f := 0) hev (d_fieldAddr rfl fo26_3 rfl) ?_
      refine AWo.go0 (f := 0) hev (d_store rfl rfl (stt ty24 rfl rfl)) ?_
      refine AWo.nil ?_
      refine AW.seq ?_
      refine AW.region ?_
      refine AWo.go (f := 0) hev (by first | exact d_loadT rfl (ld ty26 rfl rfl) | exact d_load rfl (ld ty26 rfl rfl)) ?_
      refine AWo.go0 (f := 0) hev (d_store rfl rfl (stt ty26 rfl rfl)) ?_
      refine AWo.nil ?_
      refine AW.ret ?_
      exact .inl (fin_data rfl (frz_part' rfl (hu.take _) (by decide) (by first | (simp; done) | (simp; omega)) (List.take_of_length_le (by omega))))

theorem copyType_nil {m : Int} (ev : CallF) (hev : CallOk (cf m) ev) (nm : List UInt8) (bs : List Tree) (ha : ev 45 [.t (.sl bs)] [] = some (.ret (.t (.sl bs)) [] [])) :
    CallRel (cf m) 15 [.t (.agg [.str nm, .sl [], .sl bs])] [] (.ret (.t (.agg [.str nm, .sl [], .sl bs])) [] []) := by
  refine fn_start2 13 1 Tryz.func15 rfl (by decide) rfl rfl (by decide) ?_
  refine AW.seq ?_
  refine AW.region ?_
  refine AWo.go (f := 0) hev (d_box rfl rfl) ?_
  refine AWo.go (f := 0) hev (d_alloc ty40 rfl rfl) ?_
  refine AWo.nil ?_
  refine AW.seq ?_
  refine AW.region ?_
  refine AWo.go (f := 0) hev (d_lit0 rfl ty38 rfl ty9 rfl rfl) ?_
  refine AWo.go (f := 0) hev (d_fieldAddr rfl fo40_1 rfl) ?_
  refine AWo.go (f := 0) hev (by first | exact d_loadT rfl (ld ty38 rfl rfl) | exact d_load rfl (ld ty38 rfl rfl)) ?_
  refine AWo.go (f := 0) hev (d_app0 app38 rfl rfl (.inl (.inl rfl)) (.inr (.inr ⟨_, rfl⟩))) ?_
  refine AWo.go (f := 0) hev (d_fieldAddr rfl fo40_1 rfl) ?_
  refine AWo.go0 (f := 0) hev (d_store rfl rfl (stt ty38 rfl rfl)) ?_
  refine AWo.nil ?_
  refine AW.seq ?_
  refine AW.region ?_
  refine AWo.go (f := 0) hev (d_fieldAddr rfl fo40_2 rfl) ?_
  refine AWo.go (f := 0) hev (by first | exact d_loadT rfl (ld ty24 rfl rfl) | exact d_load rfl (ld ty24 rfl rfl)) ?_
  refine AWo.go (f := 0) hev (d_callT (rh1 rfl) ha) ?_
  refine AWo.go (f := 0) hev (d_fieldAddr rfl fo40_2 rfl) ?_
  refine AWo.go0 (f := 0) hev (d_store rfl rfl (stt ty24 rfl rfl)) ?_
  refine AWo.nil ?_
  refine AW.seq ?_
  refine AW.region ?_
  refine AWo.go (f := 0) hev (by first | exact d_loadT rfl (ld ty40 rfl rfl) | exact d_load rfl (ld ty40 rfl rfl)) ?_
  refine AWo.go0 (f := 0) hev (d_store rfl rfl (stt ty40 rfl rfl)) ?_
  refine AWo.nil ?_
  refine AW.ret ?_
  exact .inl (fin_data rfl rfl)

theorem copyType_row {m : Int} (ev : CallF) (hev : CallOk (cf m) ev) (nm : List UInt8) (ps bs : List Tree) (hne : ps ≠ []) (hu : Uni false 1 ps) (hl : ps.length ≤ 4194304) (ha : ev 45 [.t (.sl bs)] [] = some (.ret (.t (.sl bs)) [] [])) :
    CallRel (cf m) 15 [.t (.agg [.str nm, .sl ps, .sl bs])] [] (.ret (.t (.agg [.str nm, .sl ps, .sl bs])) [] []) := by
  refine fn_start2 13 1 Tryz.func15 rfl (by decide) rfl rfl (by decide) ?_
  refine AW.seq ?_
  refine AW.region ?_
  refine AWo.go (f := 0) hev (d_box rfl rfl) ?_
  refine AWo.go (f := 0) hev (d_alloc ty40 rfl rfl) ?_
  refine AWo.nil ?_
  refine AW.seq ?_
  refine AW.region ?_
  refine AWo.go (f := 0) hev (d_lit0 rfl ty38 rfl ty9 rfl rfl) ?_
  refine AWo.go (f := 0) hev (d_fieldAddr rfl fo40_1 rfl) ?_
  refine AWo.go (f := 0) hev (by first | exact d_loadT rfl (ld ty38 rfl rfl) | exact d_load rfl (ld ty38 rfl rfl)) ?_
  refine AWo.go (f := 0) hev (d_appG app38 rfl rfl (.inl rfl) hu hne (by show _ * 16 ≤ 70368744177664; omega)) ?_
  refine AWo.go (f := 0) hev (d_fieldAddr rfl fo40_1 rfl) ?_
  refine AWo.go0 (f := 0) hev (d_store rfl rfl (stt ty38 rfl rfl)) ?_
  refine AWo.nil ?_
  refine AW.seq ?_
  refine AW.region ?_
  refine AWo.go (f := 0) hev (d_fieldAddr rfl fo40_2 rfl) ?_
  refine AWo.go (f := 0) hev (by first | exact d_loadT rfl (ld ty24 rfl rfl) | exact d_load rfl (ld ty24 rfl rfl)) ?_
  refine AWo.go (f := 0) hev (d_callT (rh1 rfl) ha) ?_
  refine AWo.go (f := 0) hev (d_fieldAddr rfl fo40_2 rfl) ?_
  refine AWo.go0 (f := 0) hev (d_store rfl rfl (stt ty24 rfl rfl)) ?_
  refine AWo.nil ?_
  refine AW.seq ?_
  refine AW.region ?_
  refine AWo.go (f := 0) hev (by first | exact d_loadT rfl (ld ty40 rfl rfl) | exact d_load rfl (ld ty40 rfl rfl)) ?_
  refine AWo.go0 (f := 0) hev (d_store rfl rfl (stt ty40 rfl rfl)) ?_
  refine AWo.nil ?_
  refine AW.ret ?_
  exact .inl (fin_data rfl (frz_par rfl hu (by decide)))

theorem copyAction_00 {m : Int} (ev : CallF) (hev : CallOk (cf m) ev) (nm : List UInt8) (bs : List Tree) (ha : ev 45 [.t (.sl bs)] [] = some (.ret (.t (.sl bs)) [] [])) :
    CallRel (cf m) 16 [.t (.agg [.str nm, .sl [], .sl [], .sl bs])] [] (.ret (.t (.agg [.str nm, .sl [], .sl [], .sl bs])) [] []) := by
  refine fn_start2 18 1 Tryz.func16 rfl (by decide) rfl rfl (by decide) ?_
  refine AW.seq ?_
  refine AW.region ?_
  refine AWo.go (f := 0) hev (d_box rfl rfl) ?_
  refine AWo.go (f := 0) hev (d_alloc ty44 rfl rfl) ?_
  refine AWo.nil ?_
  refine AW.seq ?_
  refine AW.region ?_
  refine AWo.go (f := 0) hev (d_lit0 rfl ty38 rfl ty9 rfl rfl) ?_
  refine AWo.go (f := 0) hev (d_fieldAddr rfl fo44_1 rfl) ?_
  refine AWo.go (f := 0) hev (by first | exact d_loadT rfl (ld ty38 rfl rfl) | exact d_load rfl (ld ty38 rfl rfl)) ?_
  refine AWo.go (f := 0) hev (d_app0 app38 rfl rfl (.inl (.inl rfl)) (.inr (.inr ⟨_, rfl⟩))) ?_
  refine AWo.go (f := 0) hev (d_fieldAddr rfl fo44_1 rfl) ?_
  refine AWo.go0 (f := 0) hev (d_store rfl rfl (stt ty38 rfl rfl)) ?_
  refine AWo.nil ?_
  refine AW.seq ?_
  refine AW.region ?_
  refine AWo.go (f := 0) hev (d_lit0 rfl ty38 rfl ty9 rfl rfl) ?_
  refine AWo.go (f := 0) hev (d_fieldAddr rfl fo44_2 rfl) ?_
  refine AWo.go (f := 0) hev (by first | exact d_loadT rfl (ld ty38 rfl rfl) | exact d_load rfl (ld ty38 rfl rfl)) ?_
  refine AWo.go (f := 0) hev (d_app0 app38 rfl rfl (.inl (.inl rfl)) (.inr (.inr ⟨_, rfl⟩))) ?_
  refine AWo.go (f := 0) hev (d_fieldAddr rfl fo44_2 rfl) ?_
  refine AWo.go0 (f := 0) hev (d_store rfl rfl (stt ty38 rfl rfl)) ?_
  refine AWo.nil ?_
  refine AW.seq ?_
  refine AW.region ?_
  refine AWo.go (f := 0) hev (d_fieldAddr rfl fo44_3 rfl) ?_
  refine AWo.go (f := 0) hev (by first | exact d_loadT rfl (ld ty24 rfl rfl) | exact d_load rfl (ld ty24 rfl rfl)) ?_
  refine AWo.go (f := 0) hev (d_callT (rh1 rfl) ha) ?_
  refine AWo.go (f := 0) hev (d_fieldAddr rfl fo44_3 rfl) ?_
  refine AWo.go0 (f := 0) hev (d_store rfl rfl (stt ty24 rfl rfl)) ?_
  refine AWo.nil ?_
  refine AW.seq ?_
  refine AW.region ?_
  refine AWo.go (f := 0) hev (by first | exact d_loadT rfl (ld ty44 rfl rfl) | exact d_load rfl (ld ty44 rfl rfl)) ?_
  refine AWo.go0 (f := 0) hev (d_store rfl rfl (stt ty44 rfl rfl)) ?_
  refine AWo.nil ?_
  refine AW.ret ?_
  exact .inl (fin_data rfl rfl)

theorem copyAction_01 {m : Int} (ev : CallF) (hev : CallOk (cf m) ev) (nm : List UInt8) (rs bs : List Tree) (hne2 : rs ≠ []) (hu2 : Uni false 1 rs) (hl2 : rs.length ≤ 4194304) (ha : ev 45 [.t (.sl bs)] [] = some (.ret (.t (.sl bs)) [] [])) :
    CallRel (cf m) 16 [.t (.agg [.str nm, .sl [], .sl rs, .sl bs])] [] (.ret (.t (.agg [.str nm, .sl [], .sl rs, .sl bs])) [] []) := by
  refine fn_start2 18 1 Tryz.func16 rfl (by decide) rfl rfl (by decide) ?_
  refine AW.seq ?_
  refine AW.region ?_
  refine AWo.go (f := 0) hev (d_box rfl rfl) ?_
  refine AWo.go (f := 0) hev (d_alloc ty44 rfl rfl) ?_
  refine AWo.nil ?_
  refine AW.seq ?_
  refine AW.region ?_
  refine AWo.go (f := 0) hev (d_lit0 rfl ty38 rfl ty9 rfl rfl) ?_
  refine AWo.go (f := 0) hev (d_fieldAddr rfl fo44_1 rfl) ?_
  refine AWo.go (f := 0) hev (by first | exact d_loadT rfl (ld ty38 rfl rfl) | exact d_load rfl (ld ty38 rfl rfl)) ?_
  refine AWo.go (f := 0) hev (d_app0 app38 rfl rfl (.inl (.inl rfl)) (.inr (.inr ⟨_, rfl⟩))) ?_
  refine AWo.go (f := 0) hev (d_fieldAddr rfl fo44_1 rfl) ?_
  refine AWo.go0 (f := 0) hev (d_store rfl rfl (stt ty38 rfl rfl)) ?_
  refine AWo.nil ?_
  refine AW.seq ?_
  refine AW.region ?_
  refine AWo.go (f := 0) hev (d_lit0 rfl ty38 rfl ty9 rfl rfl) ?_
  refine AWo.go (f := 0) hev (d_fieldAddr rfl fo44_2 rfl) ?_
  refine AWo.go (f := 0) hev (by first | exact d_loadT rfl (ld ty38 rfl rfl) | exact d_load rfl (ld ty38 rfl rfl)) ?_
  refine AWo.go (f := 0) hev (d_appG app38 rfl rfl (.inl rfl) hu2 hne2 (by show _ * 16 ≤ 70368744177664; omega)) ?_
  refine AWo.go (f := 0) hev (d_fieldAddr rfl fo44_2 rfl) ?_
  refine AWo.go0 (f := 0) hev (d_store rfl rfl (stt ty38 rfl rfl)) ?_
  refine AWo.nil ?_
  refine AW.seq ?_
  refine AW.region ?_
  refine AWo.go (f := 0) hev (d_fieldAddr rfl fo44_3 rfl) ?_
  refine AWo.go (f := 0) hev (by first | exact d_loadT rfl (ld ty24 rfl rfl) | exact d_load rfl (ld ty24 rfl rfl)) ?_
  refine AWo.go (f := 0) hev (d_callT (rh1 rfl) ha) ?_
  refine AWo.go (f := 0) hev (d_fieldAddr rfl fo44_3 rfl) ?_
  refine AWo.go0 (f := 0) hev (d_store rfl rfl (stt ty24 rfl rfl)) ?_
  refine AWo.nil ?_
  refine AW.seq ?_
  refine AW.region ?_
  refine AWo.go (f := 0) hev (by first | exact d_loadT rfl (ld ty44 rfl rfl) | exact d_load rfl (ld ty44 rfl rfl)) ?_
  refine AWo.go0 (f := 0) hev (d_store rfl rfl (stt ty44 rfl rfl)) ?_
  refine AWo.nil ?_
  refine AW.ret ?_
  exact .inl (fin_data rfl (frz_act2 rfl hu2 (by decide)))

theorem copyAction_10 {m : Int} (ev : CallF) (hev : CallOk (cf m) ev) (nm : List UInt8) (ps bs : List Tree) (hne1 : ps ≠ []) (hu1 : Uni false 1 ps) (hl1 : ps.length ≤ 4194304) (ha : ev 45 [.t (.sl bs)] [] = some (.ret (.t (.sl bs)) [] [])) :
    CallRel (cf m) 16 [.t (.agg [.str nm, .sl ps, .sl [], .sl bs])] [] (.ret (.t (.agg [.str nm, .sl ps, .sl [], .sl bs])) [] []) := by
  refine fn_start2 18 1 Tryz.func16 rfl (by decide) rfl rfl (by decide) ?_
  refine AW.seq ?_
  refine AW.region ?_
  refine AWo.go (f := 0) hev (d_box rfl rfl) ?_
  refine AWo.go (f := 0) hev (d_alloc ty44 rfl rfl) ?_
  refine AWo.nil ?_
  refine AW.seq ?_
  refine AW.region ?_
  refine AWo.go (f := 0) hev (d_lit0 rfl ty38 rfl ty9 rfl rfl) ?_
  refine AWo.go (f := 0) hev (d_fieldAddr rfl fo44_1 rfl) ?_
  refine AWo.go (f := 0) hev (by first | exact d_loadT rfl (ld ty38 rfl rfl) | exact d_load rfl (ld ty38 rfl rfl)) ?_
  refine AWo.go (f := 0) hev (d_appG app38 rfl rfl (.inl rfl) hu1 hne1 (by show _ * 16 ≤ 70368744177664; omega)) ?_
  refine AWo.go (f := 0) hev (d_fieldAddr rfl fo44_1 rfl) ?_
  refine AWo.go0 (f := 0) hev (d_store rfl rfl (stt ty38 rfl rfl)) ?_
  refine AWo.nil ?_
  refine AW.seq ?_
  refine AW.region ?_
  refine AWo.go (f := 0) hev (d_lit0 rfl ty38 rfl ty9 rfl rfl) ?_
  refine AWo.go (f := 0) hev (d_fieldAddr rfl fo44_2 rfl) ?_
  refine AWo.go (f := 0) hev (by first | exact d_loadT rfl (ld ty38 rfl rfl) | exact d_load rfl (ld ty38 rfl rfl)) ?_
  refine AWo.go (f := 0) hev (d_app0 app38 rfl rfl (.inl (.inl rfl)) (.inr (.inr ⟨_, rfl⟩))) ?_
  refine AWo.go (f := 0) hev (d_fieldAddr rfl fo44_2 rfl) ?_
  refine AWo.go0 (f := 0) hev (d_store rfl rfl (stt ty38 rfl rfl)) ?_
  refine AWo.nil ?_
  refine AW.seq ?_
  refine AW.region ?_
  refine AWo.go (f := 0) hev (d_fieldAddr rfl fo44_3 rfl) ?_
  refine AWo.go (f := 0) hev (by first | exact d_loadT rfl (ld ty24 rfl rfl) | exact d_load rfl (ld ty24 rfl rfl)) ?_
  refine AWo.go (f := 0) hev (d_callT (rh1 rfl) ha) ?_
  refine AWo.go (f := 0) hev (d_fieldAddr rfl fo44_3 rfl) ?_
  refine AWo.go0 (f := 0) hev (d_store rfl rfl (stt ty24 rfl rfl)) ?_
  refine AWo.nil ?_
  refine AW.seq ?_
  refine AW.region ?_
  refine AWo.go (f := 0) hev (by first | exact d_loadT rfl (ld ty44 rfl rfl) | exact d_load rfl (ld ty44 rfl rfl)) ?_
  refine AWo.go0 (f := 0) hev (d_store rfl rfl (stt ty44 rfl rfl)) ?_
  refine AWo.nil ?_
  refine AW.ret ?_
  exact .inl (fin_data rfl (frz_act1 rfl hu1 (by decide)))

theorem copyAction_11 {m : Int} (ev : CallF) (hev : CallOk (cf m) ev) (nm : List UInt8) (ps rs bs : List Tree) (hne1 : ps ≠ []) (hu1 : Uni false 1 ps) (hl1 : ps.length ≤ 4194304) (hne2 : rs ≠ []) (hu2 : Uni false 1 rs) (hl2 : rs.length ≤ 4194304) (ha : ev 45 [.t (.sl bs)] [] = some (.ret (.t (.sl bs)) [] [])) :
    CallRel (cf m) 16 [.t (.agg [.str nm, .sl ps, .sl rs, .sl bs])] [] (.ret (.t (.agg [.str nm, .sl ps, .sl rs, .sl bs])) [] []) := by
  refine fn_start2 18 1 Tryz.func16 rfl (by decide) rfl rfl (by decide) ?_
  refine AW.seq ?_
  refine AW.region ?_
  refine AWo.go (f := 0) hev (d_box rfl rfl) ?_
  refine AWo.go (f := 0) hev (d_alloc ty44 rfl rfl) ?_
  refine AWo.nil ?_
  refine AW.seq ?_
  refine AW.region ?_
  refine AWo.go (f := 0) hev (d_lit0 rfl ty38 rfl ty9 rfl rfl) ?_
  refine AWo.go (f := 0) hev (d_fieldAddr rfl fo44_1 rfl) ?_
  refine AWo.go (f := 0) hev (by first | exact d_loadT rfl (ld ty38 rfl rfl) | exact d_load rfl (ld ty38 rfl rfl)) ?_
  refine AWo.go (f := 0) hev (d_appG app38 rfl rfl (.inl rfl) hu1 hne1 (by show _ * 16 ≤ 70368744177664; omega)) ?_
  refine AWo.go (f := 0) hev (d_fieldAddr rfl fo44_1 rfl) ?_
  refine AWo.go0 (f := 0) hev (d_store rfl rfl (stt ty38 rfl rfl)) ?_
  refine AWo.nil ?_
  refine AW.seq ?_
  refine AW.region ?_
  refine AWo.go (f := 0) hev (d_lit0 rfl ty38 rfl ty9 rfl rfl) ?_
  refine AWo.go (f := 0) hev (d_fieldAddr rfl fo44_2 rfl) ?_
  refine AWo.go (f := 0) hev (by first | exact d_loadT rfl (ld ty38 rfl rfl) | exact d_load rfl (ld ty38 rfl rfl)) ?_
  refine AWo.go (f := 0) hev (d_appG app38 rfl rfl (.inl rfl) hu2 hne2 (by show _ * 16 ≤ 70368744177664; omega)) ?_
  refine AWo.go (f := 0) hev (d_fieldAddr rfl fo44_2 rfl) ?_
  refine AWo.go0 (f := 0) hev (d_store rfl rfl (stt ty38 rfl rfl)) ?_
  refine AWo.nil ?_
  refine AW.seq ?_
  refine AW.region ?_
  refine AWo.go (f := 0) hev (d_fieldAddr rfl fo44_3 rfl) ?_
  refine AWo.go (f := 0) hev (by first | exact d_loadT rfl (ld ty24 rfl rfl) | exact d_load rfl (ld ty24 rfl rfl)) ?_
  refine AWo.go (f := 0) hev (d_callT (rh1 rfl) ha) ?_
  refine AWo.go (f := 0) hev (d_fieldAddr rfl fo44_3 rfl) ?_
  refine AWo.go0 (f := 0) hev (d_store rfl rfl (stt ty24 rfl rfl)) ?_
  refine AWo.nil ?_
  refine AW.seq ?_
  refine AW.region ?_
  refine AWo.go (f := 0) hev (by first | exact d_loadT rfl (ld ty44 rfl rfl) | exact d_load rfl (ld ty44 rfl rfl)) ?_
  refine AWo.go0 (f := 0) hev (d_store rfl rfl (stt ty44 rfl rfl)) ?_
  refine AWo.nil ?_
  refine AW.ret ?_
  exact .inl (fin_data rfl (frz_act12 rfl rfl hu1 hu2 (by decide)))

theorem copySchema {m : Int} (ev : CallF) (hev : CallOk (cf m) ev) (ts cs : List Tree) (hl : ts.length ≤ 4194304) (hl2 : cs.length ≤ 4194304) (En Ac : Tree → Prop) (hef : ∀ x, En x → ∃ nm p b, x = .agg [.str nm, .sl p, .sl b]) (haf : ∀ x, Ac x → ∃ nm p r b, x = .agg [.str nm, .sl p, .sl r, .sl b]) (hts : ∀ x ∈ ts, En x) (hcs : ∀ x ∈ cs, Ac x)
    (hc1 : ∀ x, En x → ev 15 [.t x] [] = some (.ret (.t x) [] [])) (hc2 : ∀ x, Ac x → ev 16 [.t x] [] = some (.ret (.t x) [] [])) :
    CallRel (cf m) 7 [.t (.agg [.sl ts, .sl cs])] [] (.ret (.t (.agg [.sl ts, .sl cs])) [] []) := by
  have hu1 : Uni true 3 ts := fun e he => by obtain ⟨_, _, _, rfl⟩ := hef e (hts e he); exact ⟨rfl, rfl, rfl⟩
  have hu2 : Uni true 4 cs := fun e he => by obtain ⟨_, _, _, _, rfl⟩ := haf e (hcs e he); exact ⟨rfl, rfl, rfl⟩
  refine fn_start2 39 1 Tryz.func7 rfl (by decide) rfl rfl (by decide) ?_
  refine AW.seq ?_
  refine AW.region ?_
  refine AWo.go (f := 0) hev (d_box rfl rfl) ?_
  refine AWo.go (f := 0) hev (d_alloc ty36 rfl rfl) ?_
  refine AWo.nil ?_
  refine AW.seq ?_
  refine AW.region ?_
  refine AWo.go (f := 0) hev (d_alloc ty36 rfl rfl) ?_
  refine AWo.nil ?_
  refine AW.seq ?_
  refine AW.seq ?_
  refine AW.region ?_
  refine AWo.go (f := 0) hev (d_fieldAddr rfl fo36_0 rfl) ?_
  refine AWo.go (f := 0) hev (by first | exact d_loadT rfl (ld ty33 rfl rfl) | exact d_load rfl (ld ty33 rfl rfl)) ?_
  refine AWo.go (f := 0) hev (by first | exact d_lenT rfl ty33 rfl | exact d_lenR rfl ty33 rfl | exact d_lenN rfl ty33 rfl | exact d_lenG rfl ty33 rfl) ?_
  refine AWo.go (f := 0) hev (d_moveT rfl) ?_
  refine AWo.nil ?_
  refine AW.block ?_
  refine AW.loop (α := Nat) (fun i => match i with | 0 => ⟨frm 39 [(1, .ptr (.loc [0]) 0), (2, .ptr (.loc [1]) 0), (3, .ptr (.loc [2]) 0), (9, .t (.sl ts)), (10, .t (.int .i64 ts.length)), (11, .t (.int .i64 (0 : Nat)))], [(.loc [0], .cells 36 [.t (.sl ts), .t (.sl cs)]), (.loc [1], .cells 36 [.nils, .nils]), (.loc [2], .cells 36 [.nils, .nils])], 4⟩ | j + 1 => ⟨frm 39 [(1, .ptr (.loc [0]) 0), (2, .ptr (.loc [1]) 0), (3, .ptr (.loc [2]) 0), (9, .t (.sl ts)), (10, .t (.int .i64 ts.length)), (11, .t (.int .i64 (j + 1 : Nat)))], [(.loc [0], .cells 36 [.t (.sl ts), .t (.sl cs)]), (.loc [1], .cells 36 [.nils, .nils]), (.loc [2], .cells 36 [.ref (.loc [3]) 0 (j + 1), .nils]), (.loc [3], .arr (40, true) 3 false ((flat (ts.take (j + 1))).map .t))], 4⟩) (fun i => i ≤ ts.length) (fun i => ts.length - i) 0 (Re.sq [.loc [0], .loc [1], .loc [2]] ⟨rfl, rfl, rfl, rfl, rfl, rfl, trivial⟩ ⟨⟨.loc [0], _, rfl, rfl, .inl rfl⟩, ⟨.loc [1], _, rfl, rfl, .inl rfl⟩, ⟨.loc [2], _, rfl, rfl, .inl rfl⟩, trivial⟩ (by decide) rfl rfl (by decide)) (Nat.zero_le _) (fun i hi => ?_)
  rcases i with _ | j
  · show AW _ _ ⟨frm 39 [(1, .ptr (.loc [0]) 0), (2, .ptr (.loc [1]) 0), (3, .ptr (.loc [2]) 0), (9, .t (.sl ts)), (10, .t (.int .i64 ts.length)), (11, .t (.int .i64 (0 : Nat)))], [(.loc [0], .cells 36 [.t (.sl ts), .t (.sl cs)]), (.loc [1], .cells 36 [.nils, .nils]), (.loc [2], .cells 36 [.nils, .nils])], 4⟩ _
    refine AW.seq ?_
    refine AW.region ?_
    refine AWo.go (f := 0) hev (d_ltI rfl rfl) ?_
    refine AWo.nil ?_
    refine AW.seq ?_
    refine AW.cond rfl (fun h12 => ?_) (fun h12 => ?_)
    · have hlt : 0 < ts.length := by have := of_decide_eq_true h12; omega
      obtain ⟨x, he⟩ : ∃ e, ts[0]? = some e := ⟨ts[0], List.getElem?_eq_getElem hlt⟩
      have hty := hts x (List.mem_of_getElem? he)
      have hsh := hef x hty
      refine AW.skip ?_
      refine AW.seq ?_
      refine AW.block ?_
      refine AW.seq ?_
      refine AW.region ?_
      refine AWo.go (f := 0) hev (d_indexT rfl rfl ty33 rfl ty40 he (by obtain ⟨_, _, _, rfl⟩ := hsh; rfl)) ?_
      refine AWo.go (f := 0) hev (d_load (v := .t x) rfl (ld ty40 rfl (by obtain ⟨_, _, _, rfl⟩ := hsh; rfl))) ?_
      refine AWo.go (f := 0) hev (d_alloc ty40 rfl rfl) ?_
      refine AWo.go0 (f := 0) hev (d_store rfl rfl (stt ty40 rfl (by obtain ⟨_, _, _, rfl⟩ := hsh; rfl))) ?_
      refine AWo.nil ?_
      refine AW.draw (f := 0) orders hev ?_
      refine AWd.go rfl (d_fieldAddr rfl fo36_0 rfl) ?_
      refine AWd.go rfl ((by first | exact d_loadT rfl (ld ty33 rfl rfl) | exact d_load rfl (ld ty33 rfl rfl))) ?_
      refine AWd.go rfl (d_load (v := .t x) rfl (ld ty40 rfl (by obtain ⟨_, _, _, rfl⟩ := hsh; rfl))) ?_
      refine AWd.go rfl (d_callT (rh1 rfl) (hc1 _ hty)) ?_
      refine AWd.go rfl (d_lit1 (e := x) rfl rfl ty33 rfl ty40 rfl rfl (by obtain ⟨_, _, _, rfl⟩ := hsh; exact ⟨rfl, rfl, rfl⟩)) ?_
      refine AWd.go rfl (d_appN app33 rfl rfl (.inr rfl) (Uni.cons (by obtain ⟨_, _, _, rfl⟩ := hsh; exact ⟨rfl, rfl, rfl⟩) .nil) (by simp) (by show _ * 64 ≤ 70368744177664; first | (simp; done) | (simp; omega))) ?_
      refine AWd.go rfl (d_fieldAddr rfl fo36_0 rfl) ?_
      refine AWd.go0 rfl (d_store rfl rfl (stt ty33 rfl rfl)) ?_
      refine AWd.nil ⟨rfl, rfl, ?_⟩
      refine AW.region ?_
      refine AWo.go (f := 0) hev (d_add64 rfl rfl (by omega) (by omega)) ?_
      refine AWo.go (f := 0) hev (d_moveT rfl) ?_
      refine AWo.nil ?_
      exact ⟨0 + 1, hlt, Nat.sub_lt_sub_left hlt (Nat.lt_succ_self _), Re.sq [.loc [0], .loc [1], .loc [2], .loc [14]] ⟨rfl, rfl, rfl, rfl, rfl, rfl, trivial⟩ ⟨⟨.loc [0], _, rfl, rfl, .inl rfl⟩, ⟨.loc [1], _, rfl, rfl, .inl rfl⟩, ⟨.loc [2], _, rfl, rfl, .inl rfl⟩, ⟨.loc [14], _, rfl, rfl, .inl (by rw [take_snoc he]; exact rn_row)⟩, trivial⟩ (by decide) rfl rfl (by decide)⟩
    · have hie : 0 = ts.length := by have := of_decide_eq_false h12; omega
      obtain rfl := List.eq_nil_of_length_eq_zero hie.symm
      refine AW.exit ?_
      refine AW.seq ?_
      refine AW.seq ?_
      refine AW.region ?_
      refine AWo.go (f := 0) hev (d_fieldAddr rfl fo36_1 rfl) ?_
      refine AWo.go (f := 0) hev (by first | exact d_loadT rfl (ld ty34 rfl rfl) | exact d_load rfl (ld ty34 rfl rfl)) ?_
      refine AWo.go (f := 0) hev (by first | exact d_lenT rfl ty34 rfl | exact d_lenR rfl ty34 rfl | exact d_lenN rfl ty34 rfl | exact d_lenG rfl ty34 rfl) ?_
      refine AWo.go (f := 0) hev (d_moveT rfl) ?_
      refine AWo.nil ?_
      refine AW.block ?_
      refine AW.loop (α := Nat) (fun i => match i with | 0 => ⟨frm 39 [(1, .ptr (.loc [0]) 0), (2, .ptr (.loc [1]) 0), (3, .ptr (.loc [2]) 0), (24, .t (.sl cs)), (25, .t (.int .i64 cs.length)), (26, .t (.int .i64 (0 : Nat)))], [(.loc [0], .cells 36 [.t (.sl []), .t (.sl cs)]), (.loc [1], .cells 36 [.nils, .nils]), (.loc [2], .cells 36 [.nils, .nils])], 4⟩ | j + 1 => ⟨frm 39 [(1, .ptr (.loc [0]) 0), (2, .ptr (.loc [1]) 0), (3, .ptr (.loc [2]) 0), (24, .t (.sl cs)), (25, .t (.int .i64 cs.length)), (26, .t (.int .i64 (j + 1 : Nat)))], [(.loc [0], .cells 36 [.t (.sl []), .t (.sl cs)]), (.loc [1], .cells 36 [.nils, .nils]), (.loc [2], .cells 36 [.nils, .ref (.loc [3]) 0 (j + 1)]), (.loc [3], .arr (44, true) 4 false ((flat (cs.take (j + 1))).map .t))], 4⟩) (fun i => i ≤ cs.length) (fun i => cs.length - i) 0 (Re.sq [.loc [0], .loc [1], .loc [2]] ⟨rfl, rfl, rfl, rfl, rfl, rfl, trivial⟩ ⟨⟨.loc [0], _, rfl, rfl, .inl rfl⟩, ⟨.loc [1], _, rfl, rfl, .inl rfl⟩, ⟨.loc [2], _, rfl, rfl, .inl rfl⟩, trivial⟩ (by decide) rfl rfl (by decide)) (Nat.zero_le _) (fun i hi => ?_)
      rcases i with _ | j
      · show AW _ _ ⟨frm 39 [(1, .ptr (.loc [0]) 0), (2, .ptr (.loc [1]) 0), (3, .ptr (.loc [2]) 0), (24, .t (.sl cs)), (25, .t (.int .i64 cs.length)), (26, .t (.int .i64 (0 : Nat)))], [(.loc [0], .cells 36 [.t (.sl []), .t (.sl cs)]), (.loc [1], .cells 36 [.nils, .nils]), (.loc [2], .cells 36 [.nils, .nils])], 4⟩ _
        refine AW.seq ?_
        refine AW.region ?_
        refine AWo.go (f := 0) hev (d_ltI rfl rfl) ?_
        refine AWo.nil ?_
        refine AW.seq ?_
        refine AW.cond rfl (fun h27 => ?_) (fun h27 => ?_)
        · have hlt : 0 < cs.length := by have := of_decide_eq_true h27; omega
          obtain ⟨x, he⟩ : ∃ e, cs[0]? = some e := ⟨cs[0], List.getElem?_eq_getElem hlt⟩
          have hty := hcs x (List.mem_of_getElem? he)
          have hsh := haf x hty
          refine AW.skip ?_
          refine AW.seq ?_
          refine AW.block ?_
          refine AW.seq ?_
          refine AW.region ?_
          refine AWo.go (f := 0) hev (d_indexT rfl rfl ty34 rfl ty44 he (by obtain ⟨_, _, _, _, rfl⟩ := hsh; rfl)) ?_
          refine AWo.go (f := 0) hev (d_load (v := .t x) rfl (ld ty44 rfl (by obtain ⟨_, _, _, _, rfl⟩ := hsh; rfl))) ?_
          refine AWo.go (f := 0) hev (d_alloc ty44 rfl rfl) ?_
          refine AWo.go0 (f := 0) hev (d_store rfl rfl (stt ty44 rfl (by obtain ⟨_, _, _, _, rfl⟩ := hsh; rfl))) ?_
          refine AWo.nil ?_
          refine AW.draw (f := 0) orders hev ?_
          refine AWd.go rfl (d_fieldAddr rfl fo36_1 rfl) ?_
          refine AWd.go rfl ((by first | exact d_loadT rfl (ld ty34 rfl rfl) | exact d_load rfl (ld ty34 rfl rfl))) ?_
          refine AWd.go rfl (d_load (v := .t x) rfl (ld ty44 rfl (by obtain ⟨_, _, _, _, rfl⟩ := hsh; rfl))) ?_
          refine AWd.go rfl (d_callT (rh1 rfl) (hc2 _ hty)) ?_
          refine AWd.go rfl (d_lit1 (e := x) rfl rfl ty34 rfl ty44 rfl rfl (by obtain ⟨_, _, _, _, rfl⟩ := hsh; exact ⟨rfl, rfl, rfl⟩)) ?_
          refine AWd.go rfl (d_appN app34 rfl rfl (.inr rfl) (Uni.cons (by obtain ⟨_, _, _, _, rfl⟩ := hsh; exact ⟨rfl, rfl, rfl⟩) .nil) (by simp) (by show _ * 88 ≤ 70368744177664; first | (simp; done) | (simp; omega))) ?_
          refine AWd.go rfl (d_fieldAddr rfl fo36_1 rfl) ?_
          refine AWd.go0 rfl (d_store rfl rfl (stt ty34 rfl rfl)) ?_
          refine AWd.nil ⟨rfl, rfl, ?_⟩
          refine AW.region ?_
          refine AWo.go (f := 0) hev (d_add64 rfl rfl (by omega) (by omega)) ?_
          refine AWo.go (f := 0) hev (d_moveT rfl) ?_
          refine AWo.nil ?_
          exact ⟨0 + 1, hlt, Nat.sub_lt_sub_left hlt (Nat.lt_succ_self _), Re.sq [.loc [0], .loc [1], .loc [2], .loc [14]] ⟨rfl, rfl, rfl, rfl, rfl, rfl, trivial⟩ ⟨⟨.loc [0], _, rfl, rfl, .inl rfl⟩, ⟨.loc [1], _, rfl, rfl, .inl rfl⟩, ⟨.loc [2], _, rfl, rfl, .inl rfl⟩, ⟨.loc [14], _, rfl, rfl, .inl (by rw [take_snoc he]; exact rn_row)⟩, trivial⟩ (by decide) rfl rfl (by decide)⟩
        · have hie : 0 = cs.length := by have := of_decide_eq_false h27; omega
          obtain rfl := List.eq_nil_of_length_eq_zero hie.symm
          refine AW.exit ?_
          refine AW.seq ?_
          refine AW.region ?_
          refine AWo.go (f := 0) hev (by first | exact d_loadT rfl (ld ty36 rfl rfl) | exact d_load rfl (ld ty36 rfl rfl)) ?_
          refine AWo.go0 (f := 0) hev (d_store rfl rfl (stt ty36 rfl rfl)) ?_
          refine AWo.nil ?_
          refine AW.ret ?_
          exact .inl (fin_data rfl rfl)
      · show AW _ _ ⟨frm 39 [(1, .ptr (.loc [0]) 0), (2, .ptr (.loc [1]) 0), (3, .ptr (.loc [2]) 0), (24, .t (.sl cs)), (25, .t (.int .i64 cs.length)), (26, .t (.int .i64 (j + 1 : Nat)))], [(.loc [0], .cells 36 [.t (.sl []), .t (.sl cs)]), (.loc [1], .cells 36 [.nils, .nils]), (.loc [2], .cells 36 [.nils, .ref (.loc [3]) 0 (j + 1)]), (.loc [3], .arr (44, true) 4 false ((flat (cs.take (j + 1))).map .t))], 4⟩ _
        refine AW.seq ?_
        refine AW.region ?_
        refine AWo.go (f := 0) hev (d_ltI rfl rfl) ?_
        refine AWo.nil ?_
        refine AW.seq ?_
        refine AW.cond rfl (fun h27 => ?_) (fun h27 => ?_)
        · have hlt : j + 1 < cs.length := by have := of_decide_eq_true h27; omega
          obtain ⟨x, he⟩ : ∃ e, cs[(j + 1)]? = some e := ⟨cs[(j + 1)], List.getElem?_eq_getElem hlt⟩
          have hty := hcs x (List.mem_of_getElem? he)
          have hsh := haf x hty
          refine AW.skip ?_
          refine AW.seq ?_
          refine AW.block ?_
          refine AW.seq ?_
          refine AW.region ?_
          refine AWo.go (f := 0) hev (d_indexT rfl rfl ty34 rfl ty44 he (by obtain ⟨_, _, _, _, rfl⟩ := hsh; rfl)) ?_
          refine AWo.go (f := 0) hev (d_load (v := .t x) rfl (ld ty44 rfl (by obtain ⟨_, _, _, _, rfl⟩ := hsh; rfl))) ?_
          refine AWo.go (f := 0) hev (d_alloc ty44 rfl rfl) ?_
          refine AWo.go0 (f := 0) hev (d_store rfl rfl (stt ty44 rfl (by obtain ⟨_, _, _, _, rfl⟩ := hsh; rfl))) ?_
          refine AWo.nil ?_
          refine AW.draw (f := 0) orders hev ?_
          refine AWd.go rfl (d_fieldAddr rfl fo36_1 rfl) ?_
          refine AWd.go rfl ((by first | exact d_loadT rfl (ld ty34 rfl rfl) | exact d_load rfl (ld ty34 rfl rfl))) ?_
          refine AWd.go rfl (d_load (v := .t x) rfl (ld ty44 rfl (by obtain ⟨_, _, _, _, rfl⟩ := hsh; rfl))) ?_
          refine AWd.go rfl (d_callT (rh1 rfl) (hc2 _ hty)) ?_
          refine AWd.go rfl (d_lit1 (e := x) rfl rfl ty34 rfl ty44 rfl rfl (by obtain ⟨_, _, _, _, rfl⟩ := hsh; exact ⟨rfl, rfl, rfl⟩)) ?_
          refine AWd.go rfl (d_appR app34 rfl rfl (.inr rfl) rfl (by first | (simp; done) | (simp; omega)) (hu2.take _) (Uni.cons (by obtain ⟨_, _, _, _, rfl⟩ := hsh; exact ⟨rfl, rfl, rfl⟩) .nil) (by simp) (by show _ * 88 ≤ 70368744177664; first | (simp; done) | (simp; omega))) ?_
          refine AWd.go rfl (d_fieldAddr rfl fo36_1 rfl) ?_
          refine AWd.go0 rfl (d_store rfl rfl (stt ty34 rfl rfl)) ?_
          refine AWd.nil ⟨rfl, rfl, ?_⟩
          refine AW.region ?_
          refine AWo.go (f := 0) hev (d_add64 rfl rfl (by omega) (by omega)) ?_
          refine AWo.go (f := 0) hev (d_moveT rfl) ?_
          refine AWo.nil ?_
          exact ⟨j + 1 + 1, hlt, Nat.sub_lt_sub_left hlt (Nat.lt_succ_self _), Re.sq [.loc [0], .loc [1], .loc [2], .loc [3]] ⟨rfl, rfl, rfl, rfl, rfl, rfl, trivial⟩ ⟨⟨.loc [0], _, rfl, rfl, .inl rfl⟩, ⟨.loc [1], _, rfl, rfl, .inl rfl⟩, ⟨.loc [2], _, rfl, rfl, .inl rfl⟩, ⟨.loc [3], _, rfl, rfl, .inl (by rw [take_snoc he]; exact rn_row)⟩, trivial⟩ (by decide) rfl rfl (by decide)⟩
        · have hie : j + 1 = cs.length := by have := of_decide_eq_false h27; omega
          skip
          refine AW.exit ?_
          refine AW.seq ?_
          refine AW.region ?_
          refine AWo.go (f := 0) hev (by first | exact d_loadT rfl (ld ty36 rfl rfl) | exact d_load rfl (ld ty36 rfl rfl)) ?_
          refine AWo.go0 (f := 0) hev (d_store rfl rfl (stt ty36 rfl rfl)) ?_
          refine AWo.nil ?_
          refine AW.ret ?_
          exact .inl (fin_data rfl (frz_sc2 rfl (hu2.take _) (by decide) (by first | (simp; done) | (simp; omega)) (List.take_of_length_le (by omega))))
  · show AW _ _ ⟨frm 39 [(1, .ptr (.loc [0]) 0), (2, .ptr (.loc [1]) 0), (3, .ptr (.loc [2]) 0), (9, .t (.sl ts)), (10, .t (.int .i64 ts.length)), (11, .t (.int .i64 (j + 1 : Nat)))], [(.loc [0], .cells 36 [.t (.sl ts), .t (.sl cs)]), (.loc [1], .cells 36 [.nils, .nils]), (.loc [2], .cells 36 [.ref (.loc [3]) 0 (j + 1), .nils]), (.loc [3], .arr (40, true) 3 false ((flat (ts.take (j + 1))).map .t))], 4⟩ _
    refine AW.seq ?_
    refine AW.region ?_
    refine AWo.go (f := 0) hev (d_ltI rfl rfl) ?_
    refine AWo.nil ?_
    refine AW.seq ?_
    refine AW.cond rfl (fun h12 => ?_) (fun h12 => ?_)
    · have hlt : j + 1 < ts.length := by have := of_decide_eq_true h12; omega
      obtain ⟨x, he⟩ : ∃ e, ts[(j + 1)]? = some e := ⟨ts[(j + 1)], List.getElem?_eq_getElem hlt⟩
      have hty := hts x (List.mem_of_getElem? he)
      have hsh := hef x hty
      refine AW.skip ?_
      refine AW.seq ?_
      refine AW.block ?_
      refine AW.seq ?_
      refine AW.region ?_
      refine AWo.go (f := 0) hev (d_indexT rfl rfl ty33 rfl ty40 he (by obtain ⟨_, _, _, rfl⟩ := hsh; rfl)) ?_
      refine AWo.go (f := 0) hev (d_load (v := .t x) rfl (ld ty40 rfl (by obtain ⟨_, _, _, rfl⟩ := hsh; rfl))) ?_
      refine AWo.go (f := 0) hev (d_alloc ty40 rfl rfl) ?_
      refine AWo.go0 (f := 0) hev (d_store rfl rfl (stt ty40 rfl (by obtain ⟨_, _, _, rfl⟩ := hsh; rfl))) ?_
      refine AWo.nil ?_
      refine AW.draw (f := 0) orders hev ?_
      refine AWd.go rfl (d_fieldAddr rfl fo36_0 rfl) ?_
      refine AWd.go rfl ((by first | exact d_loadT rfl (ld ty33 rfl rfl) | exact d_load rfl (ld ty33 rfl rfl))) ?_
      refine AWd.go rfl (d_load (v := .t x) rfl (ld ty40 rfl (by obtain ⟨_, _, _, rfl⟩ := hsh; rfl))) ?_
      refine AWd.go rfl (d_callT (rh1 rfl) (hc1 _ hty)) ?_
      refine AWd.go rfl (d_lit1 (e := x) rfl rfl ty33 rfl ty40 rfl rfl (by obtain ⟨_, _, _, rfl⟩ := hsh; exact ⟨rfl, rfl, rfl⟩)) ?_
      refine AWd.go rfl (d_appR app33 rfl rfl (.inr rfl) rfl (by first | (simp; done) | (simp; omega)) (hu1.take _) (Uni.cons (by obtain ⟨_, _, _, rfl⟩ := hsh; exact ⟨rfl, rfl, rfl⟩) .nil) (by simp) (by show _ * 64 ≤ 70368744177664; first | (simp; done) | (simp; omega))) ?_
      refine AWd.go rfl (d_fieldAddr rfl fo36_0 rfl) ?_
      refine AWd.go0 rfl (d_store rfl rfl (stt ty33 rfl rfl)) ?_
      refine AWd.nil ⟨rfl, rfl, ?_⟩
      refine AW.region ?_
      refine AWo.go (f := 0) hev (d_add64 rfl rfl (by omega) (by omega)) ?_
      refine AWo.go (f := 0) hev (d_moveT rfl) ?_
      refine AWo.nil ?_
      exact ⟨j + 1 + 1, hlt, Nat.sub_lt_sub_left hlt (Nat.lt_succ_self _), Re.sq [.loc [0], .loc [1], .loc [2], .loc [3]] ⟨rfl, rfl, rfl, rfl, rfl, rfl, trivial⟩ ⟨⟨.loc [0], _, rfl, rfl, .inl rfl⟩, ⟨.loc [1], _, rfl, rfl, .inl rfl⟩, ⟨.loc [2], _, rfl, rfl, .inl rfl⟩, ⟨.loc [3], _, rfl, rfl, .inl (by rw [take_snoc he]; exact rn_row)⟩, trivial⟩ (by decide) rfl rfl (by decide)⟩
    · have hie : j + 1 = ts.length := by have := of_decide_eq_false h12; omega
      have ht1 : ts.take (j + 1) = ts := List.take_of_length_le (by omega)
      refine AW.exit ?_
      refine AW.seq ?_
      refine AW.seq ?_
      refine AW.region ?_
      refine AWo.go (f := 0) hev (d_fieldAddr rfl fo36_1 rfl) ?_
      refine AWo.go (f := 0) hev (by first | exact d_loadT rfl (ld ty34 rfl rfl) | exact d_load rfl (ld ty34 rfl rfl)) ?_
      refine AWo.go (f := 0) hev (by first | exact d_lenT rfl ty34 rfl | exact d_lenR rfl ty34 rfl | exact d_lenN rfl ty34 rfl | exact d_lenG rfl ty34 rfl) ?_
      refine AWo.go (f := 0) hev (d_moveT rfl) ?_
      refine AWo.nil ?_
      refine AW.block ?_
      generalize j = p at *
      refine AW.loop (α := Nat) (fun i => match i with | 0 => ⟨frm 39 [(1, .ptr (.loc [0]) 0), (2, .ptr (.loc [1]) 0), (3, .ptr (.loc [2]) 0), (24, .t (.sl cs)), (25, .t (.int .i64 cs.length)), (26, .t (.int .i64 (0 : Nat)))], [(.loc [0], .cells 36 [.t (.sl ts), .t (.sl cs)]), (.loc [1], .cells 36 [.nils, .nils]), (.loc [2], .cells 36 [.ref (.loc [3]) 0 (p + 1), .nils]), (.loc [3], .arr (40, true) 3 false ((flat (ts.take (p + 1))).map .t))], 5⟩ | j + 1 => ⟨frm 39 [(1, .ptr (.loc [0]) 0), (2, .ptr (.loc [1]) 0), (3, .ptr (.loc [2]) 0), (24, .t (.sl cs)), (25, .t (.int .i64 cs.length)), (26, .t (.int .i64 (j + 1 : Nat)))], [(.loc [0], .cells 36 [.t (.sl ts), .t (.sl cs)]), (.loc [1], .cells 36 [.nils, .nils]), (.loc [2], .cells 36 [.ref (.loc [3]) 0 (p + 1), .ref (.loc [4]) 0 (j + 1)]), (.loc [3], .arr (40, true) 3 false ((flat (ts.take (p + 1))).map .t)), (.loc [4], .arr (44, true) 4 false ((flat (cs.take (j + 1))).map .t))], 5⟩) (fun i => i ≤ cs.length) (fun i => cs.length - i) 0 (Re.sq [.loc [0], .loc [1], .loc [2], .loc [3]] ⟨rfl, rfl, rfl, rfl, rfl, rfl, trivial⟩ ⟨⟨.loc [0], _, rfl, rfl, .inl rfl⟩, ⟨.loc [1], _, rfl, rfl, .inl rfl⟩, ⟨.loc [2], _, rfl, rfl, .inl rfl⟩, ⟨.loc [3], _, rfl, rfl, .inl rn_row⟩, trivial⟩ (by decide) rfl rfl (by decide)) (Nat.zero_le _) (fun i hi => ?_)
      rcases i with _ | j
      · show AW _ _ ⟨frm 39 [(1, .ptr (.loc [0]) 0), (2, .ptr (.loc [1]) 0), (3, .ptr (.loc [2]) 0), (24, .t (.sl cs)), (25, .t (.int .i64 cs.length)), (26, .t (.int .i64 (0 : Nat)))], [(.loc [0], .cells 36 [.t (.sl ts), .t (.sl cs)]), (.loc [1], .cells 36 [.nils, .nils]), (.loc [2], .cells 36 [.ref (.loc [3]) 0 (p + 1), .nils]), (.loc [3], .arr (40, true) 3 false ((flat (ts.take (p + 1))).map .t))], 5⟩ _
        refine AW.seq ?_
        refine AW.region ?_
        refine AWo.go (f := 0) hev (d_ltI rfl rfl) ?_
        refine AWo.nil ?_
        refine AW.seq ?_
        refine AW.cond rfl (fun h27 => ?_) (fun h27 => ?_)
        · have hlt : 0 < cs.length := by have := of_decide_eq_true h27; omega
          obtain ⟨x, he⟩ : ∃ e, cs[0]? = some e := ⟨cs[0], List.getElem?_eq_getElem hlt⟩
          have hty := hcs x (List.mem_of_getElem? he)
          have hsh := haf x hty
          refine AW.skip ?_
          refine AW.seq ?_
          refine AW.block ?_
          refine AW.seq ?_
          refine AW.region ?_
          refine AWo.go (f := 0) hev (d_indexT rfl rfl ty34 rfl ty44 he (by obtain ⟨_, _, _, _, rfl⟩ := hsh; rfl)) ?_
          refine AWo.go (f := 0) hev (d_load (v := .t x) rfl (ld ty44 rfl (by obtain ⟨_, _, _, _, rfl⟩ := hsh; rfl))) ?_
          refine AWo.go (f := 0) hev (d_alloc ty44 rfl rfl) ?_
          refine AWo.go0 (f := 0) hev (d_store rfl rfl (stt ty44 rfl (by obtain ⟨_, _, _, _, rfl⟩ := hsh; rfl))) ?_
          refine AWo.nil ?_
          refine AW.draw (f := 0) orders hev ?_
          refine AWd.go rfl (d_fieldAddr rfl fo36_1 rfl) ?_
          refine AWd.go rfl ((by first | exact d_loadT rfl (ld ty34 rfl rfl) | exact d_load rfl (ld ty34 rfl rfl))) ?_
          refine AWd.go rfl (d_load (v := .t x) rfl (ld ty44 rfl (by obtain ⟨_, _, _, _, rfl⟩ := hsh; rfl))) ?_
          refine AWd.go rfl (d_callT (rh1 rfl) (hc2 _ hty)) ?_
          refine AWd.go rfl (d_lit1 (e := x) rfl rfl ty34 rfl ty44 rfl rfl (by obtain ⟨_, _, _, _, rfl⟩ := hsh; exact ⟨rfl, rfl, rfl⟩)) ?_
          refine AWd.go rfl (d_appN app34 rfl rfl (.inr rfl) (Uni.cons (by obtain ⟨_, _, _, _, rfl⟩ := hsh; exact ⟨rfl, rfl, rfl⟩) .nil) (by simp) (by show _ * 88 ≤ 70368744177664; first | (simp; done) | (simp; omega))) ?_
          refine AWd.go rfl (d_fieldAddr rfl fo36_1 rfl) ?_
          refine AWd.go0 rfl (d_store rfl rfl (stt ty34 rfl rfl)) ?_
          refine AWd.nil ⟨rfl, rfl, ?_⟩
          refine AW.region ?_
          refine AWo.go (f := 0) hev (d_add64 rfl rfl (by omega) (by omega)) ?_
          refine AWo.go (f := 0) hev (d_moveT rfl) ?_
          refine AWo.nil ?_
          exact ⟨0 + 1, hlt, Nat.sub_lt_sub_left hlt (Nat.lt_succ_self _), Re.sq [.loc [0], .loc [1], .loc [2], .loc [3], .loc [15]] ⟨rfl, rfl, rfl, rfl, rfl, rfl, trivial⟩ ⟨⟨.loc [0], _, rfl, rfl, .inl rfl⟩, ⟨.loc [1], _, rfl, rfl, .inl rfl⟩, ⟨.loc [2], _, rfl, rfl, .inl rfl⟩, ⟨.loc [3], _, rfl, rfl, .inl rn_row⟩, ⟨.loc [15], _, rfl, rfl, .inl (by rw [take_snoc he]; exact rn_row)⟩, trivial⟩ (by decide) rfl rfl (by decide)⟩
        · have hie : 0 = cs.length := by have := of_decide_eq_false h27; omega
          obtain rfl := List.eq_nil_of_length_eq_zero hie.symm
          refine AW.exit ?_
          refine AW.seq ?_
          refine AW.region ?_
          refine AWo.go (f := 0) hev (by first | exact d_loadT rfl (ld ty36 rfl rfl) | exact d_load rfl (ld ty36 rfl rfl)) ?_
          refine AWo.go0 (f := 0) hev (d_store rfl rfl (stt ty36 rfl rfl)) ?_
          refine AWo.nil ?_
          refine AW.ret ?_
          exact .inl (fin_data rfl (frz_sc1 rfl (hu1.take _) (by decide) (by first | (simp; done) | (simp; omega)) ht1))
      · show AW _ _ ⟨frm 39 [(1, .ptr (.loc [0]) 0), (2, .ptr (.loc [1]) 0), (3, .ptr (.loc [2]) 0), (24, .t (.sl cs)), (25, .t (.int .i64 cs.length)), (26, .t (.int .i64 (j + 1 : Nat)))], [(.loc [0], .cells 36 [.t (.sl ts), .t (.sl cs)]), (.loc [1], .cells 36 [.nils, .nils]), (.loc [2], .cells 36 [.ref (.loc [3]) 0 (p + 1), .ref (.loc [4]) 0 (j + 1)]), (.loc [3], .arr (40, true) 3 false ((flat (ts.take (p + 1))).map .t)), (.loc [4], .arr (44, true) 4 false ((flat (cs.take (j + 1))).map .t))], 5⟩ _
        refine AW.seq ?_
        refine AW.region ?_
        refine AWo.go (f := 0) hev (d_ltI rfl rfl) ?_
        refine AWo.nil ?_
        refine AW.seq ?_
        refine AW.cond rfl (fun h27 => ?_) (fun h27 => ?_)
        · have hlt : j + 1 < cs.length := by have := of_decide_eq_true h27; omega
          obtain ⟨x, he⟩ : ∃ e, cs[(j + 1)]? = some e := ⟨cs[(j + 1)], List.getElem?_eq_getElem hlt⟩
          have hty := hcs x (List.mem_of_getElem? he)
          have hsh := haf x hty
          refine AW.skip ?_
          refine AW.seq ?_
          refine AW.block ?_
          refine AW.seq ?_
          refine AW.region ?_
          refine AWo.go (f := 0) hev (d_indexT rfl rfl ty34 rfl ty44 he (by obtain ⟨_, _, _, _, rfl⟩ := hsh; rfl)) ?_
          refine AWo.go (f := 0) hev (d_load (v := .t x) rfl (ld ty44 rfl (by obtain ⟨_, _, _, _, rfl⟩ := hsh; rfl))) ?_
          refine AWo.go (f := 0) hev (d_alloc ty44 rfl rfl) ?_
          refine AWo.go0 (f := 0) hev (d_store rfl rfl (stt ty44 rfl (by obtain ⟨_, _, _, _, rfl⟩ := hsh; rfl))) ?_
          refine AWo.nil ?_
          refine AW.draw (f := 0) orders hev ?_
          refine AWd.go rfl (d_fieldAddr rfl fo36_1 rfl) ?_
          refine AWd.go rfl ((by first | exact d_loadT rfl (ld ty34 rfl rfl) | exact d_load rfl (ld ty34 rfl rfl))) ?_
          refine AWd.go rfl (d_load (v := .t x) rfl (ld ty44 rfl (by obtain ⟨_, _, _, _, rfl⟩ := hsh; rfl))) ?_
          refine AWd.go rfl (d_callT (rh1 rfl) (hc2 _ hty)) ?_
          refine AWd.go rfl (d_lit1 (e := x) rfl rfl ty34 rfl ty44 rfl rfl (by obtain ⟨_, _, _, _, rfl⟩ := hsh; exact ⟨rfl, rfl, rfl⟩)) ?_
          refine AWd.go rfl (d_appR app34 rfl rfl (.inr rfl) rfl (by first | (simp; done) | (simp; omega)) (hu2.take _) (Uni.cons (by obtain ⟨_, _, _, _, rfl⟩ := hsh; exact ⟨rfl, rfl, rfl⟩) .nil) (by simp) (by show _ * 88 ≤ 70368744177664; first | (simp; done) | (simp; omega))) ?_
          refine AWd.go rfl (d_fieldAddr rfl fo36_1 rfl) ?_
          refine AWd.go0 rfl (d_store rfl rfl (stt ty34 rfl rfl)) ?_
          refine AWd.nil ⟨rfl, rfl, ?_⟩
          refine AW.region ?_
          refine AWo.go (f := 0) hev (d_add64 rfl rfl (by omega) (by omega)) ?_
          refine AWo.go (f := 0) hev (d_moveT rfl) ?_
          refine AWo.nil ?_
          exact ⟨j + 1 + 1, hlt, Nat.sub_lt_sub_left hlt (Nat.lt_succ_self _), Re.sq [.loc [0], .loc [1], .loc [2], .loc [3], .loc [4]] ⟨rfl, rfl, rfl, rfl, rfl, rfl, trivial⟩ ⟨⟨.loc [0], _, rfl, rfl, .inl rfl⟩, ⟨.loc [1], _, rfl, rfl, .inl rfl⟩, ⟨.loc [2], _, rfl, rfl, .inl rfl⟩, ⟨.loc [3], _, rfl, rfl, .inl rn_row⟩, ⟨.loc [4], _, rfl, rfl, .inl (by rw [take_snoc he]; exact rn_row)⟩, trivial⟩ (by decide) rfl rfl (by decide)⟩
        · have hie : j + 1 = cs.length := by have := of_decide_eq_false h27; omega
          skip
          refine AW.exit ?_
          refine AW.seq ?_
          refine AW.region ?_
          refine AWo.go (f := 0) hev (by first | exact d_loadT rfl (ld ty36 rfl rfl) | exact d_load rfl (ld ty36 rfl rfl)) ?_
          refine AWo.go0 (f := 0) hev (d_store rfl rfl (stt ty36 rfl rfl)) ?_
          refine AWo.nil ?_
          refine AW.ret ?_
          exact .inl (fin_data rfl (frz_sc12 rfl rfl (hu1.take _) (hu2.take _) (by decide) (by decide) (by first | (simp; done) | (simp; omega)) (by first | (simp; done) | (simp; omega)) ht1 (List.take_of_length_le (by omega))))
end
end Go.Proofs.YtbahblehihbpkaaGreatDoor.w

namespace Go.Proofs.YtbahblehihbpkaaGreatDoor.w
open Go Go.Abs
set_option linter.unusedVariables false
set_option maxRecDepth 100000
set_option maxHeartbeats 1000000
noncomputable section
theorem bl40 {m : Int} : bld (cf m).P 40 = some ([.t (.str []), .nils, .nils], [(0, 1), (1, 1), (2, 1)]) := by kernel_rfl
theorem bl44 {m : Int} : bld (cf m).P 44 = some ([.t (.str []), .nils, .nils, .nils], [(0, 1), (1, 1), (2, 1), (3, 1)]) := by kernel_rfl

theorem clone9_froz {m : Int} {ev : CallF} (hev : CallOk (cf m) ev) (es : List Tree) (hne : es ≠ []) (hu : Uni false 1 es) (hl : es.length ≤ 4194304) :
    CallRel (cf m) 17 [.t (.sl es)] [] (.ret (.t (.sl es)) [] []) := by
  refine fn_start2 8 1 Tryz.func17 rfl (by decide) rfl rfl (by decide) ?_
  refine AW.seq ?_
  refine AW.region ?_
  refine AWo.go (f := 0) hev (by first | exact d_assignT rfl | exact d_assign rfl) ?_
  refine AWo.nil ?_
  refine AW.seq ?_
  refine AW.seq ?_
  refine AW.region ?_
  refine AWo.go (f := 0) hev (by first | exact d_moveT rfl | exact d_move rfl) ?_
  refine AWo.nilB rfl rfl ty38 rfl (fun b hb => ?_)
  have hb := hb hne
  subst hb
  refine AWo.nil ?_
  refine AW.cond rfl (fun h => absurd h (by decide)) (fun h => ?_)
  refine AW.skip ?_
  refine AW.seq ?_
  refine AW.region ?_
  refine AWo.go (f := 0) hev (d_lit0 rfl ty38 rfl ty9 rfl rfl) ?_
  refine AWo.go (f := 0) hev (by first | exact d_moveT rfl | exact d_move rfl) ?_
  refine AWo.go (f := 0) hev (d_appG app38 rfl rfl (.inl rfl) hu hne (by show es.length * 16 ≤ 70368744177664; omega)) ?_
  refine AWo.go (f := 0) hev (by first | exact d_assignT rfl | exact d_assign rfl) ?_
  refine AWo.nil ?_
  refine AW.ret ?_
  exact .inl (fin_data rfl (frz_row rfl hu (by decide) rfl))

theorem type_none {m : Int} (ev : CallF) (hev : CallOk (cf m) ev) (ts cs : List Tree) (nm : List UInt8) (hl : ts.length ≤ 4194304) (hform : ∀ x ∈ ts, ∃ nm p b, x = .agg [.str nm, .sl p, .sl b]) (hno : ∀ i, i < ts.length → ∀ x, ts[i]? = some x → ∀ n1 p1 b1, x = .agg [.str n1, .sl p1, .sl b1] → ¬ n1 = nm) :
    CallRel (cf m) 8 [.t (.agg [.sl ts, .sl cs]), .t (.str nm)] [] (.ret (.t (.tup [.agg [.str [], .sl [], .sl []], .int .i64 9])) [] []) := by
  refine fn_start2 30 2 Tryz.func8 rfl (by decide) rfl rfl (by decide) ?_
  refine AW.seq ?_
  refine AW.region ?_
  refine AWo.go (f := 0) hev (d_box rfl rfl) ?_
  refine AWo.go (f := 0) hev (d_alloc ty40 rfl rfl) ?_
  refine AWo.go (f := 0) hev (d_assignT rfl) ?_
  refine AWo.nil ?_
  refine AW.seq ?_
  refine AW.seq ?_
  refine AW.region ?_
  refine AWo.go (f := 0) hev (d_fieldAddr rfl fo36_0 rfl) ?_
  refine AWo.go (f := 0) hev (by first | exact d_loadT rfl (ld ty33 rfl rfl) | exact d_load rfl (ld ty33 rfl rfl)) ?_
  refine AWo.go (f := 0) hev (by first | exact d_lenT rfl ty33 rfl | exact d_lenR rfl ty33 rfl | exact d_lenN rfl ty33 rfl | exact d_lenG rfl ty33 rfl) ?_
  refine AWo.go (f := 0) hev (d_moveT rfl) ?_
  refine AWo.nil ?_
  refine AW.block ?_
  refine AW.loop (α := Nat) (fun i => ⟨frm 30 [(1, .t (.str nm)), (4, .ptr (.loc [0]) 0), (9, .t (.sl ts)), (10, .t (.int .i64 ts.length)), (11, .t (.int .i64 i))], [(.loc [0], .cells 40 [.t (.str []), .nils, .nils])], 1⟩) (fun i => i ≤ ts.length) (fun i => ts.length - i) 0 (Re.sq [.loc [1]] ⟨rfl, rfl, rfl, rfl, rfl, trivial⟩ ⟨⟨.loc [1], _, rfl, rfl, .inl rfl⟩, trivial⟩ (by decide) rfl rfl (by decide)) (Nat.zero_le _) (fun i hi => ?_)
  refine AW.seq ?_
  refine AW.region ?_
  refine AWo.go (f := 0) hev (d_ltI rfl rfl) ?_
  refine AWo.nil ?_
  refine AW.seq ?_
  refine AW.cond rfl (fun h12 => ?_) (fun h12 => ?_)
  · have hlt : i < ts.length := by have := of_decide_eq_true h12; omega
    obtain ⟨x, he⟩ : ∃ x, ts[i]? = some x := ⟨ts[i], List.getElem?_eq_getElem hlt⟩
    obtain ⟨n1, p1, b1, rfl⟩ := hform x (List.mem_of_getElem? he)
    have hne : ¬ n1 = nm := hno i hlt _ he _ _ _ rfl
    refine AW.skip ?_
    refine AW.seq ?_
    refine AW.block ?_
    refine AW.seq ?_
    refine AW.region ?_
    refine AWo.go (f := 0) hev (d_indexT rfl rfl ty33 rfl ty40 he rfl) ?_
    refine AWo.go (f := 0) hev (by first | exact d_loadT rfl (ld ty40 rfl rfl) | exact d_load rfl (ld ty40 rfl rfl)) ?_
    refine AWo.go (f := 0) hev (d_alloc ty40 rfl rfl) ?_
    refine AWo.go0 (f := 0) hev (d_store rfl rfl (stt ty40 rfl rfl)) ?_
    refine AWo.nil ?_
    refine AW.seq ?_
    refine AW.region ?_
    refine AWo.go (f := 0) hev (d_fieldAddr rfl fo40_0 rfl) ?_
    refine AWo.go (f := 0) hev (by first | exact d_loadT rfl (ld ty9 rfl rfl) | exact d_load rfl (ld ty9 rfl rfl)) ?_
    refine AWo.go (f := 0) hev (d_moveT rfl) ?_
    refine AWo.go (f := 0) hev (d_eqS rfl rfl) ?_
    refine AWo.nil ?_
    refine AW.cond rfl (fun h => absurd h (by simpa using hne)) (fun h => ?_)
    refine AW.skip ?_
    refine AW.region ?_
    refine AWo.go (f := 0) hev (d_add64 rfl rfl (by omega) (by omega)) ?_
    refine AWo.go (f := 0) hev (d_moveT rfl) ?_
    refine AWo.nil ?_
    exact ⟨i + 1, hlt, Nat.sub_lt_sub_left hlt (Nat.lt_succ_self i), Re.sq [.loc [0]] ⟨rfl, rfl, rfl, rfl, rfl, trivial⟩ ⟨⟨.loc [0], _, rfl, rfl, .inl rfl⟩, trivial⟩ (by decide) rfl rfl (by decide)⟩
  · have hie : i = ts.length := by have := of_decide_eq_false h12; omega
    subst hie
    skip
    refine AW.exit ?_
    refine AW.seq ?_
    refine AW.region ?_
    refine AWo.go (f := 0) hev (d_build rfl bl40 rfl rfl) ?_
    refine AWo.go0 (f := 0) hev (d_store rfl rfl (stt ty40 rfl rfl)) ?_
    refine AWo.go (f := 0) hev (d_assignT rfl) ?_
    refine AWo.nil ?_
    refine AW.ret ?_
    exact .inl (fin_data rfl rfl)

theorem type_00 {m : Int} (ev : CallF) (hev : CallOk (cf m) ev) (ts cs : List Tree) (nm : List UInt8) (hl : ts.length ≤ 4194304) (hform : ∀ x ∈ ts, ∃ nm p b, x = .agg [.str nm, .sl p, .sl b]) (p : Nat) (hp : ts[p]? = some (.agg [.str nm, .sl [], .sl []])) (hno : ∀ i, i < p → ∀ x, ts[i]? = some x → ∀ n1 p1 b1, x = .agg [.str n1, .sl p1, .sl b1] → ¬ n1 = nm)
    (hcp : ev 17 [.t (.sl [])] [] = some (.ret (.t (.sl [])) [] [])) (hca : ev 18 [.t (.sl [])] [] = some (.ret (.t (.sl [])) [] [])) :
    CallRel (cf m) 8 [.t (.agg [.sl ts, .sl cs]), .t (.str nm)] [] (.ret (.t (.tup [.agg [.str nm, .sl [], .sl []], .int .i64 0])) [] []) := by
  refine fn_start2 30 2 Tryz.func8 rfl (by decide) rfl rfl (by decide) ?_
  refine AW.seq ?_
  refine AW.region ?_
  refine AWo.go (f := 0) hev (d_box rfl rfl) ?_
  refine AWo.go (f := 0) hev (d_alloc ty40 rfl rfl) ?_
  refine AWo.go (f := 0) hev (d_assignT rfl) ?_
  refine AWo.nil ?_
  refine AW.seq ?_
  refine AW.seq ?_
  refine AW.region ?_
  refine AWo.go (f := 0) hev (d_fieldAddr rfl fo36_0 rfl) ?_
  refine AWo.go (f := 0) hev (by first | exact d_loadT rfl (ld ty33 rfl rfl) | exact d_load rfl (ld ty33 rfl rfl)) ?_
  refine AWo.go (f := 0) hev (by first | exact d_lenT rfl ty33 rfl | exact d_lenR rfl ty33 rfl | exact d_lenN rfl ty33 rfl | exact d_lenG rfl ty33 rfl) ?_
  refine AWo.go (f := 0) hev (d_moveT rfl) ?_
  refine AWo.nil ?_
  refine AW.block ?_
  refine AW.loop (α := Nat) (fun i => ⟨frm 30 [(1, .t (.str nm)), (4, .ptr (.loc [0]) 0), (9, .t (.sl ts)), (10, .t (.int .i64 ts.length)), (11, .t (.int .i64 i))], [(.loc [0], .cells 40 [.t (.str []), .nils, .nils])], 1⟩) (fun i => i ≤ p) (fun i => p - i) 0 (Re.sq [.loc [1]] ⟨rfl, rfl, rfl, rfl, rfl, trivial⟩ ⟨⟨.loc [1], _, rfl, rfl, .inl rfl⟩, trivial⟩ (by decide) rfl rfl (by decide)) (Nat.zero_le _) (fun i hi => ?_)
  refine AW.seq ?_
  refine AW.region ?_
  refine AWo.go (f := 0) hev (d_ltI rfl rfl) ?_
  refine AWo.nil ?_
  refine AW.seq ?_
  refine AW.cond rfl (fun h12 => ?_) (fun h => absurd h (by have := (List.getElem?_eq_some_iff.1 hp).1; simp; omega))
  have hpl := (List.getElem?_eq_some_iff.1 hp).1
  by_cases hip : i = p
  · subst hip
    refine AW.skip ?_
    refine AW.seq ?_
    refine AW.block ?_
    refine AW.seq ?_
    refine AW.region ?_
    refine AWo.go (f := 0) hev (d_indexT rfl rfl ty33 rfl ty40 hp rfl) ?_
    refine AWo.go (f := 0) hev (by first | exact d_loadT rfl (ld ty40 rfl rfl) | exact d_load rfl (ld ty40 rfl rfl)) ?_
    refine AWo.go (f := 0) hev (d_alloc ty40 rfl rfl) ?_
    refine AWo.go0 (f := 0) hev (d_store rfl rfl (stt ty40 rfl rfl)) ?_
    refine AWo.nil ?_
    refine AW.seq ?_
    refine AW.region ?_
    refine AWo.go (f := 0) hev (d_fieldAddr rfl fo40_0 rfl) ?_
    refine AWo.go (f := 0) hev (by first | exact d_loadT rfl (ld ty9 rfl rfl) | exact d_load rfl (ld ty9 rfl rfl)) ?_
    refine AWo.go (f := 0) hev (d_moveT rfl) ?_
    refine AWo.go (f := 0) hev (d_eqS0 rfl rfl) ?_
    refine AWo.nil ?_
    refine AW.cond rfl (fun h => ?_) (fun h => absurd h (by decide))
    refine AW.seq ?_
    refine AW.draw (f := 0) orders hev ?_
    refine AWd.go rfl (d_fieldAddr rfl fo40_1 rfl) ?_
    refine AWd.go rfl ((by first | exact d_loadT rfl (ld ty38 rfl rfl) | exact d_load rfl (ld ty38 rfl rfl))) ?_
    refine AWd.go rfl (d_callT (rh1 rfl) hcp) ?_
    refine AWd.go rfl (d_fieldAddr rfl fo40_2 rfl) ?_
    refine AWd.go rfl ((by first | exact d_loadT rfl (ld ty24 rfl rfl) | exact d_load rfl (ld ty24 rfl rfl))) ?_
    refine AWd.go rfl (d_callT (rh1 rfl) hca) ?_
    refine AWd.go rfl (d_fieldAddr rfl fo40_1 rfl) ?_
    refine AWd.go0 rfl (d_store rfl rfl (stt ty38 rfl rfl)) ?_
    refine AWd.go rfl (d_fieldAddr rfl fo40_2 rfl) ?_
    refine AWd.go0 rfl (d_store rfl rfl (stt ty24 rfl rfl)) ?_
    refine AWd.nil ⟨rfl, rfl, ?_⟩
    refine AW.seq ?_
    refine AW.region ?_
    refine AWo.go (f := 0) hev (by first | exact d_loadT rfl (ld ty40 rfl rfl) | exact d_load rfl (ld ty40 rfl rfl)) ?_
    refine AWo.go0 (f := 0) hev (d_store rfl rfl (stt ty40 rfl rfl)) ?_
    refine AWo.go (f := 0) hev (d_assignT rfl) ?_
    refine AWo.nil ?_
    refine AW.ret ?_
    exact .inl (fin_data rfl rfl)
  · have hlt : i < p := by omega
    obtain ⟨x, he⟩ : ∃ x, ts[i]? = some x := ⟨ts[i]'(by have := (List.getElem?_eq_some_iff.1 hp).1; omega), List.getElem?_eq_getElem _⟩
    obtain ⟨n1, p1, b1, rfl⟩ := hform x (List.mem_of_getElem? he)
    have hne : ¬ n1 = nm := hno i hlt _ he _ _ _ rfl
    refine AW.skip ?_
    refine AW.seq ?_
    refine AW.block ?_
    refine AW.seq ?_
    refine AW.region ?_
    refine AWo.go (f := 0) hev (d_indexT rfl rfl ty33 rfl ty40 he rfl) ?_
    refine AWo.go (f := 0) hev (by first | exact d_loadT rfl (ld ty40 rfl rfl) | exact d_load rfl (ld ty40 rfl rfl)) ?_
    refine AWo.go (f := 0) hev (d_alloc ty40 rfl rfl) ?_
    refine AWo.go0 (f := 0) hev (d_store rfl rfl (stt ty40 rfl rfl)) ?_
    refine AWo.nil ?_
    refine AW.seq ?_
    refine AW.region ?_
    refine AWo.go (f := 0) hev (d_fieldAddr rfl fo40_0 rfl) ?_
    refine AWo.go (f := 0) hev (by first | exact d_loadT rfl (ld ty9 rfl rfl) | exact d_load rfl (ld ty9 rfl rfl)) ?_
    refine AWo.go (f := 0) hev (d_moveT rfl) ?_
    refine AWo.go (f := 0) hev (d_eqS rfl rfl) ?_
    refine AWo.nil ?_
    refine AW.cond rfl (fun h => absurd h (by simpa using hne)) (fun h => ?_)
    refine AW.skip ?_
    refine AW.region ?_
    refine AWo.go (f := 0) hev (d_add64 rfl rfl (by omega) (by omega)) ?_
    refine AWo.go (f := 0) hev (d_moveT rfl) ?_
    refine AWo.nil ?_
    exact ⟨i + 1, hlt, Nat.sub_lt_sub_left hlt (Nat.lt_succ_self i), Re.sq [.loc [0]] ⟨rfl, rfl, rfl, rfl, rfl, trivial⟩ ⟨⟨.loc [0], _, rfl, rfl, .inl rfl⟩, trivial⟩ (by decide) rfl rfl (by decide)⟩

theorem type_01 {m : Int} (ev : CallF) (hev : CallOk (cf m) ev) (ts cs : List Tree) (nm : List UInt8) (hl : ts.length ≤ 4194304) (hform : ∀ x ∈ ts, ∃ nm p b, x = .agg [.str nm, .sl p, .sl b]) (p : Nat) (bs : List Tree) (hp : ts[p]? = some (.agg [.str nm, .sl [], .sl bs])) (hno : ∀ i, i < p → ∀ x, ts[i]? = some x → ∀ n1 p1 b1, x = .agg [.str n1, .sl p1, .sl b1] → ¬ n1 = nm)
    (hcp : ev 17 [.t (.sl [])] [] = some (.ret (.t (.sl [])) [] [])) (hca : ev 18 [.t (.sl bs)] [] = some (.ret (.ref (.loc [0]) 0 bs.length) [] [(.loc [0], .arr (31, true) 5 false ((flat bs).map .t))])) :
    CallRel (cf m) 8 [.t (.agg [.sl ts, .sl cs]), .t (.str nm)] [] (.ret (.tup [.agg [.t (.str nm), .t (.sl []), .ref (.loc [15, 0]) 0 bs.length], .t (.int .i64 0)]) [] [(.loc [15, 0], .arr (31, true) 5 false ((flat bs).map .t))]) := by
  refine fn_start2 30 2 Tryz.func8 rfl (by decide) rfl rfl (by decide) ?_
  refine AW.seq ?_
  refine AW.region ?_
  refine AWo.go (f := 0) hev (d_box rfl rfl) ?_
  refine AWo.go (f := 0) hev (d_alloc ty40 rfl rfl) ?_
  refine AWo.go (f := 0) hev (d_assignT rfl) ?_
  refine AWo.nil ?_
  refine AW.seq ?_
  refine AW.seq ?_
  refine AW.region ?_
  refine AWo.go (f := 0) hev (d_fieldAddr rfl fo36_0 rfl) ?_
  refine AWo.go (f := 0) hev (by first | exact d_loadT rfl (ld ty33 rfl rfl) | exact d_load rfl (ld ty33 rfl rfl)) ?_
  refine AWo.go (f := 0) hev (by first | exact d_lenT rfl ty33 rfl | exact d_lenR rfl ty33 rfl | exact d_lenN rfl ty33 rfl | exact d_lenG rfl ty33 rfl) ?_
  refine AWo.go (f := 0) hev (d_moveT rfl) ?_
  refine AWo.nil ?_
  refine AW.block ?_
  refine AW.loop (α := Nat) (fun i => ⟨frm 30 [(1, .t (.str nm)), (4, .ptr (.loc [0]) 0), (9, .t (.sl ts)), (10, .t (.int .i64 ts.length)), (11, .t (.int .i64 i))], [(.loc [0], .cells 40 [.t (.str []), .nils, .nils])], 1⟩) (fun i => i ≤ p) (fun i => p - i) 0 (Re.sq [.loc [1]] ⟨rfl, rfl, rfl, rfl, rfl, trivial⟩ ⟨⟨.loc [1], _, rfl, rfl, .inl rfl⟩, trivial⟩ (by decide) rfl rfl (by decide)) (Nat.zero_le _) (fun i hi => ?_)
  refine AW.seq ?_
  refine AW.region ?_
  refine AWo.go (f := 0) hev (d_ltI rfl rfl) ?_
  refine AWo.nil ?_
  refine AW.seq ?_
  refine AW.cond rfl (fun h12 => ?_) (fun h => absurd h (by have := (List.getElem?_eq_some_iff.1 hp).1; simp; omega))
  have hpl := (List.getElem?_eq_some_iff.1 hp).1
  by_cases hip : i = p
  · subst hip
    refine AW.skip ?_
    refine AW.seq ?_
    refine AW.block ?_
    refine AW.seq ?_
    refine AW.region ?_
    refine AWo.go (f := 0) hev (d_indexT rfl rfl ty33 rfl ty40 hp rfl) ?_
    refine AWo.go (f := 0) hev (by first | exact d_loadT rfl (ld ty40 rfl rfl) | exact d_load rfl (ld ty40 rfl rfl)) ?_
    refine AWo.go (f := 0) hev (d_alloc ty40 rfl rfl) ?_
    refine AWo.go0 (f := 0) hev (d_store rfl rfl (stt ty40 rfl rfl)) ?_
    refine AWo.nil ?_
    refine AW.seq ?_
    refine AW.region ?_
    refine AWo.go (f := 0) hev (d_fieldAddr rfl fo40_0 rfl) ?_
    refine AWo.go (f := 0) hev (by first | exact d_loadT rfl (ld ty9 rfl rfl) | exact d_load rfl (ld ty9 rfl rfl)) ?_
    refine AWo.go (f := 0) hev (d_moveT rfl) ?_
    refine AWo.go (f := 0) hev (d_eqS0 rfl rfl) ?_
    refine AWo.nil ?_
    refine AW.cond rfl (fun h => ?_) (fun h => absurd h (by decide))
    refine AW.seq ?_
    refine AW.draw (f := 0) orders hev ?_
    refine AWd.go rfl (d_fieldAddr rfl fo40_1 rfl) ?_
    refine AWd.go rfl ((by first | exact d_loadT rfl (ld ty38 rfl rfl) | exact d_load rfl (ld ty38 rfl rfl))) ?_
    refine AWd.go rfl (d_callT (rh1 rfl) hcp) ?_
    refine AWd.go rfl (d_fieldAddr rfl fo40_2 rfl) ?_
    refine AWd.go rfl ((by first | exact d_loadT rfl (ld ty24 rfl rfl) | exact d_load rfl (ld ty24 rfl rfl))) ?_
    refine AWd.go rfl (d_callN (rh1 rfl) hca rfl news_row) ?_
    refine AWd.go rfl (d_fieldAddr rfl fo40_1 rfl) ?_
    refine AWd.go0 rfl (d_store rfl rfl (stt ty38 rfl rfl)) ?_
    refine AWd.go rfl (d_fieldAddr rfl fo40_2 rfl) ?_
    refine AWd.go0 rfl (d_store rfl rfl (stt ty24 rfl rfl)) ?_
    refine AWd.nil ⟨rfl, rfl, ?_⟩
    refine AW.seq ?_
    refine AW.region ?_
    refine AWo.go (f := 0) hev (by first | exact d_loadT rfl (ld ty40 rfl rfl) | exact d_load rfl (ld ty40 rfl rfl)) ?_
    refine AWo.go0 (f := 0) hev (d_store rfl rfl (stt ty40 rfl rfl)) ?_
    refine AWo.go (f := 0) hev (d_assignT rfl) ?_
    refine AWo.nil ?_
    refine AW.ret ?_
    exact .inr (fin_names rfl rfl rfl (reach_rowF rfl) rfl)
  · have hlt : i < p := by omega
    obtain ⟨x, he⟩ : ∃ x, ts[i]? = some x := ⟨ts[i]'(by have := (List.getElem?_eq_some_iff.1 hp).1; omega), List.getElem?_eq_getElem _⟩
    obtain ⟨n1, p1, b1, rfl⟩ := hform x (List.mem_of_getElem? he)
    have hne : ¬ n1 = nm := hno i hlt _ he _ _ _ rfl
    refine AW.skip ?_
    refine AW.seq ?_
    refine AW.block ?_
    refine AW.seq ?_
    refine AW.region ?_
    refine AWo.go (f := 0) hev (d_indexT rfl rfl ty33 rfl ty40 he rfl) ?_
    refine AWo.go (f := 0) hev (by first | exact d_loadT rfl (ld ty40 rfl rfl) | exact d_load rfl (ld ty40 rfl rfl)) ?_
    refine AWo.go (f := 0) hev (d_alloc ty40 rfl rfl) ?_
    refine AWo.go0 (f := 0) hev (d_store rfl rfl (stt ty40 rfl rfl)) ?_
    refine AWo.nil ?_
    refine AW.seq ?_
    refine AW.region ?_
    refine AWo.go (f := 0) hev (d_fieldAddr rfl fo40_0 rfl) ?_
    refine AWo.go (f := 0) hev (by first | exact d_loadT rfl (ld ty9 rfl rfl) | exact d_load rfl (ld ty9 rfl rfl)) ?_
    refine AWo.go (f := 0) hev (d_moveT rfl) ?_
    refine AWo.go (f := 0) hev (d_eqS rfl rfl) ?_
    refine AWo.nil ?_
    refine AW.cond rfl (fun h => absurd h (by simpa using hne)) (fun h => ?_)
    refine AW.skip ?_
    refine AW.region ?_
    refine AWo.go (f := 0) hev (d_add64 rfl rfl (by omega) (by omega)) ?_
    refine AWo.go (f := 0) hev (d_moveT rfl) ?_
    refine AWo.nil ?_
    exact ⟨i + 1, hlt, Nat.sub_lt_sub_left hlt (Nat.lt_succ_self i), Re.sq [.loc [0]] ⟨rfl, rfl, rfl, rfl, rfl, trivial⟩ ⟨⟨.loc [0], _, rfl, rfl, .inl rfl⟩, trivial⟩ (by decide) rfl rfl (by decide)⟩

theorem type_10 {m : Int} (ev : CallF) (hev : CallOk (cf m) ev) (ts cs : List Tree) (nm : List UInt8) (hl : ts.length ≤ 4194304) (hform : ∀ x ∈ ts, ∃ nm p b, x = .agg [.str nm, .sl p, .sl b]) (p : Nat) (ps : List Tree) (hp : ts[p]? = some (.agg [.str nm, .sl ps, .sl []])) (hno : ∀ i, i < p → ∀ x, ts[i]? = some x → ∀ n1 p1 b1, x = .agg [.str n1, .sl p1, .sl b1] → ¬ n1 = nm)
    (hcp : ev 17 [.t (.sl ps)] [] = some (.ret (.ref (.loc [5]) 0 ps.length) [] [(.loc [5], .arr (9, false) 1 false ((flat ps).map .t))])) (hca : ev 18 [.t (.sl [])] [] = some (.ret (.t (.sl [])) [] [])) :
    CallRel (cf m) 8 [.t (.agg [.sl ts, .sl cs]), .t (.str nm)] [] (.ret (.tup [.agg [.t (.str nm), .ref (.loc [12, 5]) 0 ps.length, .t (.sl [])], .t (.int .i64 0)]) [] [(.loc [12, 5], .arr (9, false) 1 false ((flat ps).map .t))]) := by
  refine fn_start2 30 2 Tryz.func8 rfl (by decide) rfl rfl (by decide) ?_
  refine AW.seq ?_
  refine AW.region ?_
  refine AWo.go (f := 0) hev (d_box rfl rfl) ?_
  refine AWo.go (f := 0) hev (d_alloc ty40 rfl rfl) ?_
  refine AWo.go (f := 0) hev (d_assignT rfl) ?_
  refine AWo.nil ?_
  refine AW.seq ?_
  refine AW.seq ?_
  refine AW.region ?_
  refine AWo.go (f := 0) hev (d_fieldAddr rfl fo36_0 rfl) ?_
  refine AWo.go (f := 0) hev (by first | exact d_loadT rfl (ld ty33 rfl rfl) | exact d_load rfl (ld ty33 rfl rfl)) ?_
  refine AWo.go (f := 0) hev (by first | exact d_lenT rfl ty33 rfl | exact d_lenR rfl ty33 rfl | exact d_lenN rfl ty33 rfl | exact d_lenG rfl ty33 rfl) ?_
  refine AWo.go (f := 0) hev (d_moveT rfl) ?_
  refine AWo.nil ?_
  refine AW.block ?_
  refine AW.loop (α := Nat) (fun i => ⟨frm 30 [(1, .t (.str nm)), (4, .ptr (.loc [0]) 0), (9, .t (.sl ts)), (10, .t (.int .i64 ts.length)), (11, .t (.int .i64 i))], [(.loc [0], .cells 40 [.t (.str []), .nils, .nils])], 1⟩) (fun i => i ≤ p) (fun i => p - i) 0 (Re.sq [.loc [1]] ⟨rfl, rfl, rfl, rfl, rfl, trivial⟩ ⟨⟨.loc [1], _, rfl, rfl, .inl rfl⟩, trivial⟩ (by decide) rfl rfl (by decide)) (Nat.zero_le _) (fun i hi => ?_)
  refine AW.seq ?_
  refine AW.region ?_
  refine AWo.go (f := 0) hev (d_ltI rfl rfl) ?_
  refine AWo.nil ?_
  refine AW.seq ?_
  refine AW.cond rfl (fun h12 => ?_) (fun h => absurd h (by have := (List.getElem?_eq_some_iff.1 hp).1; simp; omega))
  have hpl := (List.getElem?_eq_some_iff.1 hp).1
  by_cases hip : i = p
  · subst hip
    refine AW.skip ?_
    refine AW.seq ?_
    refine AW.block ?_
    refine AW.seq ?_
    refine AW.region ?_
    refine AWo.go (f := 0) hev (d_indexT rfl rfl ty33 rfl ty40 hp rfl) ?_
    refine AWo.go (f := 0) hev (by first | exact d_loadT rfl (ld ty40 rfl rfl) | exact d_load rfl (ld ty40 rfl rfl)) ?_
    refine AWo.go (f := 0) hev (d_alloc ty40 rfl rfl) ?_
    refine AWo.go0 (f := 0) hev (d_store rfl rfl (stt ty40 rfl rfl)) ?_
    refine AWo.nil ?_
    refine AW.seq ?_
    refine AW.region ?_
    refine AWo.go (f := 0) hev (d_fieldAddr rfl fo40_0 rfl) ?_
    refine AWo.go (f := 0) hev (by first | exact d_loadT rfl (ld ty9 rfl rfl) | exact d_load rfl (ld ty9 rfl rfl)) ?_
    refine AWo.go (f := 0) hev (d_moveT rfl) ?_
    refine AWo.go (f := 0) hev (d_eqS0 rfl rfl) ?_
    refine AWo.nil ?_
    refine AW.cond rfl (fun h => ?_) (fun h => absurd h (by decide))
    refine AW.seq ?_
    refine AW.draw (f := 0) orders hev ?_
    refine AWd.go rfl (d_fieldAddr rfl fo40_1 rfl) ?_
    refine AWd.go rfl ((by first | exact d_loadT rfl (ld ty38 rfl rfl) | exact d_load rfl (ld ty38 rfl rfl))) ?_
    refine AWd.go rfl (d_callN (rh1 rfl) hcp rfl news_row) ?_
    refine AWd.go rfl (d_fieldAddr rfl fo40_2 rfl) ?_
    refine AWd.go rfl ((by first | exact d_loadT rfl (ld ty24 rfl rfl) | exact d_load rfl (ld ty24 rfl rfl))) ?_
    refine AWd.go rfl (d_callT (rh1 rfl) hca) ?_
    refine AWd.go rfl (d_fieldAddr rfl fo40_1 rfl) ?_
    refine AWd.go0 rfl (d_store rfl rfl (stt ty38 rfl rfl)) ?_
    refine AWd.go rfl (d_fieldAddr rfl fo40_2 rfl) ?_
    refine AWd.go0 rfl (d_store rfl rfl (stt ty24 rfl rfl)) ?_
    refine AWd.nil ⟨rfl, rfl, ?_⟩
    refine AW.seq ?_
    refine AW.region ?_
    refine AWo.go (f := 0) hev (by first | exact d_loadT rfl (ld ty40 rfl rfl) | exact d_load rfl (ld ty40 rfl rfl)) ?_
    refine AWo.go0 (f := 0) hev (d_store rfl rfl (stt ty40 rfl rfl)) ?_
    refine AWo.go (f := 0) hev (d_assignT rfl) ?_
    refine AWo.nil ?_
    refine AW.ret ?_
    exact .inr (fin_names rfl rfl rfl (reach_rowF rfl) rfl)
  · have hlt : i < p := by omega
    obtain ⟨x, he⟩ : ∃ x, ts[i]? = some x := ⟨ts[i]'(by have := (List.getElem?_eq_some_iff.1 hp).1; omega), List.getElem?_eq_getElem _⟩
    obtain ⟨n1, p1, b1, rfl⟩ := hform x (List.mem_of_getElem? he)
    have hne : ¬ n1 = nm := hno i hlt _ he _ _ _ rfl
    refine AW.skip ?_
    refine AW.seq ?_
    refine AW.block ?_
    refine AW.seq ?_
    refine AW.region ?_
    refine AWo.go (f := 0) hev (d_indexT rfl rfl ty33 rfl ty40 he rfl) ?_
    refine AWo.go (f := 0) hev (by first | exact d_loadT rfl (ld ty40 rfl rfl) | exact d_load rfl (ld ty40 rfl rfl)) ?_
    refine AWo.go (f := 0) hev (d_alloc ty40 rfl rfl) ?_
    refine AWo.go0 (f := 0) hev (d_store rfl rfl (stt ty40 rfl rfl)) ?_
    refine AWo.nil ?_
    refine AW.seq ?_
    refine AW.region ?_
    refine AWo.go (f := 0) hev (d_fieldAddr rfl fo40_0 rfl) ?_
    refine AWo.go (f := 0) hev (by first | exact d_loadT rfl (ld ty9 rfl rfl) | exact d_load rfl (ld ty9 rfl rfl)) ?_
    refine AWo.go (f := 0) hev (d_moveT rfl) ?_
    refine AWo.go (f := 0) hev (d_eqS rfl rfl) ?_
    refine AWo.nil ?_
    refine AW.cond rfl (fun h => absurd h (by simpa using hne)) (fun h => ?_)
    refine AW.skip ?_
    refine AW.region ?_
    refine AWo.go (f := 0) hev (d_add64 rfl rfl (by omega) (by omega)) ?_
    refine AWo.go (f := 0) hev (d_moveT rfl) ?_
    refine AWo.nil ?_
    exact ⟨i + 1, hlt, Nat.sub_lt_sub_left hlt (Nat.lt_succ_self i), Re.sq [.loc [0]] ⟨rfl, rfl, rfl, rfl, rfl, trivial⟩ ⟨⟨.loc [0], _, rfl, rfl, .inl rfl⟩, trivial⟩ (by decide) rfl rfl (by decide)⟩

theorem type_11 {m : Int} (ev : CallF) (hev : CallOk (cf m) ev) (ts cs : List Tree) (nm : List UInt8) (hl : ts.length ≤ 4194304) (hform : ∀ x ∈ ts, ∃ nm p b, x = .agg [.str nm, .sl p, .sl b]) (p : Nat) (ps bs : List Tree) (hp : ts[p]? = some (.agg [.str nm, .sl ps, .sl bs])) (hno : ∀ i, i < p → ∀ x, ts[i]? = some x → ∀ n1 p1 b1, x = .agg [.str n1, .sl p1, .sl b1] → ¬ n1 = nm)
    (hcp : ev 17 [.t (.sl ps)] [] = some (.ret (.ref (.loc [5]) 0 ps.length) [] [(.loc [5], .arr (9, false) 1 false ((flat ps).map .t))])) (hca : ev 18 [.t (.sl bs)] [] = some (.ret (.ref (.loc [0]) 0 bs.length) [] [(.loc [0], .arr (31, true) 5 false ((flat bs).map .t))])) :
    CallRel (cf m) 8 [.t (.agg [.sl ts, .sl cs]), .t (.str nm)] [] (.ret (.tup [.agg [.t (.str nm), .ref (.loc [12, 5]) 0 ps.length, .ref (.loc [15, 0]) 0 bs.length], .t (.int .i64 0)]) [] [(.loc [12, 5], .arr (9, false) 1 false ((flat ps).map .t)), (.loc [15, 0], .arr (31, true) 5 false ((flat bs).map .t))]) := by
  refine fn_start2 30 2 Tryz.func8 rfl (by decide) rfl rfl (by decide) ?_
  refine AW.seq ?_
  refine AW.region ?_
  refine AWo.go (f := 0) hev (d_box rfl rfl) ?_
  refine AWo.go (f := 0) hev (d_alloc ty40 rfl rfl) ?_
  refine AWo.go (f := 0) hev (d_assignT rfl) ?_
  refine AWo.nil ?_
  refine AW.seq ?_
  refine AW.seq ?_
  refine AW.region ?_
  refine AWo.go (f := 0) hev (d_fieldAddr rfl fo36_0 rfl) ?_
  refine AWo.go (f := 0) hev (by first | exact d_loadT rfl (ld ty33 rfl rfl) | exact d_load rfl (ld ty33 rfl rfl)) ?_
  refine AWo.go (f := 0) hev (by first | exact d_lenT rfl ty33 rfl | exact d_lenR rfl ty33 rfl | exact d_lenN rfl ty33 rfl | exact d_lenG rfl ty33 rfl) ?_
  refine AWo.go (f := 0) hev (d_moveT rfl) ?_
  refine AWo.nil ?_
  refine AW.block ?_
  refine AW.loop (α := Nat) (fun i => ⟨frm 30 [(1, .t (.str nm)), (4, .ptr (.loc [0]) 0), (9, .t (.sl ts)), (10, .t (.int .i64 ts.length)), (11, .t (.int .i64 i))], [(.loc [0], .cells 40 [.t (.str []), .nils, .nils])], 1⟩) (fun i => i ≤ p) (fun i => p - i) 0 (Re.sq [.loc [1]] ⟨rfl, rfl, rfl, rfl, rfl, trivial⟩ ⟨⟨.loc [1], _, rfl, rfl, .inl rfl⟩, trivial⟩ (by decide) rfl rfl (by decide)) (Nat.zero_le _) (fun i hi => ?_)
  refine AW.seq ?_
  refine AW.region ?_
  refine AWo.go (f := 0) hev (d_ltI rfl rfl) ?_
  refine AWo.nil ?_
  refine AW.seq ?_
  refine AW.cond rfl (fun h12 => ?_) (fun h => absurd h (by have := (List.getElem?_eq_some_iff.1 hp).1; simp; omega))
  have hpl := (List.getElem?_eq_some_iff.1 hp).1
  by_cases hip : i = p
  · subst hip
    refine AW.skip ?_
    refine AW.seq ?_
    refine AW.block ?_
    refine AW.seq ?_
    refine AW.region ?_
    refine AWo.go (f := 0) hev (d_indexT rfl rfl ty33 rfl ty40 hp rfl) ?_
    refine AWo.go (f := 0) hev (by first | exact d_loadT rfl (ld ty40 rfl rfl) | exact d_load rfl (ld ty40 rfl rfl)) ?_
    refine AWo.go (f := 0) hev (d_alloc ty40 rfl rfl) ?_
    refine AWo.go0 (f := 0) hev (d_store rfl rfl (stt ty40 rfl rfl)) ?_
    refine AWo.nil ?_
    refine AW.seq ?_
    refine AW.region ?_
    refine AWo.go (f := 0) hev (d_fieldAddr rfl fo40_0 rfl) ?_
    refine AWo.go (f := 0) hev (by first | exact d_loadT rfl (ld ty9 rfl rfl) | exact d_load rfl (ld ty9 rfl rfl)) ?_
    refine AWo.go (f := 0) hev (d_moveT rfl) ?_
    refine AWo.go (f := 0) hev (d_eqS0 rfl rfl) ?_
    refine AWo.nil ?_
    refine AW.cond rfl (fun h => ?_) (fun h => absurd h (by decide))
    refine AW.seq ?_
    refine AW.draw (f := 0) orders hev ?_
    refine AWd.go rfl (d_fieldAddr rfl fo40_1 rfl) ?_
    refine AWd.go rfl ((by first | exact d_loadT rfl (ld ty38 rfl rfl) | exact d_load rfl (ld ty38 rfl rfl))) ?_
    refine AWd.go rfl (d_callN (rh1 rfl) hcp rfl news_row) ?_
    refine AWd.go rfl (d_fieldAddr rfl fo40_2 rfl) ?_
    refine AWd.go rfl ((by first | exact d_loadT rfl (ld ty24 rfl rfl) | exact d_load rfl (ld ty24 rfl rfl))) ?_
    refine AWd.go rfl (d_callN (rh1 rfl) hca rfl news_row) ?_
    refine AWd.go rfl (d_fieldAddr rfl fo40_1 rfl) ?_
    refine AWd.go0 rfl (d_store rfl rfl (stt ty38 rfl rfl)) ?_
    refine AWd.go rfl (d_fieldAddr rfl fo40_2 rfl) ?_
    refine AWd.go0 rfl (d_store rfl rfl (stt ty24 rfl rfl)) ?_
    refine AWd.nil ⟨rfl, rfl, ?_⟩
    refine AW.seq ?_
    refine AW.region ?_
    refine AWo.go (f := 0) hev (by first | exact d_loadT rfl (ld ty40 rfl rfl) | exact d_load rfl (ld ty40 rfl rfl)) ?_
    refine AWo.go0 (f := 0) hev (d_store rfl rfl (stt ty40 rfl rfl)) ?_
    refine AWo.go (f := 0) hev (d_assignT rfl) ?_
    refine AWo.nil ?_
    refine AW.ret ?_
    exact .inr (fin_names rfl rfl rfl (reach_twoF rfl rfl rfl) rfl)
  · have hlt : i < p := by omega
    obtain ⟨x, he⟩ : ∃ x, ts[i]? = some x := ⟨ts[i]'(by have := (List.getElem?_eq_some_iff.1 hp).1; omega), List.getElem?_eq_getElem _⟩
    obtain ⟨n1, p1, b1, rfl⟩ := hform x (List.mem_of_getElem? he)
    have hne : ¬ n1 = nm := hno i hlt _ he _ _ _ rfl
    refine AW.skip ?_
    refine AW.seq ?_
    refine AW.block ?_
    refine AW.seq ?_
    refine AW.region ?_
    refine AWo.go (f := 0) hev (d_indexT rfl rfl ty33 rfl ty40 he rfl) ?_
    refine AWo.go (f := 0) hev (by first | exact d_loadT rfl (ld ty40 rfl rfl) | exact d_load rfl (ld ty40 rfl rfl)) ?_
    refine AWo.go (f := 0) hev (d_alloc ty40 rfl rfl) ?_
    refine AWo.go0 (f := 0) hev (d_store rfl rfl (stt ty40 rfl rfl)) ?_
    refine AWo.nil ?_
    refine AW.seq ?_
    refine AW.region ?_
    refine AWo.go (f := 0) hev (d_fieldAddr rfl fo40_0 rfl) ?_
    refine AWo.go (f := 0) hev (by first | exact d_loadT rfl (ld ty9 rfl rfl) | exact d_load rfl (ld ty9 rfl rfl)) ?_
    refine AWo.go (f := 0) hev (d_moveT rfl) ?_
    refine AWo.go (f := 0) hev (d_eqS rfl rfl) ?_
    refine AWo.nil ?_
    refine AW.cond rfl (fun h => absurd h (by simpa using hne)) (fun h => ?_)
    refine AW.skip ?_
    refine AW.region ?_
    refine AWo.go (f := 0) hev (d_add64 rfl rfl (by omega) (by omega)) ?_
    refine AWo.go (f := 0) hev (d_moveT rfl) ?_
    refine AWo.nil ?_
    exact ⟨i + 1, hlt, Nat.sub_lt_sub_left hlt (Nat.lt_succ_self i), Re.sq [.loc [0]] ⟨rfl, rfl, rfl, rfl, rfl, trivial⟩ ⟨⟨.loc [0], _, rfl, rfl, .inl rfl⟩, trivial⟩ (by decide) rfl rfl (by decide)⟩

theorem action_none {m : Int} (ev : CallF) (hev : CallOk (cf m) ev) (ts cs : List Tree) (nm : List UInt8) (hl : cs.length ≤ 4194304) (hform : ∀ x ∈ cs, ∃ nm p r b, x = .agg [.str nm, .sl p, .sl r, .sl b]) (hno : ∀ i, i < cs.length → ∀ x, cs[i]? = some x → ∀ n1 p1 r1 b1, x = .agg [.str n1, .sl p1, .sl r1, .sl b1] → ¬ n1 = nm) :
    CallRel (cf m) 9 [.t (.agg [.sl ts, .sl cs]), .t (.str nm)] [] (.ret (.t (.tup [.agg [.str [], .sl [], .sl [], .sl []], .int .i64 9])) [] []) := by
  refine fn_start2 34 2 Tryz.func9 rfl (by decide) rfl rfl (by decide) ?_
  refine AW.seq ?_
  refine AW.region ?_
  refine AWo.go (f := 0) hev (d_box rfl rfl) ?_
  refine AWo.go (f := 0) hev (d_alloc ty44 rfl rfl) ?_
  refine AWo.go (f := 0) hev (d_assignT rfl) ?_
  refine AWo.nil ?_
  refine AW.seq ?_
  refine AW.seq ?_
  refine AW.region ?_
  refine AWo.go (f := 0) hev (d_fieldAddr rfl fo36_1 rfl) ?_
  refine AWo.go (f := 0) hev (by first | exact d_loadT rfl (ld ty34 rfl rfl) | exact d_load rfl (ld ty34 rfl rfl)) ?_
  refine AWo.go (f := 0) hev (by first | exact d_lenT rfl ty34 rfl | exact d_lenR rfl ty34 rfl | exact d_lenN rfl ty34 rfl | exact d_lenG rfl ty34 rfl) ?_
  refine AWo.go (f := 0) hev (d_moveT rfl) ?_
  refine AWo.nil ?_
  refine AW.block ?_
  refine AW.loop (α := Nat) (fun i => ⟨frm 34 [(1, .t (.str nm)), (4, .ptr (.loc [0]) 0), (9, .t (.sl cs)), (10, .t (.int .i64 cs.length)), (11, .t (.int .i64 i))], [(.loc [0], .cells 44 [.t (.str []), .nils, .nils, .nils])], 1⟩) (fun i => i ≤ cs.length) (fun i => cs.length - i) 0 (Re.sq [.loc [1]] ⟨rfl, rfl, rfl, rfl, rfl, trivial⟩ ⟨⟨.loc [1], _, rfl, rfl, .inl rfl⟩, trivial⟩ (by decide) rfl rfl (by decide)) (Nat.zero_le _) (fun i hi => ?_)
  refine AW.seq ?_
  refine AW.region ?_
  refine AWo.go (f := 0) hev (d_ltI rfl rfl) ?_
  refine AWo.nil ?_
  refine AW.seq ?_
  refine AW.cond rfl (fun h12 => ?_) (fun h12 => ?_)
  · have hlt : i < cs.length := by have := of_decide_eq_true h12; omega
    obtain ⟨x, he⟩ : ∃ x, cs[i]? = some x := ⟨cs[i], List.getElem?_eq_getElem hlt⟩
    obtain ⟨n1, p1, r1, b1, rfl⟩ := hform x (List.mem_of_getElem? he)
    have hne : ¬ n1 = nm := hno i hlt _ he _ _ _ _ rfl
    refine AW.skip ?_
    refine AW.seq ?_
    refine AW.block ?_
    refine AW.seq ?_
    refine AW.region ?_
    refine AWo.go (f := 0) hev (d_indexT rfl rfl ty34 rfl ty44 he rfl) ?_
    refine AWo.go (f := 0) hev (by first | exact d_loadT rfl (ld ty44 rfl rfl) | exact d_load rfl (ld ty44 rfl rfl)) ?_
    refine AWo.go (f := 0) hev (d_alloc ty44 rfl rfl) ?_
    refine AWo.go0 (f := 0) hev (d_store rfl rfl (stt ty44 rfl rfl)) ?_
    refine AWo.nil ?_
    refine AW.seq ?_
    refine AW.region ?_
    refine AWo.go (f := 0) hev (d_fieldAddr rfl fo44_0 rfl) ?_
    refine AWo.go (f := 0) hev (by first | exact d_loadT rfl (ld ty9 rfl rfl) | exact d_load rfl (ld ty9 rfl rfl)) ?_
    refine AWo.go (f := 0) hev (d_moveT rfl) ?_
    refine AWo.go (f := 0) hev (d_eqS rfl rfl) ?_
    refine AWo.nil ?_
    refine AW.cond rfl (fun h => absurd h (by simpa using hne)) (fun h => ?_)
    refine AW.skip ?_
    refine AW.region ?_
    refine AWo.go (f := 0) hev (d_add64 rfl rfl (by omega) (by omega)) ?_
    refine AWo.go (f := 0) hev (d_moveT rfl) ?_
    refine AWo.nil ?_
    exact ⟨i + 1, hlt, Nat.sub_lt_sub_left hlt (Nat.lt_succ_self i), Re.sq [.loc [0]] ⟨rfl, rfl, rfl, rfl, rfl, trivial⟩ ⟨⟨.loc [0], _, rfl, rfl, .inl rfl⟩, trivial⟩ (by decide) rfl rfl (by decide)⟩
  · have hie : i = cs.length := by have := of_decide_eq_false h12; omega
    subst hie
    skip
    refine AW.exit ?_
    refine AW.seq ?_
    refine AW.region ?_
    refine AWo.go (f := 0) hev (d_build rfl bl44 rfl rfl) ?_
    refine AWo.go0 (f := 0) hev (d_store rfl rfl (stt ty44 rfl rfl)) ?_
    refine AWo.go (f := 0) hev (d_assignT rfl) ?_
    refine AWo.nil ?_
    refine AW.ret ?_
    exact .inl (fin_data rfl rfl)

theorem action_0 {m : Int} (ev : CallF) (hev : CallOk (cf m) ev) (ts cs : List Tree) (nm : List UInt8) (hl : cs.length ≤ 4194304) (hform : ∀ x ∈ cs, ∃ nm p r b, x = .agg [.str nm, .sl p, .sl r, .sl b]) (p : Nat) (ps rs : List Tree) (hp : cs[p]? = some (.agg [.str nm, .sl ps, .sl rs, .sl []])) (hno : ∀ i, i < p → ∀ x, cs[i]? = some x → ∀ n1 p1 r1 b1, x = .agg [.str n1, .sl p1, .sl r1, .sl b1] → ¬ n1 = nm)
    (hcp : ev 17 [.t (.sl ps)] [] = some (.ret (.t (.sl ps)) [] [])) (hcr : ev 17 [.t (.sl rs)] [] = some (.ret (.t (.sl rs)) [] [])) (hca : ev 18 [.t (.sl [])] [] = some (.ret (.t (.sl [])) [] [])) :
    CallRel (cf m) 9 [.t (.agg [.sl ts, .sl cs]), .t (.str nm)] [] (.ret (.t (.tup [.agg [.str nm, .sl ps, .sl rs, .sl []], .int .i64 0])) [] []) := by
  refine fn_start2 34 2 Tryz.func9 rfl (by decide) rfl rfl (by decide) ?_
  refine AW.seq ?_
  refine AW.region ?_
  refine AWo.go (f := 0) hev (d_box rfl rfl) ?_
  refine AWo.go (f := 0) hev (d_alloc ty44 rfl rfl) ?_
  refine AWo.go (f := 0) hev (d_assignT rfl) ?_
  refine AWo.nil ?_
  refine AW.seq ?_
  refine AW.seq ?_
  refine AW.region ?_
  refine AWo.go (f := 0) hev (d_fieldAddr rfl fo36_1 rfl) ?_
  refine AWo.go (f := 0) hev (by first | exact d_loadT rfl (ld ty34 rfl rfl) | exact d_load rfl (ld ty34 rfl rfl)) ?_
  refine AWo.go (f := 0) hev (by first | exact d_lenT rfl ty34 rfl | exact d_lenR rfl ty34 rfl | exact d_lenN rfl ty34 rfl | exact d_lenG rfl ty34 rfl) ?_
  refine AWo.go (f := 0) hev (d_moveT rfl) ?_
  refine AWo.nil ?_
  refine AW.block ?_
  refine AW.loop (α := Nat) (fun i => ⟨frm 34 [(1, .t (.str nm)), (4, .ptr (.loc [0]) 0), (9, .t (.sl cs)), (10, .t (.int .i64 cs.length)), (11, .t (.int .i64 i))], [(.loc [0], .cells 44 [.t (.str []), .nils, .nils, .nils])], 1⟩) (fun i => i ≤ p) (fun i => p - i) 0 (Re.sq [.loc [1]] ⟨rfl, rfl, rfl, rfl, rfl, trivial⟩ ⟨⟨.loc [1], _, rfl, rfl, .inl rfl⟩, trivial⟩ (by decide) rfl rfl (by decide)) (Nat.zero_le _) (fun i hi => ?_)
  refine AW.seq ?_
  refine AW.region ?_
  refine AWo.go (f := 0) hev (d_ltI rfl rfl) ?_
  refine AWo.nil ?_
  refine AW.seq ?_
  refine AW.cond rfl (fun h12 => ?_) (fun h => absurd h (by have := (List.getElem?_eq_some_iff.1 hp).1; simp; omega))
  have hpl := (List.getElem?_eq_some_iff.1 hp).1
  by_cases hip : i = p
  · subst hip
    refine AW.skip ?_
    refine AW.seq ?_
    refine AW.block ?_
    refine AW.seq ?_
    refine AW.region ?_
    refine AWo.go (f := 0) hev (d_indexT rfl rfl ty34 rfl ty44 hp rfl) ?_
    refine AWo.go (f := 0) hev (by first | exact d_loadT rfl (ld ty44 rfl rfl) | exact d_load rfl (ld ty44 rfl rfl)) ?_
    refine AWo.go (f := 0) hev (d_alloc ty44 rfl rfl) ?_
    refine AWo.go0 (f := 0) hev (d_store rfl rfl (stt ty44 rfl rfl)) ?_
    refine AWo.nil ?_
    refine AW.seq ?_
    refine AW.region ?_
    refine AWo.go (f := 0) hev (d_fieldAddr rfl fo44_0 rfl) ?_
    refine AWo.go (f := 0) hev (by first | exact d_loadT rfl (ld ty9 rfl rfl) | exact d_load rfl (ld ty9 rfl rfl)) ?_
    refine AWo.go (f := 0) hev (d_moveT rfl) ?_
    refine AWo.go (f := 0) hev (d_eqS0 rfl rfl) ?_
    refine AWo.nil ?_
    refine AW.cond rfl (fun h => ?_) (fun h => absurd h (by decide))
    refine AW.seq ?_
    refine AW.draw (f := 0) orders hev ?_
    refine AWd.go rfl (d_fieldAddr rfl fo44_1 rfl) ?_
    refine AWd.go rfl ((by first | exact d_loadT rfl (ld ty38 rfl rfl) | exact d_load rfl (ld ty38 rfl rfl))) ?_
    refine AWd.go rfl (d_callT (rh1 rfl) hcp) ?_
    refine AWd.go rfl (d_fieldAddr rfl fo44_2 rfl) ?_
    refine AWd.go rfl ((by first | exact d_loadT rfl (ld ty38 rfl rfl) | exact d_load rfl (ld ty38 rfl rfl))) ?_
    refine AWd.go rfl (d_callT (rh1 rfl) hcr) ?_
    refine AWd.go rfl (d_fieldAddr rfl fo44_3 rfl) ?_
    refine AWd.go rfl ((by first | exact d_loadT rfl (ld ty24 rfl rfl) | exact d_load rfl (ld ty24 rfl rfl))) ?_
    refine AWd.go rfl (d_callT (rh1 rfl) hca) ?_
    refine AWd.go rfl (d_fieldAddr rfl fo44_1 rfl) ?_
    refine AWd.go0 rfl (d_store rfl rfl (stt ty38 rfl rfl)) ?_
    refine AWd.go rfl (d_fieldAddr rfl fo44_2 rfl) ?_
    refine AWd.go0 rfl (d_store rfl rfl (stt ty38 rfl rfl)) ?_
    refine AWd.go rfl (d_fieldAddr rfl fo44_3 rfl) ?_
    refine AWd.go0 rfl (d_store rfl rfl (stt ty24 rfl rfl)) ?_
    refine AWd.nil ⟨rfl, rfl, ?_⟩
    refine AW.seq ?_
    refine AW.region ?_
    refine AWo.go (f := 0) hev (by first | exact d_loadT rfl (ld ty44 rfl rfl) | exact d_load rfl (ld ty44 rfl rfl)) ?_
    refine AWo.go0 (f := 0) hev (d_store rfl rfl (stt ty44 rfl rfl)) ?_
    refine AWo.go (f := 0) hev (d_assignT rfl) ?_
    refine AWo.nil ?_
    refine AW.ret ?_
    exact .inl (fin_data rfl rfl)
  · have hlt : i < p := by omega
    obtain ⟨x, he⟩ : ∃ x, cs[i]? = some x := ⟨cs[i]'(by have := (List.getElem?_eq_some_iff.1 hp).1; omega), List.getElem?_eq_getElem _⟩
    obtain ⟨n1, p1, r1, b1, rfl⟩ := hform x (List.mem_of_getElem? he)
    have hne : ¬ n1 = nm := hno i hlt _ he _ _ _ _ rfl
    refine AW.skip ?_
    refine AW.seq ?_
    refine AW.block ?_
    refine AW.seq ?_
    refine AW.region ?_
    refine AWo.go (f := 0) hev (d_indexT rfl rfl ty34 rfl ty44 he rfl) ?_
    refine AWo.go (f := 0) hev (by first | exact d_loadT rfl (ld ty44 rfl rfl) | exact d_load rfl (ld ty44 rfl rfl)) ?_
    refine AWo.go (f := 0) hev (d_alloc ty44 rfl rfl) ?_
    refine AWo.go0 (f := 0) hev (d_store rfl rfl (stt ty44 rfl rfl)) ?_
    refine AWo.nil ?_
    refine AW.seq ?_
    refine AW.region ?_
    refine AWo.go (f := 0) hev (d_fieldAddr rfl fo44_0 rfl) ?_
    refine AWo.go (f := 0) hev (by first | exact d_loadT rfl (ld ty9 rfl rfl) | exact d_load rfl (ld ty9 rfl rfl)) ?_
    refine AWo.go (f := 0) hev (d_moveT rfl) ?_
    refine AWo.go (f := 0) hev (d_eqS rfl rfl) ?_
    refine AWo.nil ?_
    refine AW.cond rfl (fun h => absurd h (by simpa using hne)) (fun h => ?_)
    refine AW.skip ?_
    refine AW.region ?_
    refine AWo.go (f := 0) hev (d_add64 rfl rfl (by omega) (by omega)) ?_
    refine AWo.go (f := 0) hev (d_moveT rfl) ?_
    refine AWo.nil ?_
    exact ⟨i + 1, hlt, Nat.sub_lt_sub_left hlt (Nat.lt_succ_self i), Re.sq [.loc [0]] ⟨rfl, rfl, rfl, rfl, rfl, trivial⟩ ⟨⟨.loc [0], _, rfl, rfl, .inl rfl⟩, trivial⟩ (by decide) rfl rfl (by decide)⟩

theorem action_1 {m : Int} (ev : CallF) (hev : CallOk (cf m) ev) (ts cs : List Tree) (nm : List UInt8) (hl : cs.length ≤ 4194304) (hform : ∀ x ∈ cs, ∃ nm p r b, x = .agg [.str nm, .sl p, .sl r, .sl b]) (p : Nat) (ps rs bs : List Tree) (hp : cs[p]? = some (.agg [.str nm, .sl ps, .sl rs, .sl bs])) (hno : ∀ i, i < p → ∀ x, cs[i]? = some x → ∀ n1 p1 r1 b1, x = .agg [.str n1, .sl p1, .sl r1, .sl b1] → ¬ n1 = nm)
    (hcp : ev 17 [.t (.sl ps)] [] = some (.ret (.t (.sl ps)) [] [])) (hcr : ev 17 [.t (.sl rs)] [] = some (.ret (.t (.sl rs)) [] [])) (hca : ev 18 [.t (.sl bs)] [] = some (.ret (.ref (.loc [0]) 0 bs.length) [] [(.loc [0], .arr (31, true) 5 false ((flat bs).map .t))])) :
    CallRel (cf m) 9 [.t (.agg [.sl ts, .sl cs]), .t (.str nm)] [] (.ret (.tup [.agg [.t (.str nm), .t (.sl ps), .t (.sl rs), .ref (.loc [18, 0]) 0 bs.length], .t (.int .i64 0)]) [] [(.loc [18, 0], .arr (31, true) 5 false ((flat bs).map .t))]) := by
  refine fn_start2 34 2 Tryz.func9 rfl (by decide) rfl rfl (by decide) ?_
  refine AW.seq ?_
  refine AW.region ?_
  refine AWo.go (f := 0) hev (d_box rfl rfl) ?_
  refine AWo.go (f := 0) hev (d_alloc ty44 rfl rfl) ?_
  refine AWo.go (f := 0) hev (d_assignT rfl) ?_
  refine AWo.nil ?_
  refine AW.seq ?_
  refine AW.seq ?_
  refine AW.region ?_
  refine AWo.go (f := 0) hev (d_fieldAddr rfl fo36_1 rfl) ?_
  refine AWo.go (f := 0) hev (by first | exact d_loadT rfl (ld ty34 rfl rfl) | exact d_load rfl (ld ty34 rfl rfl)) ?_
  refine AWo.go (f := 0) hev (by first | exact d_lenT rfl ty34 rfl | exact d_lenR rfl ty34 rfl | exact d_lenN rfl ty34 rfl | exact d_lenG rfl ty34 rfl) ?_
  refine AWo.go (f := 0) hev (d_moveT rfl) ?_
  refine AWo.nil ?_
  refine AW.block ?_
  refine AW.loop (α := Nat) (fun i => ⟨frm 34 [(1, .t (.str nm)), (4, .ptr (.loc [0]) 0), (9, .t (.sl cs)), (10, .t (.int .i64 cs.length)), (11, .t (.int .i64 i))], [(.loc [0], .cells 44 [.t (.str []), .nils, .nils, .nils])], 1⟩) (fun i => i ≤ p) (fun i => p - i) 0 (Re.sq [.loc [1]] ⟨rfl, rfl, rfl, rfl, rfl, trivial⟩ ⟨⟨.loc [1], _, rfl, rfl, .inl rfl⟩, trivial⟩ (by decide) rfl rfl (by decide)) (Nat.zero_le _) (fun i hi => ?_)
  refine AW.seq ?_
  refine AW.region ?_
  refine AWo.go (f := 0) hev (d_ltI rfl rfl) ?_
  refine AWo.nil ?_
  refine AW.seq ?_
  refine AW.cond rfl (fun h12 => ?_) (fun h => absurd h (by have := (List.getElem?_eq_some_iff.1 hp).1; simp; omega))
  have hpl := (List.getElem?_eq_some_iff.1 hp).1
  by_cases hip : i = p
  · subst hip
    refine AW.skip ?_
    refine AW.seq ?_
    refine AW.block ?_
    refine AW.seq ?_
    refine AW.region ?_
    refine AWo.go (f := 0) hev (d_indexT rfl rfl ty34 rfl ty44 hp rfl) ?_
    refine AWo.go (f := 0) hev (by first | exact d_loadT rfl (ld ty44 rfl rfl) | exact d_load rfl (ld ty44 rfl rfl)) ?_
    refine AWo.go (f := 0) hev (d_alloc ty44 rfl rfl) ?_
    refine AWo.go0 (f := 0) hev (d_store rfl rfl (stt ty44 rfl rfl)) ?_
    refine AWo.nil ?_
    refine AW.seq ?_
    refine AW.region ?_
    refine AWo.go (f := 0) hev (d_fieldAddr rfl fo44_0 rfl) ?_
    refine AWo.go (f := 0) hev (by first | exact d_loadT rfl (ld ty9 rfl rfl) | exact d_load rfl (ld ty9 rfl rfl)) ?_
    refine AWo.go (f := 0) hev (d_moveT rfl) ?_
    refine AWo.go (f := 0) hev (d_eqS0 rfl rfl) ?_
    refine AWo.nil ?_
    refine AW.cond rfl (fun h => ?_) (fun h => absurd h (by decide))
    refine AW.seq ?_
    refine AW.draw (f := 0) orders hev ?_
    refine AWd.go rfl (d_fieldAddr rfl fo44_1 rfl) ?_
    refine AWd.go rfl ((by first | exact d_loadT rfl (ld ty38 rfl rfl) | exact d_load rfl (ld ty38 rfl rfl))) ?_
    refine AWd.go rfl (d_callT (rh1 rfl) hcp) ?_
    refine AWd.go rfl (d_fieldAddr rfl fo44_2 rfl) ?_
    refine AWd.go rfl ((by first | exact d_loadT rfl (ld ty38 rfl rfl) | exact d_load rfl (ld ty38 rfl rfl))) ?_
    refine AWd.go rfl (d_callT (rh1 rfl) hcr) ?_
    refine AWd.go rfl (d_fieldAddr rfl fo44_3 rfl) ?_
    refine AWd.go rfl ((by first | exact d_loadT rfl (ld ty24 rfl rfl) | exact d_load rfl (ld ty24 rfl rfl))) ?_
    refine AWd.go rfl (d_callN (rh1 rfl) hca rfl news_row) ?_
    refine AWd.go rfl (d_fieldAddr rfl fo44_1 rfl) ?_
    refine AWd.go0 rfl (d_store rfl rfl (stt ty38 rfl rfl)) ?_
    refine AWd.go rfl (d_fieldAddr rfl fo44_2 rfl) ?_
    refine AWd.go0 rfl (d_store rfl rfl (stt ty38 rfl rfl)) ?_
    refine AWd.go rfl (d_fieldAddr rfl fo44_3 rfl) ?_
    refine AWd.go0 rfl (d_store rfl rfl (stt ty24 rfl rfl)) ?_
    refine AWd.nil ⟨rfl, rfl, ?_⟩
    refine AW.seq ?_
    refine AW.region ?_
    refine AWo.go (f := 0) hev (by first | exact d_loadT rfl (ld ty44 rfl rfl) | exact d_load rfl (ld ty44 rfl rfl)) ?_
    refine AWo.go0 (f := 0) hev (d_store rfl rfl (stt ty44 rfl rfl)) ?_
    refine AWo.go (f := 0) hev (d_assignT rfl) ?_
    refine AWo.nil ?_
    refine AW.ret ?_
    exact .inr (fin_names rfl rfl rfl (reach_rowF rfl) rfl)
  · have hlt : i < p := by omega
    obtain ⟨x, he⟩ : ∃ x, cs[i]? = some x := ⟨cs[i]'(by have := (List.getElem?_eq_some_iff.1 hp).1; omega), List.getElem?_eq_getElem _⟩
    obtain ⟨n1, p1, r1, b1, rfl⟩ := hform x (List.mem_of_getElem? he)
    have hne : ¬ n1 = nm := hno i hlt _ he _ _ _ _ rfl
    refine AW.skip ?_
    refine AW.seq ?_
    refine AW.block ?_
    refine AW.seq ?_
    refine AW.region ?_
    refine AWo.go (f := 0) hev (d_indexT rfl rfl ty34 rfl ty44 he rfl) ?_
    refine AWo.go (f := 0) hev (by first | exact d_loadT rfl (ld ty44 rfl rfl) | exact d_load rfl (ld ty44 rfl rfl)) ?_
    refine AWo.go (f := 0) hev (d_alloc ty44 rfl rfl) ?_
    refine AWo.go0 (f := 0) hev (d_store rfl rfl (stt ty44 rfl rfl)) ?_
    refine AWo.nil ?_
    refine AW.seq ?_
    refine AW.region ?_
    refine AWo.go (f := 0) hev (d_fieldAddr rfl fo44_0 rfl) ?_
    refine AWo.go (f := 0) hev (by first | exact d_loadT rfl (ld ty9 rfl rfl) | exact d_load rfl (ld ty9 rfl rfl)) ?_
    refine AWo.go (f := 0) hev (d_moveT rfl) ?_
    refine AWo.go (f := 0) hev (d_eqS rfl rfl) ?_
    refine AWo.nil ?_
    refine AW.cond rfl (fun h => absurd h (by simpa using hne)) (fun h => ?_)
    refine AW.skip ?_
    refine AW.region ?_
    refine AWo.go (f := 0) hev (d_add64 rfl rfl (by omega) (by omega)) ?_
    refine AWo.go (f := 0) hev (d_moveT rfl) ?_
    refine AWo.nil ?_
    exact ⟨i + 1, hlt, Nat.sub_lt_sub_left hlt (Nat.lt_succ_self i), Re.sq [.loc [0]] ⟨rfl, rfl, rfl, rfl, rfl, trivial⟩ ⟨⟨.loc [0], _, rfl, rfl, .inl rfl⟩, trivial⟩ (by decide) rfl rfl (by decide)⟩
end
end Go.Proofs.YtbahblehihbpkaaGreatDoor.w
