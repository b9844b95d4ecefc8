/- Seat r3: 'lives()' in any world. -/
import Derived.Test.YtnehabngggljlaaGreatDoorJ
import Derived.Below
import Derived.Test.YtnehabngggljlaaGreatDoorC
import Derived.Test.YtnehabngggljlaaGreatDoorRows
import Derived.Lib.LaidU8
import Derived.LaidSub
import Derived.Test.YtnehabngggljlaaGreatDoorD
import Derived.ChangeArms
import Derived.Test.YtnehabngggljlaaGreatDoorShelf
import Derived.Test.YtnehabngggljlaaGreatDoorCards
import Derived.Test.YtnehabngggljlaaGreatDoorTie
import Derived.WalkKit
import Derived.ProofKit
import Derived.OpenShut
import Derived.Carry
import Derived.Deep.DeepHandedRow
import Derived.Deep.DeepWitnessRowRef
namespace Go.Proofs.YtnehabngggljlaaGreatDoor.live
open Go Go.Abs Go.RowKit

/-- a table of numbers lies there -/
def Lies (w : World) (g : Nat) (tab : List Tree) : Prop := ∀ (j : Nat) c, tab[j]? = some c → ∃ k n, c = .int k n ∧ w.cell? ⟨g, j, none⟩ = some (.int k n)

/-- all that a world has is data -/
noncomputable def gh (w : World) : Gh := {
  F := fun b o => w.cell? ⟨b, o, none⟩
  mu := fun _ => 0
  arr := fun _ => none
  dom := fun _ => False }

theorem gh_wf (w : World) : WF (gh w) w := by
  refine ⟨fun b o v h => ?_, fun _ _ h => h.elim, fun _ h => h.elim⟩
  have h : w.cell? ⟨b, o, none⟩ = some v := h
  unfold World.cell? at h
  simp only at h
  split at h
  · rename_i c e fr hh
    exact ⟨c, e, fr, hh, by simpa using h⟩
  · cases h

theorem en4 (args : Array Value) (w : World) : (callFunc 4 args).run Tryz.prog w = .ok (.enter 4 args) w := en 4 Tryz.f4 Tryz.func4 (by kernel_rfl) _ rfl args w

theorem lies_glob {w : World} {g : Nat} {tab : List Tree} (h : Lies w g tab) : ∃ vals : Nat → Value, (∀ (j : Nat) c, tab[j]? = some c → (gh w).F g (0 + j) = some (vals j)) ∧ ∀ (j : Nat) c, tab[j]? = some c → VT (gh w).F c (vals j) := by
  refine ⟨fun j => (w.cell? ⟨g, j, none⟩).getD undef, fun j c hc => ?_, fun j c hc => ?_⟩
  · obtain ⟨k, n, rfl, hcell⟩ := h j c hc
    show w.cell? ⟨g, 0 + j, none⟩ = _
    simp only [Nat.zero_add, hcell, Option.getD_some]
  · obtain ⟨k, n, rfl, hcell⟩ := h j c hc
    simp only [hcell, Option.getD_some]
    exact .int k n

theorem lives (w : World) (m : Int) (h0 : Lies w 0 tabFirst) (h1 : Lies w 1 tabAccept) (h2 : Lies w 2 tabAscii) (h4 : w.cell? ⟨4, 0, none⟩ = some (.int .i64 m)) :
    Calls Tryz.prog 4 #[] w fun e w' => e = .returned (.bool true) ∧ Below w.heap.size w w' := by
  have hr := isYes_eq (yes4 m)
  rw [evalF_eq] at hr
  have hg : GlobR (cfg m) (gh w) := by
    intro g cs hcs
    unfold cfg at hcs
    simp only at hcs
    split at hcs <;> first
      | (obtain rfl := Option.some.inj hcs
         first
          | exact lies_glob h0
          | exact lies_glob h1
          | exact lies_glob h2
          | exact lies_glob (g := 4) (tab := [.int .i64 m]) (fun j c hc => by
              cases j with
              | zero => simp at hc; subst hc; exact ⟨_, _, rfl, h4⟩
              | succ j => simp at hc))
      | cases hcs
  have := evalN_ok (orders m) (ext3_ok m) 300 4 [] [] _ hr (gh w) w [] (gh_wf w) hg ⟨fun i hi => by simp at hi, fun _ h => h⟩ (fun k o hk => by simp [argHeap, Heap.get] at hk) (VRs.nil _)
  rcases this with ⟨_, hc⟩ | ⟨v, w', hc, _⟩
  · refine Calls.mono hc ?_
    rintro e w' ⟨x, G', rfl, hst, _, _, _, hx⟩
    have e1 : x = .bool true := by cases hx with | t _ _ h => cases h; rfl
    subst e1
    exact ⟨rfl, ⟨hst.os, hst.tape, hst.output, hst.size, fun k hk => (hst.blocks k hk (fun _ _ h => h.elim)).1⟩⟩
  · have h6 := en4 #[] w
    rw [show Sem.run Tryz.prog (callFunc 4 #[]) w = .ok (.value v) w' from hc] at h6
    cases h6

#print axioms lives
end Go.Proofs.YtnehabngggljlaaGreatDoor.live

namespace Go.Proofs.YtnehabngggljlaaGreatDoor.live
open Go Go.Abs Go.RowKit
set_option maxRecDepth 100000

/-- a list of numbers -/
def isNums (ts : List Tree) : Bool := ts.all fun | .int _ _ => true | _ => false

theorem lies_of {w : World} {n : String} {d : DataW Unit} {g t : Nat} {S : List TypeId} (hS : plainTypes Tryz.prog S = true) (hg : Tryz.prog.globalNamed n = some g) (ht : (Tryz.prog.globals[g]?).map (·.type) = some t) (hm : S.contains t = true)
    {tab : List Tree} (hd : cellsD d = tab) (hi : isNums tab = true) (h : Lib.VarReads Tryz.prog w n d) : Lies w g tab := by
  obtain ⟨g', t', cs, fuel, p, h1, h2, h3, h4⟩ := h
  obtain rfl := Option.some.inj (hg.symm.trans h1)
  obtain rfl := Option.some.inj (ht.symm.trans h2)
  obtain ⟨⟨hlen, hall⟩, _⟩ := trod_good hS fuel t cs.toList _ (by simpa using hm) h4
  subst hd
  intro j c hc
  have hj := (List.getElem?_eq_some_iff.1 hc).1
  have hcell := World.var?_cell hg h3 j
  obtain ⟨v, hv⟩ : ∃ v, cs.toList[j]? = some v := ⟨_, List.getElem?_eq_getElem (by rw [hlen]; exact hj)⟩
  have hvt := hall j c v hc hv
  have hn := List.all_eq_true.1 hi c (List.mem_of_getElem? hc)
  cases c with
  | int k n =>
    cases hvt
    exact ⟨k, n, rfl, by rw [hcell]; simpa using hv⟩
  | _ => cases hn

theorem plainTabs : plainTypes Tryz.prog [161, 5, 164, 163] = true := by kernel_rfl
theorem noHandles : (Rows.typesUidsUptoRow.laid.all fun x => x.2.handleName?.isNone) = true := by kernel_rfl
theorem cellsFirst : cellsD Rows.laid_unicode_utf8_first = tabFirst := by kernel_rfl
theorem cellsAccept : cellsD (Rows.laid_unicode_utf8_acceptRanges : DataW Unit) = tabAccept := by kernel_rfl
theorem cellsAscii : cellsD (Rows.laid_strings_asciiSpace : DataW Unit) = tabAscii := by kernel_rfl

theorem laidMet_of {W : World} (h : laidMetH Tryz.prog Rows.typesUidsUptoRow.laid W) : laidMet Tryz.prog Rows.typesUidsUptoRow.laid W := by
  have h := (laidMetH_iff.1 h).1
  have e : Rows.typesUidsUptoRow.laid.filter (fun x => x.2.handleName?.isNone) = Rows.typesUidsUptoRow.laid := List.filter_eq_self.2 (List.all_eq_true.1 noHandles)
  rwa [e] at h

/-- the row's tables -/
theorem tables {W : World} (h : laidMetH Tryz.prog Rows.typesUidsUptoRow.laid W) : Lies W 0 tabFirst ∧ Lies W 1 tabAccept ∧ Lies W 2 tabAscii := by
  have h := laidMet_of h
  exact ⟨lies_of plainTabs (n := "unicode/utf8.first") (by kernel_rfl) (by kernel_rfl) (t := 161) (by kernel_rfl) cellsFirst (by kernel_rfl) (Lib.laidMet.reads h (by simp [Rows.typesUidsUptoRow])),
    lies_of plainTabs (n := "unicode/utf8.acceptRanges") (by kernel_rfl) (by kernel_rfl) (t := 164) (by kernel_rfl) cellsAccept (by kernel_rfl) (Lib.laidMet.reads h (by simp [Rows.typesUidsUptoRow])),
    lies_of plainTabs (n := "strings.asciiSpace") (by kernel_rfl) (by kernel_rfl) (t := 161) (by kernel_rfl) cellsAscii (by kernel_rfl) (Lib.laidMet.reads h (by simp [Rows.typesUidsUptoRow]))⟩

theorem block_lt {w : World} {g j : Nat} {v : Value} (h : w.cell? ⟨g, j, none⟩ = some v) : g < w.heap.size := by
  unfold World.cell? at h
  simp only at h
  split at h
  · rename_i hh
    exact (Array.getElem?_eq_some_iff.1 hh).1
  · cases h

/-- a table stays -/
theorem Lies.below {w w' : World} {g : Nat} {tab : List Tree} (h : Lies w g tab) (hb : Below w.heap.size w w') : Lies w' g tab := by
  intro j c hc
  obtain ⟨k, n, rfl, hcell⟩ := h j c hc
  exact ⟨k, n, rfl, by rw [hb.cell (p := ⟨g, j, none⟩) (block_lt hcell)]; exact hcell⟩
end Go.Proofs.YtnehabngggljlaaGreatDoor.live

namespace Go.Proofs.YtnehabngggljlaaGreatDoor.uids
open Go Go.Abs Go.RowKit
set_option linter.unusedVariables false
set_option maxRecDepth 100000

theorem plainExpr : plainTypes Tryz.prog [26, 22, 2, 9, 23, 24] = true := by kernel_rfl
theorem cells26 : Tryz.prog.cellsOf 26 = 6 := by kernel_rfl
theorem cells22 : Tryz.prog.cellsOf 22 = 1 := by kernel_rfl
theorem cells2 : Tryz.prog.cellsOf 2 = 1 := by kernel_rfl
theorem cells9 : Tryz.prog.cellsOf 9 = 1 := by kernel_rfl
theorem cells23 : Tryz.prog.cellsOf 23 = 1 := by kernel_rfl
theorem cells24 : Tryz.prog.cellsOf 24 = 1 := by kernel_rfl

theorem ExprN_mono : ∀ {n m : Nat} {T : Tree}, ExprN n T → n ≤ m → ExprN m T
  | 0, _, _, h, _ => h.elim
  | n + 1, m, T, ⟨op, nn, s, t, nm, ks, h1, h2, h3⟩, hle => by
    obtain ⟨m, rfl⟩ : ∃ k, m = k + 1 := ⟨m - 1, by omega⟩
    exact ⟨op, nn, s, t, nm, ks, h1, h2, fun x hx => ExprN_mono (h3 x hx) (by omega)⟩

section
variable {H : Type} {enc : TypeId × Value → H} {w : World} {base : Nat} {spare : Nat → Bool} {held : Bool}

/-- six fields -/
theorem open_expr {fuel : Nat} {cs : List Value} {x : DataW H × List MemPlace} (h : DataW.trod enc Tryz.prog w base spare held fuel 26 cs = some x) :
    ∃ n op nn s t v4 v5 d4 d5, fuel = n + 1 ∧ cs = [.int .u8 op, .int .i64 nn, .string s, .string t, v4, v5] ∧ x.1 = .agg [.lit (.int .u8 op), .lit (.int .i64 nn), .lit (.string s.data.toList), .lit (.string t.data.toList), d4, d5] ∧
      (∃ p, DataW.trod enc Tryz.prog w base spare held n 23 [v4] = some (d4, p)) ∧ ∃ p, DataW.trod enc Tryz.prog w base spare held n 24 [v5] = some (d5, p) := by
  obtain ⟨xs, n, rfl, rfl, hl, hxl, hf⟩ := DataW.trod_struct Tryz.underlying26 h
  rw [cells26] at hl
  match cs, hl with
  | [c0, c1, c2, c3, c4, c5], _ =>
    match xs, hxl with
    | [x0, x1, x2, x3, x4, x5], _ =>
      have f0 : DataW.trod enc Tryz.prog w base spare held n 22 (([c0, c1, c2, c3, c4, c5].drop 0).take (Tryz.prog.cellsOf 22)) = [x0, x1, x2, x3, x4, x5][0]? := hf 0 _ rfl
      rw [cells22] at f0
      replace f0 : DataW.trod enc Tryz.prog w base spare held n 22 [c0] = some x0 := f0
      have f1 : DataW.trod enc Tryz.prog w base spare held n 2 (([c0, c1, c2, c3, c4, c5].drop 1).take (Tryz.prog.cellsOf 2)) = [x0, x1, x2, x3, x4, x5][1]? := hf 1 _ rfl
      rw [cells2] at f1
      replace f1 : DataW.trod enc Tryz.prog w base spare held n 2 [c1] = some x1 := f1
      have f2 : DataW.trod enc Tryz.prog w base spare held n 9 (([c0, c1, c2, c3, c4, c5].drop 2).take (Tryz.prog.cellsOf 9)) = [x0, x1, x2, x3, x4, x5][2]? := hf 2 _ rfl
      rw [cells9] at f2
      replace f2 : DataW.trod enc Tryz.prog w base spare held n 9 [c2] = some x2 := f2
      have f3 : DataW.trod enc Tryz.prog w base spare held n 9 (([c0, c1, c2, c3, c4, c5].drop 3).take (Tryz.prog.cellsOf 9)) = [x0, x1, x2, x3, x4, x5][3]? := hf 3 _ rfl
      rw [cells9] at f3
      replace f3 : DataW.trod enc Tryz.prog w base spare held n 9 [c3] = some x3 := f3
      have f4 : DataW.trod enc Tryz.prog w base spare held n 23 (([c0, c1, c2, c3, c4, c5].drop 4).take (Tryz.prog.cellsOf 23)) = [x0, x1, x2, x3, x4, x5][4]? := hf 4 _ rfl
      rw [cells23] at f4
      replace f4 : DataW.trod enc Tryz.prog w base spare held n 23 [c4] = some x4 := f4
      have f5 : DataW.trod enc Tryz.prog w base spare held n 24 (([c0, c1, c2, c3, c4, c5].drop 5).take (Tryz.prog.cellsOf 24)) = [x0, x1, x2, x3, x4, x5][5]? := hf 5 _ rfl
      rw [cells24] at f5
      replace f5 : DataW.trod enc Tryz.prog w base spare held n 24 [c5] = some x5 := f5
      obtain ⟨op, e0, rfl, _⟩ := DataW.trod_int Tryz.underlying22 f0
      obtain ⟨nn, e1, rfl, _⟩ := DataW.trod_int Tryz.underlying2 f1
      obtain ⟨s, e2, rfl, _⟩ := DataW.trod_string Tryz.underlying9 f2
      obtain ⟨t, e3, rfl, _⟩ := DataW.trod_string Tryz.underlying9 f3
      simp only [List.cons.injEq, and_true] at e0 e1 e2 e3
      subst e0; subst e1; subst e2; subst e3
      exact ⟨n, op, nn, s, t, c4, c5, x4.1, x5.1, rfl, rfl, rfl, ⟨x4.2, f4⟩, ⟨x5.2, f5⟩⟩

theorem bulkAll_le : ∀ (l : List (DataW H)) (d : DataW H), d ∈ l → Rows.uptoBulk d ≤ Rows.uptoBulkAll l
  | [], d, h => by cases h
  | a :: r, d, h => by
    rcases List.mem_cons.1 h with rfl | h
    · simp [Rows.uptoBulkAll]
    · have := bulkAll_le r d h
      simp [Rows.uptoBulkAll]; omega

theorem bulk_pos : ∀ (d : DataW H), 1 ≤ Rows.uptoBulk d
  | .lit l => by cases l <;> simp [Rows.uptoBulk]
  | .nil => by simp [Rows.uptoBulk]
  | .ptr d => by simp [Rows.uptoBulk]
  | .slice es sp => by simp [Rows.uptoBulk]
  | .agg ps => by simp [Rows.uptoBulk]
  | .iface _ d => by simp [Rows.uptoBulk]
  | .map es => by simp [Rows.uptoBulk]
  | .held _ => by simp [Rows.uptoBulk]

theorem len_bulk : ∀ (l : List (DataW H)), l.length ≤ Rows.uptoBulkAll l
  | [] => by simp
  | a :: r => by
    have := len_bulk r
    have := bulk_pos a
    simp [Rows.uptoBulkAll]; omega

theorem flat_bulk (m : Nat) : ∀ (l : List (DataW H)), (∀ d ∈ l, (uidsN m (treeD d)).length ≤ 2 * Rows.uptoBulk d) → ((treesD l).flatMap (uidsN m)).length ≤ 2 * Rows.uptoBulkAll l
  | [], _ => by simp [treesD]
  | a :: r, h => by
    have h1 := flat_bulk m r (fun d hd => h d (List.mem_cons_of_mem _ hd))
    have h2 := h a (by simp)
    rw [treesD_map] at h1 ⊢
    simp only [List.map_cons, List.flatMap_cons, List.length_append, Rows.uptoBulkAll]
    omega

theorem kids_mem {S : List TypeId} {fuel : Nat} {v : Value} {d : DataW H} {p : List MemPlace} (h : DataW.trod enc Tryz.prog w base spare held fuel 24 [v] = some (d, p)) :
    ∃ es, treeD d = .sl (treesD es) ∧ Rows.uptoBulkAll es ≤ Rows.uptoBulk d ∧ ∀ e ∈ es, ∃ n cs p, n < fuel ∧ DataW.trod enc Tryz.prog w base spare held n 26 cs = some (e, p) := by
  rcases DataW.trod_slice Tryz.underlying24 h with ⟨_, h⟩ | ⟨a, len, cap, els, rest, n, rfl, _, hx, _, _, _, hlen, hel, _⟩
  · obtain ⟨rfl, rfl⟩ := Prod.mk.inj h
    exact ⟨[], rfl, by simp [Rows.uptoBulkAll], by simp⟩
  · obtain ⟨rfl, rfl⟩ := Prod.mk.inj hx
    refine ⟨els.map (·.1), rfl, by simp [Rows.uptoBulk]; omega, fun e he => ?_⟩
    obtain ⟨y, hy, rfl⟩ := List.mem_map.1 he
    obtain ⟨i, hi, hyi⟩ := List.getElem_of_mem hy
    have := hel i (by omega)
    rw [List.getElem?_eq_getElem hi, hyi, Option.bind_eq_some_iff] at this
    obtain ⟨cs, _, hc⟩ := this
    exact ⟨n, cs, y.2, by omega, hc⟩

theorem expr_of : ∀ (fuel : Nat) (cs : List Value) (x : DataW H × List MemPlace), DataW.trod enc Tryz.prog w base spare held fuel 26 cs = some x → Rows.uptoBulk x.1 ≤ 4194304 →
    ExprN fuel (treeD x.1) ∧ ∀ m, (uidsN m (treeD x.1)).length ≤ 2 * Rows.uptoBulk x.1 := by
  intro fuel
  induction fuel using Nat.strongRecOn with
  | _ fuel ih =>
    intro cs x h hb
    obtain ⟨n, op, nn, s, t, v4, v5, d4, d5, rfl, rfl, hx, ⟨p4, h4⟩, p5, h5⟩ := open_expr h
    obtain ⟨es, he, hbe, hes⟩ := kids_mem (S := []) h5
    have hnm : ∃ nm, treeD d4 = .sl nm := by
      rcases DataW.trod_slice Tryz.underlying23 h4 with ⟨_, h⟩ | ⟨a, len, cap, els, rest, n, rfl, _, hx, _⟩
      · obtain ⟨rfl, rfl⟩ := Prod.mk.inj h
        exact ⟨_, rfl⟩
      · obtain ⟨rfl, rfl⟩ := Prod.mk.inj hx
        exact ⟨_, rfl⟩
    obtain ⟨nm, hnm⟩ := hnm
    have hc4 : cellsD d4 = [.sl nm] := by
      cases d4 with
      | lit l => cases l <;> simp [treeD, leafD] at hnm
      | agg ps => simp [treeD] at hnm
      | _ => first | (simp [treeD] at hnm; done) | (simp only [treeD, cellsD] at hnm ⊢; rw [hnm])
    have hc5 : cellsD d5 = [.sl (treesD es)] := by
      cases d5 with
      | lit l => cases l <;> simp [treeD, leafD] at he
      | agg ps => simp [treeD] at he
      | _ => first | (simp [treeD] at he; done) | (simp only [treeD, cellsD] at he ⊢; rw [he])
    have hT : treeD x.1 = .agg [.int .u8 op, .int .i64 nn, .str s.data.toList, .str t.data.toList, .sl nm, .sl (treesD es)] := by
      rw [hx]
      simp [treeD, cellsDs, cellsD, hc4, hc5, leafD]
    have hbx : Rows.uptoBulk d5 + 4 ≤ Rows.uptoBulk x.1 := by
      rw [hx]; simp [Rows.uptoBulk, Rows.uptoBulkAll]; omega
    have hle := len_bulk es
    have hk : ∀ e ∈ es, ExprN n (treeD e) ∧ ∀ m, (uidsN m (treeD e)).length ≤ 2 * Rows.uptoBulk e := by
      intro e hm
      obtain ⟨k, cs, p, hk, ht⟩ := hes e hm
      have hbb := bulkAll_le es e hm
      obtain ⟨h1, h2⟩ := ih k (by omega) cs _ ht (by simp only; omega)
      exact ⟨ExprN_mono h1 (by omega), h2⟩
    refine ⟨?_, fun m => ?_⟩
    · rw [hT]
      refine ⟨op, nn, _, _, nm, treesD es, rfl, by rw [treesD_map, List.length_map]; omega, fun y hy => ?_⟩
      rw [treesD_map] at hy
      obtain ⟨e, hm, rfl⟩ := List.mem_map.1 hy
      exact (hk e hm).1
    · cases m with
      | zero => simp [uidsN]
      | succ m =>
        rw [hT]
        have hf := flat_bulk m es (fun d hd => (hk d hd).2 m)
        have : (uidsN (m + 1) (.agg [.int .u8 op, .int .i64 nn, .str s.data.toList, .str t.data.toList, .sl nm, .sl (treesD es)])).length ≤ 2 + ((treesD es).flatMap (uidsN m)).length := by
          simp only [uidsN]
          split <;> simp <;> omega
        omega
end
end Go.Proofs.YtnehabngggljlaaGreatDoor.uids

namespace Go.Proofs.YtnehabngggljlaaGreatDoor.uids
open Go Go.Abs Go.RowKit Go.ChangeShapes Go.WideShapes Go.ChangeAt
set_option linter.unusedVariables false
set_option maxRecDepth 100000

section
variable {H : Type} {enc : TypeId × Value → H} {P : Program}

/-- a call that leaves the old blocks as they were, and hands back what is told -/
theorem post_below {f : Func} {s : ChangeSpec} {apart fresh handsOn again : Bool} {W W' : World} {args : Array Value} {v : Value} {ds gs : List (DataW H)} {before pa pv : List MemPlace}
    (hW : DataW.Whole enc P f.params.toList s.vars apart W args.toList ds gs before)
    (hres : ∀ (b : Nat) (sp : Nat → Bool) (hd : Bool), DataW.TrodAll enc P W' b sp hd f.resultTypes.toList (v.resultList f.resultTypes.size) (s.fn H (ds ++ gs)).results [])
    (hargs : ∀ sp : Nat → Bool, (∀ p ∈ before, sp p.block = true) → DataW.TrodAll enc P W' 0 sp true f.params.toList args.toList (s.fn H (ds ++ gs)).args pa)
    (hvars : ∀ sp : Nat → Bool, (∀ p ∈ before, sp p.block = true) → DataW.TrodVars enc P W' sp s.vars (s.fn H (ds ++ gs)).vars pv)
    (hps : before = pa ++ pv) (hb : Below W.heap.size W W')
    (hok : ∀ (j : Nat) (t : TypeId) (r : Value), f.resultTypes[j]? = some t → (v.resultList f.resultTypes.size)[j]? = some r → Value.okWide P W' .any 0 t r) :
    s.post enc P f apart fresh handsOn again W args v W' := by
  have hlt : ∀ p ∈ before, p.block < W.heap.size := fun p hp => hW.lt p hp
  have hold : ∀ p ∈ before, (fun b => decide (b < W.heap.size)) p.block = true := fun p hp => by simpa using hlt p hp
  refine ⟨ds, gs, before, [], pa, pv, hW, hres _ _ _, hargs _ hold, hvars _ hold, World.keptBut_mono (fun p hp => ⟨hp, ?_⟩) (hb.frame (· ∈ before)), fun _ => ?_⟩
  · rw [hps, List.mem_append] at hp
    exact Or.inr hp
  · obtain ⟨_, _, _, _, _, hz, hn⟩ := hW
    refine ⟨hok, _, _, ([] ++ pa) ++ pv, ⟨[] ++ pa, pv, trodAll_append (hargs _ (fun _ _ => rfl)) (hres _ _ _), hvars _ (fun _ _ => rfl), rfl, ?_, ?_⟩, ?_⟩
    · intro b off hp
      have hm : MemPlace.cell b off ∈ before := by rw [hps]; simpa using hp
      rw [hb.frozen (p := ⟨b, off, none⟩) (hlt _ hm)]
      exact hz b off hm
    · intro ha
      have := hn ha
      rw [hps] at this
      simpa using this
    · intro p hp _
      rw [hps]
      simpa using hp
end

theorem own : ownKnob Tryz.prog.godebug = none := by kernel_rfl
theorem laidOut : laidOutB Tryz.prog = true := by kernel_rfl
theorem readable26 : Tryz.prog.readableRec 26 = true := by kernel_rfl
theorem row26 : 26 < Tryz.prog.types.size := by decide +kernel

/-- an argument, as the walk wants it -/
theorem open_arg {H : Type} {enc : TypeId × Value → H} {W : World} {v : Value} {d : DataW H} {p : List MemPlace} (h : DataW.Trod enc Tryz.prog W 0 (fun _ => true) true 26 v d p) (hb : Rows.uptoBulk d ≤ 1048576) :
    ∃ n o1 n1 s1 t1 p1 p2 l1 l2 c1 c2, v = .agg #[.int .u8 o1, .int .i64 n1, .string s1, .string t1, .slice p1 l1 c1, .slice p2 l2 c2] ∧ ExprN n (treeD d) ∧ (∀ m, (uidsN m (treeD d)).length ≤ 2097152) ∧ VT (ghOf W).F (treeD d) v := by
  obtain ⟨fuel, h⟩ := h
  obtain ⟨hex, hlen⟩ := expr_of fuel _ _ h (by simp only; omega)
  obtain ⟨hr, hcells⟩ := trod_good plainExpr fuel 26 _ _ (by simp) h
  obtain ⟨n, op, nn, s, t, v4, v5, d4, d5, rfl, hcs, hx, ⟨p4, h4⟩, p5, h5⟩ := open_expr h
  have hv : v = .agg #[.int .u8 op, .int .i64 nn, .string s, .string t, v4, v5] := by
    cases v <;> simp [Value.cells] at hcs
    simp [← hcs]
  subst hv
  have sl : ∀ {e : TypeId} {t : TypeId} {u : Value} {dd : DataW H} {pp : List MemPlace} {k : Nat}, Tryz.prog.underlying t = some (.slice e) → DataW.trod enc Tryz.prog W 0 (fun _ => true) true k t [u] = some (dd, pp) → ∃ a l c, u = .slice a l c := by
    intro e t u dd pp k ht hk
    rcases DataW.trod_slice ht hk with ⟨hu, _⟩ | ⟨a, len, cap, _, _, _, _, hu, _⟩
    · exact ⟨none, 0, 0, by simpa using hu⟩
    · exact ⟨some a, len, cap, by simpa using hu⟩
  obtain ⟨p1, l1, c1, rfl⟩ := sl Tryz.underlying23 h4
  obtain ⟨p2, l2, c2, rfl⟩ := sl Tryz.underlying24 h5
  refine ⟨_, op, nn, s, t, p1, p2, l1, l2, c1, c2, rfl, hex, fun m => by have := hlen m; simp only at this; omega, ?_⟩
  have hd : ∃ ts, treeD d = .agg ts ∧ ts = cellsD d := by
    have : d = .agg _ := hx
    subst this
    exact ⟨_, rfl, rfl⟩
  obtain ⟨ts, e1, e2⟩ := hd
  rw [e1, e2]
  exact VT.agg _ _ hr.1 hr.2

theorem contract (H : Type) (enc : TypeId × Value → H) (W : World) (base : Nat) (args : Array Value) (ds gs : List (DataW H)) (before : List MemPlace)
    (hW : DataW.Whole enc Tryz.prog Tryz.f3.params.toList Rows.typesUidsSpec.vars false W args.toList ds gs before) (hk : Rows.uptoSmall H (ds ++ gs) = true) (hL : laidMetH Tryz.prog Rows.typesUidsUptoRow.laid W) (hsh : W.ShapedOpen Tryz.prog) :
    Calls Tryz.prog 3 args W fun e W' => ∃ v, e = .returned v ∧ Rows.typesUidsSpec.post enc Tryz.prog Tryz.f3 false true false false W args v W' := by
  have hW' := hW
  obtain ⟨p, q, hA0, hV, rfl, hfz, hnd⟩ := hW
  have hA : DataW.TrodAll enc Tryz.prog W 0 (fun _ => true) true Tryz.f3.params.toList args.toList ds p := hA0
  rw [Tryz.params3] at hA
  obtain ⟨v0, v1, d0, d1, p0, p1, rfl, rfl, rfl, h0, h1⟩ := trodAll_two hA
  obtain ⟨rfl, rfl⟩ := trodVars_none hV
  clear hA0
  simp only [List.append_nil] at hW' hk
  have hbulk : Rows.uptoBulk d0 + (Rows.uptoBulk d1 + 0) ≤ 1048576 := of_decide_eq_true hk
  obtain ⟨m0, o1, n1, s1, t1, a1, a2, l1, l2, c1, c2, rfl, x0, y0, z0⟩ := open_arg h0 (by omega)
  obtain ⟨m1, o2, n2, s2, t2, a3, a4, l3, l4, c3, c4, rfl, x1, y1, z1⟩ := open_arg h1 (by omega)
  obtain ⟨b0, b1, b2⟩ := live.tables hL
  obtain ⟨m, hm⟩ := Tryz.laysM219.s1_3 W hsh
  have hlive : ∀ w, Below W.heap.size W w → Calls Tryz.prog 4 #[] w fun e w' => e = .returned (.bool true) ∧ Below w.heap.size w w' := fun w hw =>
    live.lives w m (b0.below hw) (b1.below hw) (b2.below hw) ((hw.cell (p := ⟨4, 0, none⟩) (live.block_lt hm)).trans hm)
  have hlt : ∀ x ∈ p0 ++ p1, x.block < W.heap.size := fun x hx => hW'.lt x hx
  refine (walk (m0 + m1) _ _ (ExprN_mono x0 (by omega)) (ExprN_mono x1 (by omega)) (y0 _) (y1 _) W _ _ _ _ _ _ _ _ _ _ _ _ _ _ _ _ _ _ _ _ z0 z1 hlive).mono fun e W' ⟨he, hb⟩ => ?_
  subst he
  exact ⟨_, rfl, post_below (pa := p0 ++ p1) (pv := []) hW' (fun _ _ _ => trodAll_cons_mk (shut_bool Tryz.underlying4 _) trodAll_mk0)
    (fun sp hs => by
      rw [Tryz.params3]
      exact trodAll_mk2 (WideElems.Trod_stays laidOut readable26 row26 h0 (fun x hx => hb.same (hlt x (by simp [hx]))) (fun x hx => hs x (by simp [hx])))
        (WideElems.Trod_stays laidOut readable26 row26 h1 (fun x hx => hb.same (hlt x (by simp [hx]))) (fun x hx => hs x (by simp [hx]))))
    (fun _ _ => rfl) (by simp) hb (ok_one (by kernel_rfl) rfl (okWide_bool_mk Tryz.underlying4 _))⟩
end Go.Proofs.YtnehabngggljlaaGreatDoor.uids
