/- The entities of an expression: types.Uids, types.kidUids. -/
import Derived.Test.YtnehabngggljlaaGreatDoorC
import Derived.Test.YtnehabngggljlaaGreatDoorChecked
import Derived.WalkKit
import Derived.ProofKit
import Derived.Below
import Derived.Laws.AppendOwn
import Derived.Deep.AppendLies
import Derived.Laws.OwnMore
import Derived.Deep.RegionHeld3
import Derived.Maps.AppendAt
import Derived.Laws.StructEq
namespace Go.Proofs.YtnehabngggljlaaGreatDoor.uids
open Go Go.Abs Go.RowKit
set_option linter.unusedVariables false
set_option maxRecDepth 100000

/-- an expression's tree, so deep at the most -/
def ExprN : Nat → Tree → Prop
  | 0, _ => False
  | n + 1, T => ∃ op nn s t nm ks, T = .agg [.int .u8 op, .int .i64 nn, .str s, .str t, .sl nm, .sl ks] ∧ ks.length ≤ 4194304 ∧ ∀ x ∈ ks, ExprN n x

/-- its entities' cells -/
def uidsN : Nat → Tree → List Value
  | 0, _ => []
  | n + 1, T => match T with
    | .agg [.int _ op, _, .str s, .str t, _, .sl ks] => (if op = 4 then [.string ⟨t.toArray⟩, .string ⟨s.toArray⟩] else []) ++ ks.flatMap (uidsN n)
    | _ => []

theorem info31 : (Tryz.prog.info? 31).map (fun i => (i.zero, i.size, i.bytes)) = some (some (.agg #[.string ByteArray.empty, .string ByteArray.empty]), 2, 32) := by kernel_rfl

/-- what a call hands back: nothing, or a row of its own -/
def Res (base : Nat) (w' : World) (r : Value) (us : List Value) : Prop :=
  (us = [] ∧ r = .slice none 0 0) ∨ ∃ k, 0 < k ∧ w'.ownsRow base 31 2 r k us

theorem owns_below {w w' : World} {base : Nat} {e : TypeId} {size : Nat} {v : Value} {n : Nat} {xs : List Value} (h : w.ownsRow base e size v n xs) (hb : Below w.heap.size w w') : w'.ownsRow base e size v n xs := by
  refine ⟨h.1, ?_⟩
  rcases h.2 with h0 | ⟨g, cap, cur, h1, h2, h3, h4⟩
  · exact .inl h0
  · exact .inr ⟨g, cap, cur, h1, h2, by rw [hb.block g (Array.getElem?_eq_some_iff.1 h3).1]; exact h3, h4⟩

theorem Res.below {base : Nat} {w w' : World} {r : Value} {us : List Value} (h : Res base w r us) (hb : Below w.heap.size w w') : Res base w' r us := by
  rcases h with h | ⟨k, hk, h⟩
  · exact .inl h
  · exact .inr ⟨k, hk, owns_below h hb⟩

/-- a kid's cells -/
theorem kid_cells {F : Froz} {ks : List Tree} {kv : Value} {i : Nat} {c0 c1 c2 c3 c4 c5 : Tree} (h : VT F (.sl ks) kv) (hx : ks[i]? = some (.agg [c0, c1, c2, c3, c4, c5])) :
    ∃ b o cap v0 v1 v2 v3 v4 v5, kv = .slice (some ⟨b, o, none⟩) ks.length cap ∧ VT F (.agg [c0, c1, c2, c3, c4, c5]) (.agg #[v0, v1, v2, v3, v4, v5]) ∧
      F b (o + i * 6) = some v0 ∧ F b (o + i * 6 + 1) = some v1 ∧ F b (o + i * 6 + 2) = some v2 ∧ F b (o + i * 6 + 3) = some v3 ∧ F b (o + i * 6 + 4) = some v4 ∧ F b (o + i * 6 + 5) = some v5 ∧
      VT F c0 v0 ∧ VT F c1 v1 ∧ VT F c2 v2 ∧ VT F c3 v3 ∧ VT F c4 v4 ∧ VT F c5 v5 := by
  obtain ⟨b, o, cap, esz, vals, hv, hl, hF, hT⟩ := h.sl_at hx
  have : esz = 6 := by rw [← hl]; rfl
  subst this
  refine ⟨b, o, cap, vals 0, vals 1, vals 2, vals 3, vals 4, vals 5, hv, ?_, hF 0 _ rfl, hF 1 _ rfl, hF 2 _ rfl, hF 3 _ rfl, hF 4 _ rfl, hF 5 _ rfl, hT 0 _ rfl, hT 1 _ rfl, hT 2 _ rfl, hT 3 _ rfl, hT 4 _ rfl, hT 5 _ rfl⟩
  refine VT.agg [c0, c1, c2, c3, c4, c5] [vals 0, vals 1, vals 2, vals 3, vals 4, vals 5] rfl ?_
  intro j c v hc hv
  match j, hc, hv with
  | 0, hc, hv => simp at hc hv; subst hc; subst hv; exact hT 0 _ rfl
  | 1, hc, hv => simp at hc hv; subst hc; subst hv; exact hT 1 _ rfl
  | 2, hc, hv => simp at hc hv; subst hc; subst hv; exact hT 2 _ rfl
  | 3, hc, hv => simp at hc hv; subst hc; subst hv; exact hT 3 _ rfl
  | 4, hc, hv => simp at hc hv; subst hc; subst hv; exact hT 4 _ rfl
  | 5, hc, hv => simp at hc hv; subst hc; subst hv; exact hT 5 _ rfl
  | j + 6, hc, hv => simp at hc

theorem exprN_shape {n : Nat} {x : Tree} (h : ExprN n x) : ∃ op nn s t nm ks, x = .agg [.int .u8 op, .int .i64 nn, .str s, .str t, .sl nm, .sl ks] := by
  cases n with
  | zero => exact h.elim
  | succ n => obtain ⟨op, nn, s, t, nm, ks, h, _, _⟩ := h; exact ⟨op, nn, s, t, nm, ks, h⟩

theorem sl_slice {F : Froz} {ks : List Tree} {kv : Value} (h : VT F (.sl ks) kv) : ∃ a cap, kv = .slice a ks.length cap := by
  cases h with
  | sl0 a cap => exact ⟨a, cap, rfl⟩
  | sl _ _ b o cap => exact ⟨_, cap, rfl⟩

theorem part_le (n : Nat) : ∀ (ks : List Tree) (i : Nat) (h : i < ks.length), (uidsN n ks[i]).length ≤ (ks.flatMap (uidsN n)).length
  | [], i, h => by simp at h
  | k :: r, 0, h => by simp
  | k :: r, i + 1, h => by
      have := part_le n r i (by simpa using h)
      simp
      simp at this
      omega

theorem take_le (n : Nat) : ∀ (ks : List Tree) (i : Nat), ((ks.take i).flatMap (uidsN n)).length ≤ (ks.flatMap (uidsN n)).length
  | [], i => by simp
  | k :: r, 0 => by simp
  | k :: r, i + 1 => by
      have := take_le n r i
      simp only [List.take_succ_cons, List.flatMap_cons, List.length_append]
      omega

theorem take_next (n : Nat) (ks : List Tree) (i : Nat) (h : i < ks.length) : (ks.take (i + 1)).flatMap (uidsN n) = (ks.take i).flatMap (uidsN n) ++ uidsN n ks[i] := by
  rw [← List.take_append_getElem h, List.flatMap_append, List.flatMap_cons, List.flatMap_nil, List.append_nil]

theorem uids_one : ∀ (n : Nat) (T : Tree) (u : Value), u ∈ uidsN n T → u.oneCell' = true
  | 0, T, u, h => by simp [uidsN] at h
  | n + 1, T, u, h => by
      unfold uidsN at h
      split at h
      · rcases List.mem_append.1 h with h | h
        · split at h
          · simp at h
            rcases h with rfl | rfl <;> rfl
          · cases h
        · obtain ⟨k, _, hk⟩ := List.mem_flatMap.1 h
          exact uids_one n k u hk
      · cases h

theorem row_cap {w : World} {base : Nat} {e : TypeId} {size g n cap : Nat} {xs : List Value} (h : w.ownsRow base e size (.slice (some ⟨g, 0, none⟩) n cap) n xs) : n ≤ cap := by
  rcases h.2 with ⟨h, _⟩ | ⟨g', cap', cur, h, _, _, h3, _⟩
  · cases h
  · cases h; exact h3

/-- the kids' walk, given the kid's -/
theorem kids (n : Nat) (ih : ∀ T, ExprN n T → ∀ W0 w v, Below W0.heap.size W0 w → VT (ghOf W0).F T v → (uidsN n T).length ≤ 4194304 →
      Calls Tryz.prog 5 #[v] w fun e w' => ∃ r, e = .returned r ∧ Res w.heap.size w' r (uidsN n T) ∧ Below w.heap.size w w')
    (ks : List Tree) (hkl : ks.length ≤ 4194304) (hks : ∀ x ∈ ks, ExprN n x) (W0 w : World) (op nn : Int) (s t : ByteArray) (nm kv : Value) (hW : Below W0.heap.size W0 w) (hkv : VT (ghOf W0).F (.sl ks) kv) (hlen : (ks.flatMap (uidsN n)).length ≤ 4194304) :
    Calls Tryz.prog 7 #[.agg #[.int .u8 op, .int .i64 nn, .string s, .string t, nm, kv]] w fun e w' => ∃ r, e = .returned r ∧ Res w.heap.size w' r (ks.flatMap (uidsN n)) ∧ Below w.heap.size w w' := by
  obtain ⟨i31, hi, hz0, hz1, hz2⟩ := info_parts info31
  obtain ⟨ka, kcap, rfl⟩ := sl_slice hkv
  go_enter Tryz.func7, Tryz.ntmps7
  go_wp2
  go_loopw [3, 9] (fun r j wr => ∃ i : Nat, i ≤ ks.length ∧ j = .int .i64 i ∧ Res w.heap.size wr r ((ks.take i).flatMap (uidsN n)) ∧ Below w.heap.size w wr)
    (fun _ j _ => ks.length - (intOf j).toNat)
  case atStart =>
    exact ⟨0, Nat.zero_le _, rfl, .inl ⟨by simp, rfl⟩, (Below.refl _ _).alloc (Nat.le_refl _) _⟩
  case round =>
    obtain ⟨i, hi', rfl, hres, hbl⟩ := hrel
    by_cases hik : i < ks.length
    · have hx : ks[i]? = some ks[i] := List.getElem?_eq_getElem hik
      obtain ⟨op', nn', s', t', nm', ks', hsh⟩ := exprN_shape (hks ks[i] (List.getElem_mem hik))
      have hx' := hx
      rw [hsh] at hx'
      obtain ⟨b, o, cap, v0, v1, v2, v3, v4, v5, hkv2, hT, f0, f1, f2, f3, f4, f5, t0, t1, t2, t3, t4, t5⟩ := kid_cells hkv hx'
      injection hkv2 with e1 e2 e3
      subst e1
      subst e3
      -- the kid's cells, in the world as it stands
      have hcell : ∀ q v, (ghOf W0).F b q = some v → wr.cell? ⟨b, q, none⟩ = some v := by
        intro q v hq
        have hq : W0.cell? ⟨b, q, none⟩ = some v := hq
        have hbW : b < W0.heap.size := by
          unfold World.cell? at hq
          simp only at hq
          split at hq
          · rename_i hh; exact (Array.getElem?_eq_some_iff.1 hh).1
          · cases hq
        have hw1 : w.cell? ⟨b, q, none⟩ = some v := by rw [hW.cell (p := ⟨b, q, none⟩) hbW]; exact hq
        rw [hbl.cell (p := ⟨b, q, none⟩) (Nat.lt_of_lt_of_le hbW hW.size)]
        exact hw1
      obtain ⟨a4, p4, rfl⟩ := sl_slice t4
      obtain ⟨a5, p5, rfl⟩ := sl_slice t5
      cases t0
      cases t1
      cases t2
      cases t3
      have g0 := hcell _ _ f0
      have g1 := hcell _ _ f1
      have g2 := hcell _ _ f2
      have g3 := hcell _ _ f3
      have g4 := hcell _ _ f4
      have g5 := hcell _ _ f5
      clear hcell f0 f1 f2 f3 f4 f5 t4 t5
      replace hT : Hid _ := hT
      have hl1 := part_le n ks i hik
      have hl2 := take_le n ks (i + 1)
      rw [take_next n ks i hik] at hl2
      rw [List.length_append] at hl2
      have hil : i < 4194304 := by omega
      go_wp2_with (go_at_call 5; fail)
      refine (ih ks[i] (hks _ (List.getElem_mem hik)) W0 _ _ ((hW.trans (hbl.mono hW.size)).alloc (Nat.le_trans hW.size hbl.size) _) (by rw [hsh]; exact hT) (by omega)).mono ?_
      rintro e w2 ⟨r', rfl, hr', hb2⟩
      have hbl2 : Below w.heap.size w w2 := (hbl.alloc hbl.size _).trans (hb2.mono (by simp; have := hbl.size; omega))
      have hsz2 : wr.heap.size + 1 ≤ w2.heap.size := by have := hb2.size; simpa using this
      replace hres := (show Res w.heap.size (wr.alloc _) u3 _ from hres.elim .inl fun ⟨k, hk, h⟩ => .inr ⟨k, hk, h.alloc _⟩).below hb2
      simp only []
      go_at_K
      rcases hr' with ⟨hu, rfl⟩ | ⟨k', hk', hown'⟩
      · -- nothing more
        rcases hres with ⟨hu3, rfl⟩ | ⟨k, hk, hown⟩
        · go_wp2
          go_roundw
          case rel => exact ⟨i + 1, by omega, by go_num, .inl ⟨by rw [take_next n ks i hik, hu3, hu]; rfl, rfl⟩, hbl2⟩
          case measure => simp [intOf]; omega
        · obtain ⟨g, cap3, rfl, hg1, hg2⟩ := hown.form hk
          have hkc := row_cap hown
          go_wp2
          go_roundw
          case rel => exact ⟨i + 1, by omega, by go_num, .inr ⟨k, hk, by rw [take_next n ks i hik, hu, List.append_nil]; exact hown⟩, hbl2⟩
          case measure => simp [intOf]; omega
      · obtain ⟨g', cap', rfl, hg1', hg2'⟩ := hown'.form hk'
        have hlen' := hown'.1
        have hcells := hown'.cells (g := g') rfl
        rcases hres with ⟨hu3, rfl⟩ | ⟨k, hk, hown⟩
        · go_wp2_with (at_builtin; refine wpList_append_own _ rfl _ _ 28 rfl w.heap.size 31 i31 (.agg #[.string ByteArray.empty, .string ByteArray.empty]) 2 32 Tryz.underlying28 hi hz0 hz1 hz2 rfl (by decide) _ 0 [] rfl (World.ownsRow_nil _ _ _ _) ⟨g', 0, none⟩ k' cap' (uidsN n ks[i]) rfl hlen' hcells ?c1 ?c2 ?c3 ?c4 ?_)
          case c1 =>
            intro u hu
            exact uids_one n _ u hu
          case c2 => unfold maxLen; omega
          case c3 => omega
          case c4 => have := hbl2.size; omega
          intro v' w3 hown3 hgrow _
          obtain ⟨g3, cap3', rfl, hg3, _⟩ := hown3.form (by omega)
          go_wp2
          go_roundw
          case rel => exact ⟨i + 1, by omega, by go_num, .inr ⟨0 + k', by omega, by rw [take_next n ks i hik, hu3, List.nil_append, hsh]; simpa using hown3⟩, hbl2.grown hgrow (by have := hbl2.size; omega) (fun j hj => by cases hj)⟩
          case measure => simp [intOf]; omega
        · obtain ⟨g, cap3, rfl, hg1, hg2⟩ := hown.form hk
          have hlen3 := hown.1
          go_wp2_with (at_builtin; refine wpList_append_own _ rfl _ _ 28 rfl w.heap.size 31 i31 (.agg #[.string ByteArray.empty, .string ByteArray.empty]) 2 32 Tryz.underlying28 hi hz0 hz1 hz2 rfl (by decide) _ k _ rfl hown ⟨g', 0, none⟩ k' cap' (uidsN n ks[i]) rfl hlen' hcells ?d1 ?d2 ?d3 ?d4 ?_)
          case d1 =>
            intro u hu
            exact uids_one n _ u hu
          case d2 => unfold maxLen; omega
          case d3 => omega
          case d4 => have := hbl2.size; omega
          intro v' w3 hown3 hgrow _
          obtain ⟨g3, cap3', rfl, hg3, _⟩ := hown3.form (by omega)
          go_wp2
          go_roundw
          case rel => exact ⟨i + 1, by omega, by go_num, .inr ⟨k + k', by omega, by rw [take_next n ks i hik, hsh]; exact hown3⟩, hbl2.grown hgrow (by have := hbl2.size; omega) (fun j hj => by cases hj; exact hg1)⟩
          case measure => simp [intOf]; omega
    · have hie : i = ks.length := by omega
      subst hie
      rw [List.take_length] at hres
      go_wp2
      go_ret
      exact ⟨_, rfl, hres, hbl⟩
end Go.Proofs.YtnehabngggljlaaGreatDoor.uids

namespace Go.Proofs.YtnehabngggljlaaGreatDoor.uids
open Go Go.Abs Go.RowKit
set_option linter.unusedVariables false
set_option maxRecDepth 100000

theorem owns_mono {w : World} {base base' : Nat} {e : TypeId} {size : Nat} {v : Value} {n : Nat} {xs : List Value} (h : w.ownsRow base e size v n xs) (hb : base' ≤ base) : w.ownsRow base' e size v n xs := by
  refine ⟨h.1, ?_⟩
  rcases h.2 with h0 | ⟨g, cap, cur, h1, h2, h3⟩
  · exact .inl h0
  · exact .inr ⟨g, cap, cur, h1, Nat.le_trans hb h2, h3⟩

theorem res_nil {base : Nat} {w : World} {r : Value} (h : Res base w r []) : r = .slice none 0 0 := by
  rcases h with ⟨_, h⟩ | ⟨k, hk, h⟩
  · exact h
  · have := h.1
    simp at this
    omega

theorem res_more {base : Nat} {w : World} {r : Value} {us : List Value} (h : Res base w r us) (hus : us ≠ []) : ∃ g k cap, r = .slice (some ⟨g, 0, none⟩) k cap ∧ 0 < k ∧ w.ownsRow base 31 2 (.slice (some ⟨g, 0, none⟩) k cap) k us ∧ base ≤ g ∧ g < w.heap.size := by
  rcases h with ⟨h, _⟩ | ⟨k, hk, h⟩
  · exact absurd h hus
  · obtain ⟨g, cap, rfl, h1, h2⟩ := h.form hk
    exact ⟨g, k, cap, rfl, hk, h, h1, h2⟩

theorem other (n : Nat) (us : List Value) (op nn : Int) (s t : ByteArray) (nm kv : Value) (hop : op ≠ 4) (w : World)
    (hk : ∀ w1, Below w.heap.size w w1 → Calls Tryz.prog 7 #[.agg #[.int .u8 op, .int .i64 nn, .string s, .string t, nm, kv]] w1 fun e w' => ∃ r, e = .returned r ∧ Res w1.heap.size w' r us ∧ Below w1.heap.size w1 w')
    (hnm : ∃ a l c, nm = .slice a l c) (hkv : ∃ a l c, kv = .slice a l c) :
    Calls Tryz.prog 5 #[.agg #[.int .u8 op, .int .i64 nn, .string s, .string t, nm, kv]] w fun e w' => ∃ r, e = .returned r ∧ Res w.heap.size w' r us ∧ Below w.heap.size w w' := by
  obtain ⟨a1, l1, c1, rfl⟩ := hnm
  obtain ⟨a2, l2, c2, rfl⟩ := hkv
  have h4 : (op == 4) = false := by simpa using hop
  go_enter Tryz.func5, Tryz.ntmps5
  go_wp2_with (go_at_call 7; refine (hk _ ((Below.refl _ _).alloc (Nat.le_refl _) _)).mono ?_; rintro e w' ⟨r, rfl, hr, hb⟩)
  go_ret
  refine ⟨r, rfl, ?_, ((Below.refl _ w).alloc (Nat.le_refl _) _).trans (hb.mono (by simp))⟩
  rcases hr with h | ⟨k, hk, h⟩
  · exact .inl h
  · exact .inr ⟨k, hk, owns_mono h (by simp)⟩

theorem entityNil (us : List Value) (nn : Int) (s t : ByteArray) (nm kv : Value) (w : World) (hus : us = [])
    (hk : ∀ w1, Below w.heap.size w w1 → Calls Tryz.prog 7 #[.agg #[.int .u8 4, .int .i64 nn, .string s, .string t, nm, kv]] w1 fun e w' => ∃ r, e = .returned r ∧ Res w1.heap.size w' r us ∧ Below w1.heap.size w1 w')
    (hnm : ∃ a l c, nm = .slice a l c) (hkv : ∃ a l c, kv = .slice a l c) :
    Calls Tryz.prog 5 #[.agg #[.int .u8 4, .int .i64 nn, .string s, .string t, nm, kv]] w fun e w' => ∃ r, e = .returned r ∧ Res w.heap.size w' r [.string t, .string s] ∧ Below w.heap.size w w' := by
  obtain ⟨a1, l1, c1, rfl⟩ := hnm
  obtain ⟨a2, l2, c2, rfl⟩ := hkv
  subst hus
  go_enter Tryz.func5, Tryz.ntmps5
  go_wp2
  go_region_held3 (fun w' => w'.cell? ⟨w.heap.size, 0, none⟩ = some (.int .u8 4) ∧ w'.cell? ⟨w.heap.size, 1, none⟩ = some (.int .i64 nn) ∧ w'.cell? ⟨w.heap.size, 2, none⟩ = some (.string s) ∧ w'.cell? ⟨w.heap.size, 3, none⟩ = some (.string t) ∧ w'.cell? ⟨w.heap.size, 4, none⟩ = some (.slice a1 l1 c1) ∧ w'.cell? ⟨w.heap.size, 5, none⟩ = some (.slice a2 l2 c2))
    (go_keep)
    (first | (go_at_call 7; refine (hk _ (by repeat (first | exact Below.refl _ _ | refine Below.drew ?_ | refine Below.alloc ?_ (by simp <;> omega) _))).mono ?_; rintro e w' ⟨r, rfl, hr, hb⟩; obtain rfl := res_nil hr; have q0 := hb.cell (p := ⟨w.heap.size, 0 , none⟩) (by (try simp) <;> omega); have q1 := hb.cell (p := ⟨w.heap.size, 1 , none⟩) (by (try simp) <;> omega); have q2 := hb.cell (p := ⟨w.heap.size, 2 , none⟩) (by (try simp) <;> omega); have q3 := hb.cell (p := ⟨w.heap.size, 3 , none⟩) (by (try simp) <;> omega); have q4 := hb.cell (p := ⟨w.heap.size, 4 , none⟩) (by (try simp) <;> omega); have q5 := hb.cell (p := ⟨w.heap.size, 5 , none⟩) (by (try simp) <;> omega); have q6 := hb.size; simp at q0 q1 q2 q3 q4 q5 q6))
  · simp only [Exit.then]
    go_at_K
    go_wp2
    go_ret
    have o1 := World.ownsRow_lit (base := w.heap.size) (e := 31) (size := 2) (w.alloc (.cells #[.int .u8 4, .int .i64 nn, .string s, .string t, .slice a1 l1 c1, .slice a2 l2 c2] 26)) #[.string t, .string s] 1 (by simp) (by unfold maxLen; decide) rfl
    have o2 := owns_below (World.ownsRow.drew o1) hb
    refine ⟨_, rfl, .inr ⟨1, by omega, by simpa using o2⟩, ?_⟩
    exact (((((Below.refl w.heap.size w).alloc (Nat.le_refl _) _).alloc (by simp) _).drew).trans (hb.mono (by simp; omega)))
  · simp only [Exit.then]
    go_at_K
    go_wp2
    go_ret
    have hsz : w.heap.size + 1 ≤ w'.heap.size := by have := hb.size; simpa using this
    have o1 := World.ownsRow_lit (base := w.heap.size) (e := 31) (size := 2) w' #[.string t, .string s] 1 (by omega) (by unfold maxLen; decide) rfl
    refine ⟨_, rfl, .inr ⟨1, by omega, o1⟩, ?_⟩
    exact ((((Below.refl w.heap.size w).alloc (Nat.le_refl _) _).drew).trans (hb.mono (by simp))).alloc (by omega) _

theorem entityMore (us : List Value) (nn : Int) (s t : ByteArray) (nm kv : Value) (w : World) (hus : us ≠ []) (hlen : us.length ≤ 4194304) (hone : ∀ u ∈ us, u.oneCell' = true)
    (hk : ∀ w1, Below w.heap.size w w1 → Calls Tryz.prog 7 #[.agg #[.int .u8 4, .int .i64 nn, .string s, .string t, nm, kv]] w1 fun e w' => ∃ r, e = .returned r ∧ Res w1.heap.size w' r us ∧ Below w1.heap.size w1 w')
    (hnm : ∃ a l c, nm = .slice a l c) (hkv : ∃ a l c, kv = .slice a l c) :
    Calls Tryz.prog 5 #[.agg #[.int .u8 4, .int .i64 nn, .string s, .string t, nm, kv]] w fun e w' => ∃ r, e = .returned r ∧ Res w.heap.size w' r ([.string t, .string s] ++ us) ∧ Below w.heap.size w w' := by
  obtain ⟨i31, hi, hz0, hz1, hz2⟩ := info_parts info31
  obtain ⟨a1, l1, c1, rfl⟩ := hnm
  obtain ⟨a2, l2, c2, rfl⟩ := hkv
  go_enter Tryz.func5, Tryz.ntmps5
  go_wp2
  go_region_held3 (fun w' => w'.cell? ⟨w.heap.size, 0, none⟩ = some (.int .u8 4) ∧ w'.cell? ⟨w.heap.size, 1, none⟩ = some (.int .i64 nn) ∧ w'.cell? ⟨w.heap.size, 2, none⟩ = some (.string s) ∧ w'.cell? ⟨w.heap.size, 3, none⟩ = some (.string t) ∧ w'.cell? ⟨w.heap.size, 4, none⟩ = some (.slice a1 l1 c1) ∧ w'.cell? ⟨w.heap.size, 5, none⟩ = some (.slice a2 l2 c2))
    (first | go_keep | (go_split_ands; refine ⟨?_, ?_, ?_, ?_, ?_, ?_⟩ <;> (rw [hgrow.cell_far _ (by (try simp) <;> omega) (by (try simp [Value.ownBlock]) <;> omega)]; simp [*])))
    (first
      | (go_at_call 7; refine (hk _ (by repeat (first | exact Below.refl _ _ | refine Below.drew ?_ | refine Below.alloc ?_ (by simp <;> omega) _))).mono ?_; rintro e w' ⟨r, rfl, hr, hb⟩; obtain ⟨g', k', cap', rfl, hk', hown', hg1', hg2'⟩ := res_more hr hus; have hlen' := hown'.1; have q0 := hb.cell (p := ⟨w.heap.size, 0, none⟩) (by (try simp) <;> omega); have q1 := hb.cell (p := ⟨w.heap.size, 1, none⟩) (by (try simp) <;> omega); have q2 := hb.cell (p := ⟨w.heap.size, 2, none⟩) (by (try simp) <;> omega); have q3 := hb.cell (p := ⟨w.heap.size, 3, none⟩) (by (try simp) <;> omega); have q4 := hb.cell (p := ⟨w.heap.size, 4, none⟩) (by (try simp) <;> omega); have q5 := hb.cell (p := ⟨w.heap.size, 5, none⟩) (by (try simp) <;> omega); have q6 := hb.size; simp at q0 q1 q2 q3 q4 q5 q6; first | (have o2 : w'.ownsRow w.heap.size 31 2 (.slice (some ⟨w.heap.size + 1, 0, none⟩) 1 1) 1 [.string t, .string s] := (by have o1 := World.ownsRow_lit (base := w.heap.size) (e := 31) (size := 2) (w.alloc (.cells #[.int .u8 4, .int .i64 nn, .string s, .string t, .slice a1 l1 c1, .slice a2 l2 c2] 26)) #[.string t, .string s] 1 (by simp) (by unfold maxLen; decide) rfl; have o2 := owns_below (World.ownsRow.drew o1) hb; simpa using o2)) | skip)
      | (refine step_append_lies _ (by rfl) _ _ _ (by rfl) w.heap.size 31 i31 (.agg #[.string ByteArray.empty, .string ByteArray.empty]) 2 32 Tryz.underlying28 hi hz0 hz1 hz2 rfl (by omega) (.slice (some ⟨w.heap.size + 1, 0, none⟩) 1 1) 1 [.string t, .string s] (by rfl)
          o2 ⟨g', 0, none⟩ k' cap' us (by rfl) hlen' (hown'.cells rfl) hone (by omega) (by unfold maxLen; omega) (by omega) (by first | omega | (simp; omega)) _ rfl ?_; intro g3 cap3 w3 hown3 hgrow hat hlt)
      | (refine step_append_lies _ (by rfl) _ _ _ (by rfl) w.heap.size 31 i31 (.agg #[.string ByteArray.empty, .string ByteArray.empty]) 2 32 Tryz.underlying28 hi hz0 hz1 hz2 rfl (by omega) (.slice (some ⟨w'.heap.size, 0, none⟩) 1 1) 1 [.string t, .string s] (by rfl)
          (World.ownsRow_lit (base := w.heap.size) (e := 31) (size := 2) w' #[.string t, .string s] 1 (by omega) (by unfold maxLen; decide) rfl) ⟨g', 0, none⟩ k' cap' us (by rfl) hlen' ((hown'.alloc _).cells rfl) hone (by omega) (by unfold maxLen; omega) (by omega) (by first | omega | (simp; omega)) _ rfl ?_; intro g3 cap3 w3 hown3 hgrow hat hlt))
  · simp only [Exit.then]
    go_at_K
    go_wp2
    go_ret
    refine ⟨_, rfl, .inr ⟨1 + k', by omega, by simpa using hown3⟩, ?_⟩
    exact (((((Below.refl w.heap.size w).alloc (Nat.le_refl _) _).alloc (by simp) _).drew).trans (hb.mono (by simp; omega))).grown hgrow (by omega) (fun j hj => by simp [Value.ownBlock] at hj; omega)
  · simp only [Exit.then]
    go_at_K
    go_wp2
    go_ret
    refine ⟨_, rfl, .inr ⟨1 + k', by omega, by simpa using hown3⟩, ?_⟩
    exact (((((Below.refl w.heap.size w).alloc (Nat.le_refl _) _).drew).trans (hb.mono (by simp))).alloc (by omega) _).grown hgrow (by simp; omega) (fun j hj => by simp [Value.ownBlock] at hj; omega)
end Go.Proofs.YtnehabngggljlaaGreatDoor.uids

namespace Go.Proofs.YtnehabngggljlaaGreatDoor.uids
open Go Go.Abs Go.RowKit
set_option linter.unusedVariables false
set_option maxRecDepth 100000

theorem agg6 {F : Froz} {c0 c1 c2 c3 c4 c5 : Tree} {v : Value} (h : VT F (.agg [c0, c1, c2, c3, c4, c5]) v) :
    ∃ v0 v1 v2 v3 v4 v5, v = .agg #[v0, v1, v2, v3, v4, v5] ∧ VT F c0 v0 ∧ VT F c1 v1 ∧ VT F c2 v2 ∧ VT F c3 v3 ∧ VT F c4 v4 ∧ VT F c5 v5 := by
  cases h with | agg _ vs hl h =>
  match vs, hl with
  | [v0, v1, v2, v3, v4, v5], _ => exact ⟨v0, v1, v2, v3, v4, v5, rfl, h 0 _ _ rfl rfl, h 1 _ _ rfl rfl, h 2 _ _ rfl rfl, h 3 _ _ rfl rfl, h 4 _ _ rfl rfl, h 5 _ _ rfl rfl⟩

theorem uids : ∀ (n : Nat) (T : Tree), ExprN n T → ∀ W0 w v, Below W0.heap.size W0 w → VT (ghOf W0).F T v → (uidsN n T).length ≤ 4194304 →
      Calls Tryz.prog 5 #[v] w fun e w' => ∃ r, e = .returned r ∧ Res w.heap.size w' r (uidsN n T) ∧ Below w.heap.size w w' := by
  intro n
  induction n with
  | zero => intro T h; exact h.elim
  | succ n ih =>
    intro T h W0 w v hW hv hlen
    obtain ⟨op, nn, s, t, nm, ks, rfl, hkl, hks⟩ := h
    obtain ⟨v0, v1, v2, v3, v4, v5, rfl, t0, t1, t2, t3, t4, t5⟩ := agg6 hv
    obtain ⟨a4, p4, rfl⟩ := sl_slice t4
    obtain ⟨a5, p5, hv5⟩ := sl_slice t5
    cases t0
    cases t1
    cases t2
    cases t3
    have hu : uidsN (n + 1) (.agg [.int .u8 op, .int .i64 nn, .str s, .str t, .sl nm, .sl ks]) = (if op = 4 then [.string ⟨t.toArray⟩, .string ⟨s.toArray⟩] else []) ++ ks.flatMap (uidsN n) := rfl
    rw [hu] at hlen ⊢
    have hl2 : (ks.flatMap (uidsN n)).length ≤ 4194304 := by rw [List.length_append] at hlen; omega
    have hk : ∀ w1, Below w.heap.size w w1 → Calls Tryz.prog 7 #[.agg #[.int .u8 op, .int .i64 nn, .string ⟨s.toArray⟩, .string ⟨t.toArray⟩, .slice a4 nm.length p4, v5]] w1 fun e w' => ∃ r, e = .returned r ∧ Res w1.heap.size w' r (ks.flatMap (uidsN n)) ∧ Below w1.heap.size w1 w' :=
      fun w1 hb => kids n ih ks hkl hks W0 w1 op nn _ _ _ v5 (hW.trans (hb.mono hW.size)) t5 hl2
    by_cases hop : op = 4
    · subst hop
      rw [if_pos rfl]
      by_cases hus : ks.flatMap (uidsN n) = []
      · have := entityNil (ks.flatMap (uidsN n)) nn ⟨s.toArray⟩ ⟨t.toArray⟩ (.slice a4 nm.length p4) v5 w hus hk ⟨_, _, _, rfl⟩ ⟨_, _, _, hv5⟩
        rw [hus, List.append_nil]
        exact this
      · exact entityMore (ks.flatMap (uidsN n)) nn ⟨s.toArray⟩ ⟨t.toArray⟩ (.slice a4 nm.length p4) v5 w hus hl2 (fun u hu => by
          obtain ⟨k, _, hk⟩ := List.mem_flatMap.1 hu
          exact uids_one n k u hk) hk ⟨_, _, _, rfl⟩ ⟨_, _, _, hv5⟩
    · rw [if_neg hop, List.nil_append]
      exact other n _ op nn ⟨s.toArray⟩ ⟨t.toArray⟩ (.slice a4 nm.length p4) v5 hop w hk ⟨_, _, _, rfl⟩ ⟨_, _, _, hv5⟩
end Go.Proofs.YtnehabngggljlaaGreatDoor.uids

namespace Go.Proofs.YtnehabngggljlaaGreatDoor.uids
open Go Go.Abs Go.RowKit
set_option linter.unusedVariables false
set_option maxRecDepth 100000

def pickV (x0 x1 x2 x3 x4 x5 y0 y1 y2 y3 y4 y5 : Value) : Nat → Value
  | 0 => x0 | 1 => x1 | 2 => x2 | 3 => x3 | 4 => x4 | 5 => x5 | 6 => y0 | 7 => y1 | 8 => y2 | 9 => y3 | 10 => y4 | _ => y5

theorem set_VT {n : Nat} {F : Froz} {a b : Tree} (ha : ExprN n a) (hb : ExprN n b) {x0 x1 x2 x3 x4 x5 y0 y1 y2 y3 y4 y5 : Value} (hva : VT F a (.agg #[x0, x1, x2, x3, x4, x5])) (hvb : VT F b (.agg #[y0, y1, y2, y3, y4, y5])) {g : Nat}
    (hF : ∀ j, j < 12 → F g j = some (pickV x0 x1 x2 x3 x4 x5 y0 y1 y2 y3 y4 y5 j)) :
    VT F (.agg [.int .u8 6, .int .i64 0, .str [], .str [], .sl [], .sl [a, b]]) (.agg #[.int .u8 6, .int .i64 0, .string ⟨#[]⟩, .string ⟨#[]⟩, .slice none 0 0, .slice (some ⟨g, 0, none⟩) 2 2]) := by
  have hsl : VT F (.sl [a, b]) (.slice (some ⟨g, 0, none⟩) 2 2) := by
    obtain ⟨o, nn, s, t, nm, ks, rfl⟩ := exprN_shape ha
    obtain ⟨o', nn', s', t', nm', ks', rfl⟩ := exprN_shape hb
    obtain ⟨v0, v1, v2, v3, v4, v5, he, p0, p1, p2, p3, p4, p5⟩ := agg6 hva
    obtain ⟨u0, u1, u2, u3, u4, u5, he', q0, q1, q2, q3, q4, q5⟩ := agg6 hvb
    simp at he he'
    obtain ⟨rfl, rfl, rfl, rfl, rfl, rfl⟩ := he
    obtain ⟨rfl, rfl, rfl, rfl, rfl, rfl⟩ := he'
    refine VT.sl 6 _ g 0 2 (pickV x0 x1 x2 x3 x4 x5 y0 y1 y2 y3 y4 y5) (by simp) (by simp) (by intro e he; simp at he; rcases he with rfl | rfl <;> rfl) (fun j c hc => ?_) (fun j c hc => ?_)
    · have hj := (List.getElem?_eq_some_iff.1 hc).1
      rw [Nat.zero_add]
      exact hF j (by simpa [flat, Tree.cells] using hj)
    · simp only [flat, List.flatMap_cons, List.flatMap_nil, Tree.cells, List.cons_append, List.nil_append, List.append_nil] at hc
      match j, hc with
      | 0, hc => simp at hc; subst hc; exact p0
      | 1, hc => simp at hc; subst hc; exact p1
      | 2, hc => simp at hc; subst hc; exact p2
      | 3, hc => simp at hc; subst hc; exact p3
      | 4, hc => simp at hc; subst hc; exact p4
      | 5, hc => simp at hc; subst hc; exact p5
      | 6, hc => simp at hc; subst hc; exact q0
      | 7, hc => simp at hc; subst hc; exact q1
      | 8, hc => simp at hc; subst hc; exact q2
      | 9, hc => simp at hc; subst hc; exact q3
      | 10, hc => simp at hc; subst hc; exact q4
      | 11, hc => simp at hc; subst hc; exact q5
      | j + 12, hc => simp at hc
  refine VT.agg [.int .u8 6, .int .i64 0, .str [], .str [], .sl [], .sl [a, b]] [.int .u8 6, .int .i64 0, .string ⟨#[]⟩, .string ⟨#[]⟩, .slice none 0 0, .slice (some ⟨g, 0, none⟩) 2 2] rfl ?_
  intro j c v hc hv
  match j, hc, hv with
  | 0, hc, hv => simp at hc hv; subst hc; subst hv; exact .int _ _
  | 1, hc, hv => simp at hc hv; subst hc; subst hv; exact .int _ _
  | 2, hc, hv => simp at hc hv; subst hc; subst hv; exact .str []
  | 3, hc, hv => simp at hc hv; subst hc; subst hv; exact .str []
  | 4, hc, hv => simp at hc hv; subst hc; subst hv; exact .sl0 _ _
  | 5, hc, hv => simp at hc hv; subst hc; subst hv; exact hsl
  | j + 6, hc, hv => simp at hc

theorem set_uids (n : Nat) (a b : Tree) : uidsN (n + 1) (.agg [.int .u8 6, .int .i64 0, .str [], .str [], .sl [], .sl [a, b]]) = uidsN n a ++ uidsN n b := by
  simp [uidsN]

theorem set_expr {n : Nat} {a b : Tree} (ha : ExprN n a) (hb : ExprN n b) : ExprN (n + 1) (.agg [.int .u8 6, .int .i64 0, .str [], .str [], .sl [], .sl [a, b]]) :=
  ⟨6, 0, [], [], [], [a, b], rfl, by simp, by intro x hx; simp at hx; rcases hx with rfl | rfl; exact ha; exact hb⟩

/-- data stays -/
theorem ghOf_le {W w : World} (h : Below W.heap.size W w) : ∀ b o v, (ghOf W).F b o = some v → (ghOf w).F b o = some v := by
  intro b o v hq
  have hq : W.cell? ⟨b, o, none⟩ = some v := hq
  have hbW : b < W.heap.size := by
    unfold World.cell? at hq
    simp only at hq
    split at hq
    · rename_i hh; exact (Array.getElem?_eq_some_iff.1 hh).1
    · cases hq
  show w.cell? ⟨b, o, none⟩ = some v
  rw [h.cell (p := ⟨b, o, none⟩) hbW]
  exact hq
theorem res_mono {base base' : Nat} {w : World} {r : Value} {us : List Value} (h : Res base w r us) (hb : base' ≤ base) : Res base' w r us := by
  rcases h with h | ⟨k, hk, h⟩
  · exact .inl h
  · exact .inr ⟨k, hk, owns_mono h hb⟩

theorem Res.alloc {base : Nat} {w : World} {r : Value} {us : List Value} (h : Res base w r us) (o : Obj) : Res base (w.alloc o) r us := by
  rcases h with h | ⟨k, hk, h⟩
  · exact .inl h
  · exact .inr ⟨k, hk, h.alloc o⟩

theorem uids_str : ∀ (n : Nat) (T : Tree) (u : Value), u ∈ uidsN n T → ∃ s, u = .string s
  | 0, T, u, h => by simp [uidsN] at h
  | n + 1, T, u, h => by
      unfold uidsN at h
      split at h
      · rcases List.mem_append.1 h with h | h
        · split at h
          · simp at h
            rcases h with rfl | rfl
            · exact ⟨_, rfl⟩
            · exact ⟨_, rfl⟩
          · cases h
        · obtain ⟨k, _, hk⟩ := List.mem_flatMap.1 h
          exact uids_str n k u hk
      · cases h

theorem owns_far {w w' : World} {base : Nat} {e : TypeId} {size : Nat} {v : Value} {n : Nat} {xs : List Value} {row : Option Nat} (h : w.ownsRow base e size v n xs) (hg : w.grownBy w' row) (hne : v.ownBlock ≠ row) : w'.ownsRow base e size v n xs :=
  h.kept hg (.inr hne)

theorem str_at {us : List Value} {k i : Nat} (h : ∀ u ∈ us, ∃ s, u = .string s) (hl : us.length = k * 2) (hi : i < k * 2) : ∃ s, us[i]? = some (.string s) := by
  have hlt : i < us.length := by omega
  obtain ⟨s, hs⟩ := h us[i] (List.getElem_mem hlt)
  exact ⟨s, by rw [List.getElem?_eq_getElem hlt, hs]⟩

theorem neq_same (s t : ByteArray) (w : World) : (binOp .neq 31 (.agg #[.string s, .string t]) (.agg #[.string s, .string t])).run Tryz.prog w = .ok (.bool false) w := by
  rw [run_neq_struct, run_equalIn_struct w 9999 31 _ _ (by kernel_rfl) (by kernel_rfl)]
  have hf := Tryz.underlying31
  simp [Program.fieldsOf, hf, Op.eqFields, go_sem]
end Go.Proofs.YtnehabngggljlaaGreatDoor.uids

namespace Go.Proofs.YtnehabngggljlaaGreatDoor.uids
open Go Go.Abs Go.RowKit
set_option linter.unusedVariables false
set_option maxRecDepth 100000

theorem walk (n : Nat) (a b : Tree) (ha : ExprN n a) (hb : ExprN n b) (la : (uidsN n a).length ≤ 2097152) (lb : (uidsN n b).length ≤ 2097152) (W : World)
    (o1 n1 o2 n2 : Int) (s1 t1 s2 t2 : ByteArray) (p1 p2 p3 p4 : Option Addr) (l1 l2 l3 l4 c1 c2 c3 c4 : Nat)
    (hva : VT (ghOf W).F a (.agg #[.int .u8 o1, .int .i64 n1, .string s1, .string t1, .slice p1 l1 c1, .slice p2 l2 c2]))
    (hvb : VT (ghOf W).F b (.agg #[.int .u8 o2, .int .i64 n2, .string s2, .string t2, .slice p3 l3 c3, .slice p4 l4 c4]))
    (hlive : ∀ w, Below W.heap.size W w → Calls Tryz.prog 4 #[] w fun e w' => e = .returned (.bool true) ∧ Below w.heap.size w w') :
    Calls Tryz.prog 3 #[.agg #[.int .u8 o1, .int .i64 n1, .string s1, .string t1, .slice p1 l1 c1, .slice p2 l2 c2], .agg #[.int .u8 o2, .int .i64 n2, .string s2, .string t2, .slice p3 l3 c3, .slice p4 l4 c4]] W
      fun e w' => e = .returned (.bool true) ∧ Below W.heap.size W w' := by
  have hU := uids n
  go_enter Tryz.func3, Tryz.ntmps3
  go_wp2_with (go_at_call 4; refine (hlive _ (by repeat (first | exact Below.refl _ _ | assumption | refine Below.drew ?_ | refine Below.alloc ?_ (by simp <;> omega) _))).mono ?_; rintro e w1 ⟨rfl, hl⟩; have e00 := hl.cell (p := ⟨W.heap.size, 0, none⟩) (by (try simp) <;> omega); have e01 := hl.cell (p := ⟨W.heap.size, 1, none⟩) (by (try simp) <;> omega); have e02 := hl.cell (p := ⟨W.heap.size, 2, none⟩) (by (try simp) <;> omega); have e03 := hl.cell (p := ⟨W.heap.size, 3, none⟩) (by (try simp) <;> omega); have e04 := hl.cell (p := ⟨W.heap.size, 4, none⟩) (by (try simp) <;> omega); have e05 := hl.cell (p := ⟨W.heap.size, 5, none⟩) (by (try simp) <;> omega); have e10 := hl.cell (p := ⟨W.heap.size + 1, 0, none⟩) (by (try simp) <;> omega); have e11 := hl.cell (p := ⟨W.heap.size + 1, 1, none⟩) (by (try simp) <;> omega); have e12 := hl.cell (p := ⟨W.heap.size + 1, 2, none⟩) (by (try simp) <;> omega); have e13 := hl.cell (p := ⟨W.heap.size + 1, 3, none⟩) (by (try simp) <;> omega); have e14 := hl.cell (p := ⟨W.heap.size + 1, 4, none⟩) (by (try simp) <;> omega); have e15 := hl.cell (p := ⟨W.heap.size + 1, 5, none⟩) (by (try simp) <;> omega); have e6 := hl.size; simp at e00 e01 e02 e03 e04 e05 e10 e11 e12 e13 e14 e15 e6; have hW1 : Below W.heap.size W w1 := (((Below.refl W.heap.size W).alloc (Nat.le_refl _) _).alloc (by simp) _).trans (hl.mono (by simp; omega)); clear hl)
  go_region_held3 (fun w' => w'.cell? ⟨W.heap.size, 0, none⟩ = some (.int .u8 o1) ∧ w'.cell? ⟨W.heap.size, 1, none⟩ = some (.int .i64 n1) ∧ w'.cell? ⟨W.heap.size, 2, none⟩ = some (.string s1) ∧ w'.cell? ⟨W.heap.size, 3, none⟩ = some (.string t1) ∧ w'.cell? ⟨W.heap.size, 4, none⟩ = some (.slice p1 l1 c1) ∧ w'.cell? ⟨W.heap.size, 5, none⟩ = some (.slice p2 l2 c2) ∧ w'.cell? ⟨W.heap.size + 1, 0, none⟩ = some (.int .u8 o2) ∧ w'.cell? ⟨W.heap.size + 1, 1, none⟩ = some (.int .i64 n2) ∧ w'.cell? ⟨W.heap.size + 1, 2, none⟩ = some (.string s2) ∧ w'.cell? ⟨W.heap.size + 1, 3, none⟩ = some (.string t2) ∧ w'.cell? ⟨W.heap.size + 1, 4, none⟩ = some (.slice p3 l3 c3) ∧ w'.cell? ⟨W.heap.size + 1, 5, none⟩ = some (.slice p4 l4 c4)) (go_keep)
    (first
      | (go_at_call_of 5 (Value.agg #[.int .u8 o1, .int .i64 n1, .string s1, .string t1, .slice p1 l1 c1, .slice p2 l2 c2]); refine (hU _ ha W _ _ (by first | assumption | exact Below.drew (by assumption)) hva (by omega)).mono ?_; rintro e wx ⟨x, rfl, hx, hbx⟩; have qx : W.heap.size + 1 + 1 ≤ wx.heap.size := Nat.le_trans (by first | exact e6 | exact qx | exact qy) hbx.size; have x00 : wx.cell? ⟨W.heap.size, 0, none⟩ = some (.int .u8 o1) := (hbx.cell (p := ⟨W.heap.size, 0, none⟩) (by first | omega | ((try simp) <;> omega))).trans (by first | exact e00 | exact y00); have x01 : wx.cell? ⟨W.heap.size, 1, none⟩ = some (.int .i64 n1) := (hbx.cell (p := ⟨W.heap.size, 1, none⟩) (by first | omega | ((try simp) <;> omega))).trans (by first | exact e01 | exact y01); have x02 : wx.cell? ⟨W.heap.size, 2, none⟩ = some (.string s1) := (hbx.cell (p := ⟨W.heap.size, 2, none⟩) (by first | omega | ((try simp) <;> omega))).trans (by first | exact e02 | exact y02); have x03 : wx.cell? ⟨W.heap.size, 3, none⟩ = some (.string t1) := (hbx.cell (p := ⟨W.heap.size, 3, none⟩) (by first | omega | ((try simp) <;> omega))).trans (by first | exact e03 | exact y03); have x04 : wx.cell? ⟨W.heap.size, 4, none⟩ = some (.slice p1 l1 c1) := (hbx.cell (p := ⟨W.heap.size, 4, none⟩) (by first | omega | ((try simp) <;> omega))).trans (by first | exact e04 | exact y04); have x05 : wx.cell? ⟨W.heap.size, 5, none⟩ = some (.slice p2 l2 c2) := (hbx.cell (p := ⟨W.heap.size, 5, none⟩) (by first | omega | ((try simp) <;> omega))).trans (by first | exact e05 | exact y05); have x10 : wx.cell? ⟨W.heap.size + 1, 0, none⟩ = some (.int .u8 o2) := (hbx.cell (p := ⟨W.heap.size + 1, 0, none⟩) (by first | omega | ((try simp) <;> omega))).trans (by first | exact e10 | exact y10); have x11 : wx.cell? ⟨W.heap.size + 1, 1, none⟩ = some (.int .i64 n2) := (hbx.cell (p := ⟨W.heap.size + 1, 1, none⟩) (by first | omega | ((try simp) <;> omega))).trans (by first | exact e11 | exact y11); have x12 : wx.cell? ⟨W.heap.size + 1, 2, none⟩ = some (.string s2) := (hbx.cell (p := ⟨W.heap.size + 1, 2, none⟩) (by first | omega | ((try simp) <;> omega))).trans (by first | exact e12 | exact y12); have x13 : wx.cell? ⟨W.heap.size + 1, 3, none⟩ = some (.string t2) := (hbx.cell (p := ⟨W.heap.size + 1, 3, none⟩) (by first | omega | ((try simp) <;> omega))).trans (by first | exact e13 | exact y13); have x14 : wx.cell? ⟨W.heap.size + 1, 4, none⟩ = some (.slice p3 l3 c3) := (hbx.cell (p := ⟨W.heap.size + 1, 4, none⟩) (by first | omega | ((try simp) <;> omega))).trans (by first | exact e14 | exact y14); have x15 : wx.cell? ⟨W.heap.size + 1, 5, none⟩ = some (.slice p4 l4 c4) := (hbx.cell (p := ⟨W.heap.size + 1, 5, none⟩) (by first | omega | ((try simp) <;> omega))).trans (by first | exact e15 | exact y15); have hWx : Below W.heap.size W wx := (by refine Below.trans ?_ (hbx.mono (Nat.le_trans (Nat.le_trans (Nat.le_succ _) (Nat.le_succ _)) (by first | exact e6 | exact qx | exact qy))); first | assumption | exact Below.drew (by assumption)))
      | (go_at_call_of 5 (Value.agg #[.int .u8 o2, .int .i64 n2, .string s2, .string t2, .slice p3 l3 c3, .slice p4 l4 c4]); refine (hU _ hb W _ _ (by first | assumption | exact Below.drew (by assumption)) hvb (by omega)).mono ?_; rintro e wy ⟨y, rfl, hy, hby⟩; have qy : W.heap.size + 1 + 1 ≤ wy.heap.size := Nat.le_trans (by first | exact e6 | exact qx | exact qy) hby.size; have y00 : wy.cell? ⟨W.heap.size, 0, none⟩ = some (.int .u8 o1) := (hby.cell (p := ⟨W.heap.size, 0, none⟩) (by first | omega | ((try simp) <;> omega))).trans (by first | exact e00 | exact x00); have y01 : wy.cell? ⟨W.heap.size, 1, none⟩ = some (.int .i64 n1) := (hby.cell (p := ⟨W.heap.size, 1, none⟩) (by first | omega | ((try simp) <;> omega))).trans (by first | exact e01 | exact x01); have y02 : wy.cell? ⟨W.heap.size, 2, none⟩ = some (.string s1) := (hby.cell (p := ⟨W.heap.size, 2, none⟩) (by first | omega | ((try simp) <;> omega))).trans (by first | exact e02 | exact x02); have y03 : wy.cell? ⟨W.heap.size, 3, none⟩ = some (.string t1) := (hby.cell (p := ⟨W.heap.size, 3, none⟩) (by first | omega | ((try simp) <;> omega))).trans (by first | exact e03 | exact x03); have y04 : wy.cell? ⟨W.heap.size, 4, none⟩ = some (.slice p1 l1 c1) := (hby.cell (p := ⟨W.heap.size, 4, none⟩) (by first | omega | ((try simp) <;> omega))).trans (by first | exact e04 | exact x04); have y05 : wy.cell? ⟨W.heap.size, 5, none⟩ = some (.slice p2 l2 c2) := (hby.cell (p := ⟨W.heap.size, 5, none⟩) (by first | omega | ((try simp) <;> omega))).trans (by first | exact e05 | exact x05); have y10 : wy.cell? ⟨W.heap.size + 1, 0, none⟩ = some (.int .u8 o2) := (hby.cell (p := ⟨W.heap.size + 1, 0, none⟩) (by first | omega | ((try simp) <;> omega))).trans (by first | exact e10 | exact x10); have y11 : wy.cell? ⟨W.heap.size + 1, 1, none⟩ = some (.int .i64 n2) := (hby.cell (p := ⟨W.heap.size + 1, 1, none⟩) (by first | omega | ((try simp) <;> omega))).trans (by first | exact e11 | exact x11); have y12 : wy.cell? ⟨W.heap.size + 1, 2, none⟩ = some (.string s2) := (hby.cell (p := ⟨W.heap.size + 1, 2, none⟩) (by first | omega | ((try simp) <;> omega))).trans (by first | exact e12 | exact x12); have y13 : wy.cell? ⟨W.heap.size + 1, 3, none⟩ = some (.string t2) := (hby.cell (p := ⟨W.heap.size + 1, 3, none⟩) (by first | omega | ((try simp) <;> omega))).trans (by first | exact e13 | exact x13); have y14 : wy.cell? ⟨W.heap.size + 1, 4, none⟩ = some (.slice p3 l3 c3) := (hby.cell (p := ⟨W.heap.size + 1, 4, none⟩) (by first | omega | ((try simp) <;> omega))).trans (by first | exact e14 | exact x14); have y15 : wy.cell? ⟨W.heap.size + 1, 5, none⟩ = some (.slice p4 l4 c4) := (hby.cell (p := ⟨W.heap.size + 1, 5, none⟩) (by first | omega | ((try simp) <;> omega))).trans (by first | exact e15 | exact x15); have hWy : Below W.heap.size W wy := (by refine Below.trans ?_ (hby.mono (Nat.le_trans (Nat.le_trans (Nat.le_succ _) (Nat.le_succ _)) (by first | exact e6 | exact qx | exact qy))); first | assumption | exact Below.drew (by assumption))))
  simp only [Exit.then]
  go_at_K
  go_wp2_with (go_at_call 5; fail)
  have hWs := hWy.alloc (Nat.le_trans (Nat.le_trans (Nat.le_succ _) (Nat.le_succ _)) qy) (.cells #[.int .u8 o1, .int .i64 n1, .string s1, .string t1, .slice p1 l1 c1, .slice p2 l2 c2, .int .u8 o2, .int .i64 n2, .string s2, .string t2, .slice p3 l3 c3, .slice p4 l4 c4] 26)
  refine (uids (n + 1) _ (set_expr ha hb) _ _ _ (Below.refl _ _) (set_VT ha hb (hva.mono (ghOf_le hWs)) (hvb.mono (ghOf_le hWs)) ?cells) (by rw [set_uids, List.length_append]; omega)).mono ?_
  case cells =>
    intro j hj
    show (wy.alloc _).cell? ⟨wy.heap.size, j, none⟩ = _
    rw [cell_of (heap_alloc_new wy _)]
    match j, hj with
    | 0, _ => rfl
    | 1, _ => rfl
    | 2, _ => rfl
    | 3, _ => rfl
    | 4, _ => rfl
    | 5, _ => rfl
    | 6, _ => rfl
    | 7, _ => rfl
    | 8, _ => rfl
    | 9, _ => rfl
    | 10, _ => rfl
    | 11, _ => rfl
    | j + 12, hj => omega
  rintro e wz ⟨z, rfl, hz, hbz⟩
  rw [set_uids] at hz
  have hxz : Res W.heap.size wz x (uidsN n a) := res_mono (((hx.below hby).alloc _).below hbz) (Nat.le_trans (Nat.le_trans (Nat.le_succ _) (Nat.le_succ _)) e6)
  have hyz : Res W.heap.size wz y (uidsN n b) := res_mono ((hy.alloc _).below hbz) (Nat.le_trans (Nat.le_trans (Nat.le_succ _) (Nat.le_succ _)) qx)
  have hzz : Res W.heap.size wz z (uidsN n a ++ uidsN n b) := res_mono hz (by simp; omega)
  have hWz : Below W.heap.size W wz := hWs.trans (hbz.mono (by simp; omega))
  have hua : ∀ u ∈ uidsN n a ++ uidsN n b, ∃ s, u = .string s := fun u hu => (List.mem_append.1 hu).elim (uids_str n a u) (uids_str n b u)
  clear hx hy hz hbz hbx hby hWs hWx hWy hW1 hva hvb hU hlive
  clear e00 e01 e02 e03 e04 e05 e10 e11 e12 e13 e14 e15 x00 x01 x02 x03 x04 x05 x10 x11 x12 x13 x14 x15 y00 y01 y02 y03 y04 y05 y10 y11 y12 y13 y14 y15
  generalize uidsN n a = ua at *
  generalize uidsN n b = ub at *
  have honeua : ∀ u ∈ ua, u.oneCell' = true := fun u hu => by obtain ⟨s, rfl⟩ := hua u (by simp [hu]); rfl
  have honeub : ∀ u ∈ ub, u.oneCell' = true := fun u hu => by obtain ⟨s, rfl⟩ := hua u (by simp [hu]); rfl
  obtain ⟨i31, hi, hz0, hz1, hz2⟩ := info_parts info31
  simp only []
  go_at_K
  rcases hxz with ⟨hxa, rfl⟩ | ⟨kx, hkx, hxz⟩
  · rcases hyz with ⟨hyb, rfl⟩ | ⟨ky, hky, hyz⟩
    · subst hxa; subst hyb
      obtain rfl := res_nil hzz
      go_wp2
      go_loopw [35] (fun j wr => j = .int .i64 0 ∧ Below W.heap.size W wr) (fun _ _ => 0)
      case atStart => exact ⟨rfl, hWz.alloc hWz.size _⟩
      case round =>
        obtain ⟨rfl, hbW⟩ := hrel
        go_wp2
        go_ret
        exact ⟨rfl, hbW⟩
    · -- y alone
      subst hxa
      rw [List.nil_append] at hzz hua
      obtain ⟨gy, cy, rfl, hgy1, hgy2⟩ := hyz.form hky
      have hly := hyz.1
      obtain ⟨gz, kz, cz, rfl, hkz, hzz, hgz1, hgz2⟩ := res_more hzz (by intro e; rw [e] at hly; simp at hly; omega)
      have hlz := hzz.1
      obtain rfl : kz = ky := by omega
      go_wp2_with (at_builtin; refine wpList_append_own _ rfl _ _ 28 rfl W.heap.size 31 i31 (.agg #[.string ByteArray.empty, .string ByteArray.empty]) 2 32 Tryz.underlying28 hi hz0 hz1 hz2 rfl (by decide) (.slice (some ⟨wz.heap.size, 0, none⟩) 0 0) 0 _ rfl (World.ownsRow_lit (base := W.heap.size) (e := 31) (size := 2) wz #[] 0 hWz.size (by unfold maxLen; decide) rfl) ⟨gy, 0, none⟩ kz cy ub rfl hly ((hyz.alloc _).cells rfl) ?a1 ?a2 ?a3 ?a4 ?_)
      case a1 => exact honeub
      case a2 => unfold maxLen; omega
      case a3 => omega
      case a4 => first | (have := hWz.size; simp; omega) | omega
      intro v' w' hown' hgrow _
      have hbl0 : Below W.heap.size W w' := (hWz.alloc hWz.size _).grown hgrow (by have := hWz.size; simp; omega) (fun j hj => by simp [Value.ownBlock] at hj; have := hWz.size; omega)
      obtain ⟨gl, cl, rfl, hgl1, hgl2⟩ := hown'.form hkz
      have hcl := row_cap hown'
      go_wp2
      have hz3 := owns_far (hzz.alloc _) hgrow (by simp [Value.ownBlock]; omega)
      go_loopw [35] (fun j wr => ∃ i : Nat, i ≤ kz ∧ j = .int .i64 i ∧ Below W.heap.size W wr ∧ Below w'.heap.size w' wr) (fun j _ => kz - (intOf j).toNat)
      case atStart => exact ⟨0, Nat.zero_le _, rfl, hbl0, Below.refl _ _⟩
      case round =>
        obtain ⟨i, hik, rfl, hbW, hbl⟩ := hrel
        by_cases hlt : i < kz
        · obtain ⟨s0, hs0⟩ := str_at hua hlz (i := 2 * i) (by omega)
          obtain ⟨s1', hs1⟩ := str_at hua hlz (i := 2 * i + 1) (by omega)
          have hl2 := owns_below hown' hbl
          have hz4 := owns_below hz3 hbl
          have cl0 : wr.cell? ⟨gl, i * 2, none⟩ = some (.string s0) := by rw [hl2.cellAt _ (by omega), Nat.mul_comm]; exact hs0
          have cl1 : wr.cell? ⟨gl, i * 2 + 1, none⟩ = some (.string s1') := by rw [hl2.cellAt _ (by omega), Nat.mul_comm]; exact hs1
          have cz0 : ∀ o, (wr.alloc o).cell? ⟨gz, i * 2, none⟩ = some (.string s0) := fun o => by rw [(hz4.alloc o).cellAt _ (by omega), Nat.mul_comm]; exact hs0
          have cz1 : ∀ o, (wr.alloc o).cell? ⟨gz, i * 2 + 1, none⟩ = some (.string s1') := fun o => by rw [(hz4.alloc o).cellAt _ (by omega), Nat.mul_comm]; exact hs1
          have hne : ∀ w, (binOp .neq 31 (.agg #[.string s0, .string s1']) (.agg #[.string s0, .string s1'])).run Tryz.prog w = .ok (.bool false) w := fun w => neq_same s0 s1' w
          have hil : i < 4194304 := by omega
          go_wp2
          go_region
          simp only [Exit.inBlock, Exit.then]
          go_at_K
          go_wp2
          go_roundw
          case rel => exact ⟨i + 1, by omega, by go_num, (hbW.alloc hbW.size _).drew, (hbl.alloc hbl.size _).drew⟩
          case measure => simp [intOf]; omega
        · go_wp2
          go_ret
          exact ⟨rfl, hbW⟩
  · obtain ⟨gx, cx, rfl, hgx1, hgx2⟩ := hxz.form hkx
    have hlx := hxz.1
    rcases hyz with ⟨hyb, rfl⟩ | ⟨ky, hky, hyz⟩
    · -- x alone
      subst hyb
      rw [List.append_nil] at hzz hua
      obtain ⟨gz, kz, cz, rfl, hkz, hzz, hgz1, hgz2⟩ := res_more hzz (by intro e; rw [e] at hlx; simp at hlx; omega)
      have hlz := hzz.1
      obtain rfl : kz = kx := by omega
      go_wp2_with (at_builtin; refine wpList_append_own _ rfl _ _ 28 rfl W.heap.size 31 i31 (.agg #[.string ByteArray.empty, .string ByteArray.empty]) 2 32 Tryz.underlying28 hi hz0 hz1 hz2 rfl (by decide) (.slice (some ⟨wz.heap.size, 0, none⟩) 0 0) 0 _ rfl (World.ownsRow_lit (base := W.heap.size) (e := 31) (size := 2) wz #[] 0 hWz.size (by unfold maxLen; decide) rfl) ⟨gx, 0, none⟩ kz cx ua rfl hlx ((hxz.alloc _).cells rfl) ?a1 ?a2 ?a3 ?a4 ?_)
      case a1 => exact honeua
      case a2 => unfold maxLen; omega
      case a3 => omega
      case a4 => first | (have := hWz.size; simp; omega) | omega
      intro v' w' hown' hgrow _
      have hbl0 : Below W.heap.size W w' := (hWz.alloc hWz.size _).grown hgrow (by have := hWz.size; simp; omega) (fun j hj => by simp [Value.ownBlock] at hj; have := hWz.size; omega)
      obtain ⟨gl, cl, rfl, hgl1, hgl2⟩ := hown'.form hkz
      have hcl := row_cap hown'
      go_wp2
      have hz3 := owns_far (hzz.alloc _) hgrow (by simp [Value.ownBlock]; omega)
      go_loopw [35] (fun j wr => ∃ i : Nat, i ≤ kz ∧ j = .int .i64 i ∧ Below W.heap.size W wr ∧ Below w'.heap.size w' wr) (fun j _ => kz - (intOf j).toNat)
      case atStart => exact ⟨0, Nat.zero_le _, rfl, hbl0, Below.refl _ _⟩
      case round =>
        obtain ⟨i, hik, rfl, hbW, hbl⟩ := hrel
        by_cases hlt : i < kz
        · obtain ⟨s0, hs0⟩ := str_at hua hlz (i := 2 * i) (by omega)
          obtain ⟨s1', hs1⟩ := str_at hua hlz (i := 2 * i + 1) (by omega)
          have hl2 := owns_below hown' hbl
          have hz4 := owns_below hz3 hbl
          have cl0 : wr.cell? ⟨gl, i * 2, none⟩ = some (.string s0) := by rw [hl2.cellAt _ (by omega), Nat.mul_comm]; exact hs0
          have cl1 : wr.cell? ⟨gl, i * 2 + 1, none⟩ = some (.string s1') := by rw [hl2.cellAt _ (by omega), Nat.mul_comm]; exact hs1
          have cz0 : ∀ o, (wr.alloc o).cell? ⟨gz, i * 2, none⟩ = some (.string s0) := fun o => by rw [(hz4.alloc o).cellAt _ (by omega), Nat.mul_comm]; exact hs0
          have cz1 : ∀ o, (wr.alloc o).cell? ⟨gz, i * 2 + 1, none⟩ = some (.string s1') := fun o => by rw [(hz4.alloc o).cellAt _ (by omega), Nat.mul_comm]; exact hs1
          have hne : ∀ w, (binOp .neq 31 (.agg #[.string s0, .string s1']) (.agg #[.string s0, .string s1'])).run Tryz.prog w = .ok (.bool false) w := fun w => neq_same s0 s1' w
          have hil : i < 4194304 := by omega
          go_wp2
          go_region
          simp only [Exit.inBlock, Exit.then]
          go_at_K
          go_wp2
          go_roundw
          case rel => exact ⟨i + 1, by omega, by go_num, (hbW.alloc hbW.size _).drew, (hbl.alloc hbl.size _).drew⟩
          case measure => simp [intOf]; omega
        · go_wp2
          go_ret
          exact ⟨rfl, hbW⟩
    · -- both
      obtain ⟨gy, cy, rfl, hgy1, hgy2⟩ := hyz.form hky
      have hly := hyz.1
      obtain ⟨gz, kz, cz, rfl, hkz, hzz, hgz1, hgz2⟩ := res_more hzz (by intro e; have := congrArg List.length e; rw [List.length_append] at this; simp only [List.length_nil] at this; omega)
      have hlz := hzz.1
      have hlz' := hlz
      rw [List.length_append] at hlz'
      obtain rfl : kz = kx + ky := by omega
      go_wp2_with (at_builtin; refine wpList_append_own_at _ rfl _ _ 28 rfl W.heap.size 31 i31 (.agg #[.string ByteArray.empty, .string ByteArray.empty]) 2 32 Tryz.underlying28 hi hz0 hz1 hz2 rfl (by decide) (.slice (some ⟨wz.heap.size, 0, none⟩) 0 0) 0 _ rfl (World.ownsRow_lit (base := W.heap.size) (e := 31) (size := 2) wz #[] 0 hWz.size (by unfold maxLen; decide) rfl) ⟨gx, 0, none⟩ kx cx ua rfl hlx ((hxz.alloc _).cells rfl) ?a1 ?a2 ?a3 ?a4 ?_)
      case a1 => exact honeua
      case a2 => unfold maxLen; omega
      case a3 => omega
      case a4 => first | (have := hWz.size; simp; omega) | omega
      intro v' w' hown' hgrow _ hat
      have hbl0 : Below W.heap.size W w' := (hWz.alloc hWz.size _).grown hgrow (by have := hWz.size; simp; omega) (fun j hj => by simp [Value.ownBlock] at hj; have := hWz.size; omega)
      have hy3 := owns_far (hyz.alloc _) hgrow (by simp [Value.ownBlock]; omega)
      have hzw := owns_far (hzz.alloc _) hgrow (by simp [Value.ownBlock]; omega)
      obtain ⟨gm, cm, rfl, hgm1, hgm2⟩ := hown'.form (by omega)
      have hgm : wz.heap.size ≤ gm := by simp [Value.ownBlock] at hat; rcases hat with h | h <;> omega
      go_wp2_with (at_builtin; refine wpList_append_own _ rfl _ _ 28 rfl W.heap.size 31 i31 (.agg #[.string ByteArray.empty, .string ByteArray.empty]) 2 32 Tryz.underlying28 hi hz0 hz1 hz2 rfl (by decide) (.slice (some ⟨gm, 0, none⟩) kx cm) kx _ rfl hown' ⟨gy, 0, none⟩ ky cy ub rfl hly (hy3.cells rfl) ?b1 ?b2 ?b3 ?b4 ?_)
      case b1 => exact honeub
      case b2 => unfold maxLen; omega
      case b3 => omega
      case b4 => first | (have := hWz.size; simp; omega) | omega
      intro v'' w'' hown'' hgrow2 _
      have hbl1 : Below W.heap.size W w'' := hbl0.grown hgrow2 (by have := hbl0.size; omega) (fun j hj => by simp [Value.ownBlock] at hj; omega)
      obtain ⟨gl, cl, rfl, hgl1, hgl2⟩ := hown''.form (by omega)
      go_wp2
      have hz3 := owns_far hzw hgrow2 (by simp [Value.ownBlock]; omega)
      go_loopw [35] (fun j wr => ∃ i : Nat, i ≤ (kx + ky) ∧ j = .int .i64 i ∧ Below W.heap.size W wr ∧ Below w''.heap.size w'' wr) (fun j _ => (kx + ky) - (intOf j).toNat)
      case atStart => exact ⟨0, Nat.zero_le _, rfl, hbl1, Below.refl _ _⟩
      case round =>
        obtain ⟨i, hik, rfl, hbW, hbl⟩ := hrel
        by_cases hlt : i < (kx + ky)
        · obtain ⟨s0, hs0⟩ := str_at hua hlz (i := 2 * i) (by omega)
          obtain ⟨s1', hs1⟩ := str_at hua hlz (i := 2 * i + 1) (by omega)
          have hl2 := owns_below hown'' hbl
          have hz4 := owns_below hz3 hbl
          have cl0 : wr.cell? ⟨gl, i * 2, none⟩ = some (.string s0) := by rw [hl2.cellAt _ (by omega), Nat.mul_comm]; exact hs0
          have cl1 : wr.cell? ⟨gl, i * 2 + 1, none⟩ = some (.string s1') := by rw [hl2.cellAt _ (by omega), Nat.mul_comm]; exact hs1
          have cz0 : ∀ o, (wr.alloc o).cell? ⟨gz, i * 2, none⟩ = some (.string s0) := fun o => by rw [(hz4.alloc o).cellAt _ (by omega), Nat.mul_comm]; exact hs0
          have cz1 : ∀ o, (wr.alloc o).cell? ⟨gz, i * 2 + 1, none⟩ = some (.string s1') := fun o => by rw [(hz4.alloc o).cellAt _ (by omega), Nat.mul_comm]; exact hs1
          have hne : ∀ w, (binOp .neq 31 (.agg #[.string s0, .string s1']) (.agg #[.string s0, .string s1'])).run Tryz.prog w = .ok (.bool false) w := fun w => neq_same s0 s1' w
          have hil : i < 4194304 := by omega
          go_wp2
          go_region
          simp only [Exit.inBlock, Exit.then]
          go_at_K
          go_wp2
          go_roundw
          case rel => exact ⟨i + 1, by omega, by go_num, (hbW.alloc hbW.size _).drew, (hbl.alloc hbl.size _).drew⟩
          case measure => simp [intOf]; omega
        · go_wp2
          go_ret
          exact ⟨rfl, hbW⟩
end Go.Proofs.YtnehabngggljlaaGreatDoor.uids
