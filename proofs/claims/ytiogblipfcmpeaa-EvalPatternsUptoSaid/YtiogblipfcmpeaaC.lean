import Derived.Test.YtiogblipfcmpeaaRows
import Derived.Test.YtiogblipfcmpeaaB
import Derived.Test.YtiogblipfcmpeaaShelf
import Derived.WalkKit
import Derived.ProofKit
import Derived.OpenShut
import Derived.Below
import Derived.Deep.RegionHeld3
import Derived.Laws.AppendOwn
import Derived.Deep.OwnRows
import Derived.Deep.AppendLies
import Derived.Laws.OwnMore
namespace Go.Proofs.Ytiogblipfcmpeaa.pat
open Go Go.RowKit
set_option linter.unusedVariables false
theorem Cut.inv {x : UInt8} {r : List UInt8} {d : List ByteArray} {c : ByteArray} {o : List ByteArray} (h : Cut (x :: r) d c o) :
    (x = 92 ∧ ∃ r', r = 42 :: r' ∧ Cut r' d (c ++ ⟨#[42]⟩) o) ∨ (x = 42 ∧ Cut r (d ++ [c]) ByteArray.empty o) ∨ (x ≠ 42 ∧ ¬ (x = 92 ∧ r.head? = some 42) ∧ Cut r d (c ++ ⟨#[x]⟩) o) := by
  cases h with
  | esc h => exact .inl ⟨rfl, _, rfl, h⟩
  | star h => exact .inr (.inl ⟨rfl, h⟩)
  | lit h1 h2 h => exact .inr (.inr ⟨h1, h2, h⟩)

theorem Cut.inv_nil {d : List ByteArray} {c : ByteArray} {o : List ByteArray} (h : Cut [] d c o) : o = d ++ [c] := by
  cases h; rfl

theorem likeB_two (s f : ByteArray) (m : List ByteArray) (c : ByteArray) :
    likeB s (f :: (m ++ [c])) = (decide (f.size + c.size ≤ s.size) && Lib.hasPrefix s.data.toList f.data.toList && Lib.hasSuffix s.data.toList c.data.toList && thread m (s.extract f.size (s.size - c.size))) := by
  cases m with
  | nil => rfl
  | cons g r =>
    have e1 : (g :: (r ++ [c])).getLast (by simp) = c := by
      rw [List.getLast_cons (by simp)]; simp
    have e2 : (g :: (r ++ [c])).dropLast = g :: r := by
      rw [← List.cons_append, List.dropLast_concat]
    simp only [List.cons_append, likeB, e1, e2]

theorem beq_dec (a b : ByteArray) : (a.toList == b.toList) = decide (a = b) := by
  rw [ByteArray.toList_eq, ByteArray.toList_eq]
  by_cases h : a = b
  · subst h; simp
  · rw [decide_eq_false h, beq_eq_false_iff_ne]
    exact fun e => h (ba_ext e)

theorem h00 (w : World) {v : Value} (h : w.cell? ⟨0, 0, none⟩ = some v) : 0 < w.heap.size := by
  rcases Nat.eq_zero_or_pos w.heap.size with h0 | h0
  · unfold World.cell? at h
    simp [h0] at h
  · exact h0

theorem info9 : (Try.prog.info? 9).map (fun i => (i.zero, i.size, i.bytes)) = some (some (.string ByteArray.empty), 1, 16) := by kernel_rfl

/-- the library's variable holds some number -/
def MaxOk (w : World) : Prop := ∃ m, w.cell? ⟨0, 0, none⟩ = some (.int .i64 m)

set_option maxHeartbeats 8000000 in
set_option maxRecDepth 100000 in
theorem like_walk (s p : ByteArray) (hs : s.size < 1073741824) (hp : p.size < 1073741824) (w : World) (hm : MaxOk w) :
    Calls Try.prog 6 #[.string s, .string p] w fun e w' => e = .returned (.bool (likeB s (pieces p))) ∧ Below w.heap.size w w' := by
  obtain ⟨i9, hi, hz0, hz1, hz2⟩ := info_parts info9
  go_enter Try.func6, Try.ntmps6
  go_wp2
  go_loopw [5, 6] (fun v i wr => ∃ (k : Nat) (d : List ByteArray) (c : ByteArray), k ≤ p.size ∧ i = .int .i64 k ∧ Cut (p.data.toList.drop k) d c (pieces p) ∧ d.length ≤ k ∧ (∀ x ∈ d ++ [c], x.size ≤ k) ∧
      wr.ownsRow w.heap.size 9 1 v (d.length + 1) ((d ++ [c]).map Value.string) ∧ Below w.heap.size w wr)
    (fun _ i _ => p.size - (intOf i).toNat)
  case atStart =>
    refine ⟨0, [], ByteArray.empty, Nat.zero_le _, rfl, ?_, Nat.le_refl _, ?_, ?_, ?_⟩
    · exact Cut.of_fn _ _ _ _ (Nat.le_refl _)
    · intro x hx; simp at hx; subst hx; simp
    · exact World.ownsRow_lit w #[.string ⟨#[]⟩] 1 (Nat.le_refl _) (by unfold maxLen; decide) rfl
    · exact (Below.refl _ w).alloc (Nat.le_refl _) _
  case round =>
    obtain ⟨k, d, c, hk, rfl, hcut, hd, hsz, hown, hnx⟩ := hrel
    obtain ⟨g, cap, rfl, hg1, hg2⟩ := hown.form (Nat.succ_pos _)
    have hc1 : wr.cell? ⟨g, d.length, none⟩ = some (.string c) := by
      rw [hown.cellAt _ (by omega)]; simp
    have hf1 : wr.frozen? ⟨g, d.length, none⟩ = false := hown.frozenAt _
    have hcs : c.size ≤ k := hsz c (by simp)
    by_cases hkl : k < p.size
    · have hbs : k < p.data.toList.length := by simpa using hkl
      have hL : p.data.toList.drop k = p[k] :: p.data.toList.drop (k + 1) := by
        rw [List.drop_eq_getElem_cons hbs]
        rfl
      rw [hL] at hcut
      have hpk : p.size - k = (p.size - k - 1) + 1 := by omega
      rcases hcut.inv with ⟨hx, r', hr, hcut'⟩ | ⟨hx, hcut'⟩ | ⟨hx1, hx2, hcut'⟩
      · -- a star that is told
        have hr2 : k + 1 < p.data.toList.length := by
          rcases Nat.lt_or_ge (k + 1) p.data.toList.length with h | h
          · exact h
          · rw [List.drop_eq_nil_of_le h] at hr; cases hr
        have hr3 : p.data.toList.drop (k + 1 + 1) = r' := by
          rw [← List.drop_drop, hr]; rfl
        have hps : k + 1 < p.size := by simpa using hr2
        have hpre : Lib.hasPrefix (List.take (p.size - k) (List.drop k p.data.toList)) [92, 42] = true := by
          rw [hL, hr, hx, hpk, show p.size - k - 1 = (p.size - k - 2) + 1 from by omega]
          rfl
        clear hcut hL hr hpk
        go_wp2_with (go_at_call 8; refine (Try.strings_HasPrefix _ _ _).mono ?_; rintro e w' ⟨rfl, rfl⟩)
        go_roundw
        case rel =>
          refine ⟨k + 2, d, c ++ ⟨#[42]⟩, by omega, by go_num, ?_, by omega, ?_, ?_, ?_⟩
          · rw [hr3]; exact hcut'
          · intro x hx
            rcases List.mem_append.1 hx with h | h
            · have := hsz x (by simp [h]); omega
            · simp at h; subst h; have h1 : (c ++ (⟨#[42]⟩ : ByteArray)).size = c.size + 1 := (ByteArray.size_append).trans rfl
              omega
          · have := (hown.stored d.length (.string (c ++ ⟨#[42]⟩))).1
            simpa using this
          · exact hnx.setCell hg1 _
        case measure => simp [intOf]; omega
      · -- a star
        have hpre : Lib.hasPrefix (List.take (p.size - k) (List.drop k p.data.toList)) [92, 42] = false := by
          rw [hL, hx, hpk]
          rfl
        have h42 : ((p[k].toNat : Int) == 42) = true := by rw [hx]; rfl
        clear hcut hL hpk
        go_wp2_with (first
          | (go_at_call 8; refine (Try.strings_HasPrefix _ _ _).mono ?_; rintro e w' ⟨rfl, rfl⟩)
          | (at_builtin; refine wpList_append_own _ rfl _ _ 34 rfl w.heap.size 9 i9 (.string ByteArray.empty) 1 16 Try.underlying34 hi hz0 hz1 hz2 rfl (by decide) _ _ _ rfl (hown.alloc _) ⟨w'.heap.size, 0, none⟩ 1 1 [.string ⟨#[]⟩] rfl rfl ?c1 ?c2 ?c3 ?c4 ?c5 ?_))
        case c1 =>
          intro j u hj
          match j, hj with
          | 0, hj => simp at hj; subst hj; simp [Addr.add]
        case c2 => first | rfl | (intro u hu; simp at hu; subst hu; rfl)
        case c3 => unfold maxLen; omega
        case c4 => omega
        case c5 => have := hnx.size; simp; omega
        intro v' w2 hown' hgrow' _
        go_wp2
        go_roundw
        case rel =>
          refine ⟨k + 1, d ++ [c], ByteArray.empty, by omega, by go_num, hcut', by simp; omega, ?_, ?_, ?_⟩
          · intro x hx
            rcases List.mem_append.1 hx with h | h
            · have := hsz x h; omega
            · simp at h; subst h; simp
          · have he : (ByteArray.empty : ByteArray) = ⟨#[]⟩ := rfl
            rw [he]
            simpa using hown'
          · exact (hnx.alloc (by have := hnx.size; omega) _).grown hgrow' (by have := hnx.size; simp; omega) (fun j hj => by cases hj; exact hg1)
        case measure => simp [intOf]; omega
      · -- any other
        have hpre : Lib.hasPrefix (List.take (p.size - k) (List.drop k p.data.toList)) [92, 42] = false := by
          rw [hL, Bool.eq_false_iff]
          intro ht
          apply hx2
          rw [hpk] at ht
          unfold Lib.hasPrefix at ht
          rw [List.take_succ_cons] at ht
          cases hr : List.drop (k + 1) p.data.toList with
          | nil => rw [hr] at ht; simp at ht
          | cons y r =>
            rw [hr] at ht
            cases hn : p.size - k - 1 with
            | zero => rw [hn] at ht; simp at ht
            | succ n =>
              rw [hn] at ht
              simp at ht
              exact ⟨ht.1.symm, by simp [ht.2]⟩
        have h42 : ((p[k].toNat : Int) == 42) = false := by
          rw [Bool.eq_false_iff]
          intro ht
          apply hx1
          have : (p[k].toNat : Int) = 42 := by simpa using ht
          have h2 : p[k].toNat = (42 : UInt8).toNat := by simpa using (by omega : p[k].toNat = 42)
          exact UInt8.toNat_inj.1 h2
        clear hcut hL hpk
        go_wp2_with (go_at_call 8; refine (Try.strings_HasPrefix _ _ _).mono ?_; rintro e w' ⟨rfl, rfl⟩)
        have b0 : (0 : Int) ≤ (k : Int) := by omega
        have b1 : (k : Int) ≤ (k : Int) + 1 := by omega
        have b2 : (k : Int) + 1 ≤ (p.size : Int) := by omega
        have hdl : d.length < 1073741824 := by omega
        have hex : p.extract k (k + 1) = ⟨#[p[k]]⟩ := by
          apply ba_ext
          rw [ByteArray.data_extract, Array.toList_extract, List.extract_eq_take_drop, List.drop_eq_getElem_cons hbs, show k + 1 - k = 0 + 1 from by omega]
          rfl
        go_region
        simp only [Exit.inBlock, Exit.then]
        go_at_K
        go_wp2
        go_roundw
        case rel =>
          refine ⟨k + 1, d, c ++ ⟨#[p[k]]⟩, by omega, by go_num, hcut', by omega, ?_, ?_, ?_⟩
          · intro x hx
            rcases List.mem_append.1 hx with h | h
            · have := hsz x (by simp [h]); omega
            · simp at h; subst h
              have h1 : (c ++ (⟨#[p[k]]⟩ : ByteArray)).size = c.size + 1 := (ByteArray.size_append).trans rfl
              omega
          · have := (hown.stored d.length (.string (c ++ ⟨#[p[k]]⟩))).1
            exact World.ownsRow.drew (by simpa using this)
          · exact (hnx.setCell hg1 _).drew
        case measure => simp [intOf]; omega
    · -- the pattern is at its end
      have hkz : p.data.toList.drop k = [] := List.drop_eq_nil_of_le (by simp; omega)
      rw [hkz] at hcut
      have hps : pieces p = d ++ [c] := hcut.inv_nil
      clear hcut hkz
      cases d with
      | nil =>
        have hl : likeB s (pieces p) = decide (s = c) := by rw [hps]; rfl
        have hown0 := hown
        simp only [List.length_nil] at hown hc1 hf1 hd
        go_wp2
        go_region
        simp only [Exit.then]
        go_at_K
        go_wp2
        go_ret
        exact ⟨by simp [hl, beq_dec], hnx.drew⟩
      | cons f m =>
        have hsf : f.size ≤ k := hsz f (by simp)
        have hl := likeB_two s f m c
        rw [← List.cons_append, ← hps] at hl
        have hc0 : wr.cell? ⟨g, 0, none⟩ = some (.string f) := by
          rw [hown.cellAt 0 (by omega)]; simp
        have hcm : ∀ j, j < m.length → wr.cell? ⟨g, 1 + j, none⟩ = some (.string (m.getD j ByteArray.empty)) := by
          intro j hj
          rw [Nat.add_comm, hown.cellAt (j + 1) (by simp; omega)]
          simp [List.getElem?_append_left, hj, List.getD]
        simp only [List.length_cons] at hown hc1 hf1 hd
        have bd : m.length < 1073741824 := by omega
        go_wp2
        go_region
        simp only [Exit.then]
        go_at_K
        by_cases hA : s.size < f.size + c.size
        · have hAI : (s.size : Int) < (f.size : Int) + (c.size : Int) := by omega
          have hlf : likeB s (pieces p) = false := by rw [hl, decide_eq_false (by omega)]; rfl
          clear hl hcm hc0 hc1
          go_wp2_with (first
            | (go_at_call 8; refine (Try.strings_HasPrefix _ _ _).mono ?_; rintro e w' ⟨rfl, rfl⟩)
            | (go_at_call 9; refine (Try.strings_HasSuffix _ _ _ (by omega)).mono ?_; rintro e w' ⟨rfl, rfl⟩))
          go_ret
          exact ⟨by simp [hlf], hnx.drew⟩
        have hAI : (f.size : Int) + (c.size : Int) ≤ (s.size : Int) := by omega
        by_cases hB : Lib.hasPrefix s.data.toList f.data.toList = true
        rotate_left
        · have hlf : likeB s (pieces p) = false := by rw [hl, Bool.eq_false_iff.2 hB]; simp
          have hB' := Bool.eq_false_iff.2 hB
          clear hl hcm hc0 hc1 hB
          go_wp2_with (first
            | (go_at_call 8; refine (Try.strings_HasPrefix _ _ _).mono ?_; rintro e w' ⟨rfl, rfl⟩)
            | (go_at_call 9; refine (Try.strings_HasSuffix _ _ _ (by omega)).mono ?_; rintro e w' ⟨rfl, rfl⟩))
          go_ret
          exact ⟨by simp [hlf], hnx.drew⟩
        by_cases hC : Lib.hasSuffix s.data.toList c.data.toList = true
        rotate_left
        · have hlf : likeB s (pieces p) = false := by rw [hl, Bool.eq_false_iff.2 hC]; simp
          have hC' := Bool.eq_false_iff.2 hC
          clear hl hcm hc0 hc1 hC
          go_wp2_with (first
            | (go_at_call 8; refine (Try.strings_HasPrefix _ _ _).mono ?_; rintro e w' ⟨rfl, rfl⟩)
            | (go_at_call 9; refine (Try.strings_HasSuffix _ _ _ (by omega)).mono ?_; rintro e w' ⟨rfl, rfl⟩))
          go_ret
          exact ⟨by simp [hlf], hnx.drew⟩
        have hlt : likeB s (pieces p) = thread m (s.extract f.size (s.size - c.size)) := by rw [hl, hB, hC, decide_eq_true (by omega)]; rfl
        have b3 : (s.size : Int) - (c.size : Int) ≤ (s.size : Int) := by omega
        have b4 : (0 : Int) ≤ (f.size : Int) := by omega
        have b5 : (0 : Int) ≤ (s.size : Int) - (c.size : Int) := by omega
        have hcap : m.length + 1 + 1 ≤ cap := by
          rcases hown.2 with ⟨h, _⟩ | ⟨g', cap', cur, h, _, _, h3, _⟩
          · cases h
          · cases h; exact h3
        have b6 : (m.length : Int) + 1 ≤ (cap : Int) := by omega
        have b7 : (0 : Int) ≤ (m.length : Int) + 1 := by omega
        have b8 : (1 : Int) ≤ (m.length : Int) + 1 := by omega
        have bl : (f.size : Int) ≤ (s.size : Int) - (c.size : Int) := by omega
        clear hl
        go_wp2_with (first
          | (go_at_call 8; refine (Try.strings_HasPrefix _ _ _).mono ?_; rintro e w' ⟨rfl, rfl⟩)
          | (go_at_call 9; refine (Try.strings_HasSuffix _ _ _ (by omega)).mono ?_; rintro e w' ⟨rfl, rfl⟩))
        obtain ⟨lb, hlb⟩ : ∃ lb, Hid (likeB s (pieces p) = lb) := ⟨_, rfl⟩
        replace hlt : lb = thread m (s.extract f.size (s.size - c.size)) := by rw [← show likeB s (pieces p) = lb from hlb]; exact hlt
        obtain ⟨mx, hmx⟩ := hm
        have hmx' : wr.cell? ⟨0, 0, none⟩ = some (.int .i64 mx) := by
          rw [hnx.cell (p := ⟨0, 0, none⟩) (h00 w hmx)]; exact hmx
        go_loopw [0, 105] (fun t j w' => ∃ (jj : Nat) (tt : ByteArray), jj ≤ m.length ∧ j = .int .i64 jj ∧ t = .string tt ∧ tt.size ≤ s.size ∧ thread (m.drop jj) tt = lb ∧ w' = wr.drew)
          (fun _ j _ => m.length - (intOf j).toNat)
        case atStart => exact ⟨0, _, Nat.zero_le _, rfl, rfl, by simp; omega, hlt.symm, rfl⟩
        case round =>
          obtain ⟨jj, tt, hj, rfl, rfl, hts, hth, rfl⟩ := hrel
          clear hlt hi hz0 hz1 hz2
          by_cases hjm : jj < m.length
          · have hcell := hcm jj hjm
            generalize hq : m.getD jj ByteArray.empty = q at hcell
            have hdr : m.drop jj = q :: m.drop (jj + 1) := by
              rw [List.drop_eq_getElem_cons hjm, ← hq]
              simp [List.getD, hjm]
            rw [hdr, thread] at hth
            by_cases hi0 : Lib.index tt.data.toList q.data.toList < 0
            · rw [if_pos hi0] at hth
              subst hth
              clear hcm hdr hq
              go_wp2_with (go_at_call 10; refine (Try.strings_Index _ _ mx _ (by omega) (by exact hmx')).mono ?_; rintro e w' ⟨rfl, rfl⟩)
              go_ret
              exact ⟨by rw [show likeB s (pieces p) = false from hlb]; rfl, hnx.drew⟩
            · rw [if_neg hi0] at hth
              replace hth : Hid _ := hth
              clear hcm hq
              have hroom := Lib.index_room tt.data.toList q.data.toList (by omega)
              have hidx : 0 ≤ Lib.index tt.data.toList q.data.toList := by omega
              have hql : q.data.toList.length = q.size := by simp
              have htl : tt.data.toList.length = tt.size := by simp
              rw [hql, htl] at hroom
              clear hql htl
              go_wp2_with (go_at_call 10; refine (Try.strings_Index _ _ mx _ (by omega) (by exact hmx')).mono ?_; rintro e w' ⟨rfl, rfl⟩)
              go_roundw
              case rel =>
                refine ⟨jj + 1, _, by omega, by go_num, rfl, ?_, ?_, by first | rfl | trivial⟩
                · simp; omega
                · rw [show (Lib.index tt.data.toList q.data.toList + (q.size : Int)).toNat = (Lib.index tt.data.toList q.data.toList).toNat + q.size from by omega]
                  exact hth
              case measure => simp [intOf]; omega
          · have hdr : m.drop jj = [] := List.drop_eq_nil_of_le (by omega)
            rw [hdr] at hth
            go_wp2
            go_ret
            exact ⟨by rw [show likeB s (pieces p) = lb from hlb, ← hth, thread]; rfl, hnx.drew⟩
end Go.Proofs.Ytiogblipfcmpeaa.pat
