/- The operations are right: maps. -/
import Derived.Test.YtijfhoelihclbaaGreatDoorA
import Derived.Tactics
import Derived.Orders
import Derived.LoopN
namespace Go.Abs
open Go

section
variable {C : Cfg} {f : FuncId} {nm : Nm} {H : Heap} {slots : List TV} {a : Act} {w : World} {G : Gh} {v : TV}

/-- what was found, here and there -/
def FR (G : Gh) (es : List (TV × TV × Nat)) (ents : List MapEntry) (u : Value) (i : Nat) : Option (Nat × TV × Nat) → Option (Nat × Value) → Prop
  | none, none => True
  | some (j, v, b), some (j', x) => j = j' ∧ ∃ m e k', j = i + m ∧ ents[m]? = some e ∧ es[m]? = some (k', v, b) ∧ x = e.val ∧ VR G v e.val ∧ e.born = b ∧ Instr.sameBits 10000 e.key u = true
  | _, _ => False

theorem FR.succ {es : List (TV × TV × Nat)} {ents : List MapEntry} {u : Value} {i : Nat} {p : TV × TV × Nat} {e : MapEntry} {r : Option (Nat × TV × Nat)} {r' : Option (Nat × Value)} (h : FR G es ents u (i + 1) r r') : FR G (p :: es) (e :: ents) u i r r' := by
  cases r <;> cases r' <;> try exact h
  rename_i x y
  obtain ⟨j, v, b⟩ := x
  obtain ⟨j', z⟩ := y
  obtain ⟨h1, m, e', k', h2, h3, h4, h5⟩ := h
  exact ⟨h1, m + 1, e', k', by omega, by simpa using h3, by simpa using h4, h5⟩

theorem keyEq_some {kt : TypeId} {d : TypeDesc} {k k' : TV} {u u' : Value} {b : Bool} (hk : dataV k = some u) (hk' : VR G k' u') (h : keyEq C.P kt d k k' = some b) :
    (∀ fs, d ≠ .struct fs) ∧ Instr.sameNow d u u' = some b ∨ (∃ fs, d = .struct fs) ∧ (∀ w, (Op.equal kt u u').run C.P w = .ok b w) ∧ ∃ x, u = .agg x := by
  unfold keyEq at h
  rw [hk] at h
  cases h2 : dataV k' <;> simp only [h2, reduceCtorEq] at h
  have := dataV_eq h2 hk'
  subst this
  split at h
  · rename_i fs
    split at h
    · exact .inr ⟨⟨_, rfl⟩, fun w => pureRun_run h w, _, rfl⟩
    · simp at h
  · rename_i hns
    exact .inl ⟨fun fs e => hns fs e, h⟩

theorem findK_now {kt : TypeId} {d : TypeDesc} {k : TV} {u : Value} (hk : dataV k = some u) (hd : ∀ fs, d ≠ .struct fs) : ∀ {es : List (TV × TV × Nat)} {ents : List MapEntry} {i : Nat} {r : Option (Nat × TV × Nat)}, MR G es ents → findK C.P kt d k es i = some r →
    ∃ r', Instr.findNow d u ents i = some r' ∧ FR G es ents u i r r' := by
  intro es
  induction es with
  | nil =>
    intro ents i r hm h
    cases ents with
    | nil => simp [findK] at h; subst h; exact ⟨none, rfl, trivial⟩
    | cons => simp [MR] at hm
  | cons p rs ih =>
    intro ents i r hm h
    obtain ⟨k', v, b⟩ := p
    cases ents with
    | nil => simp [MR] at hm
    | cons e es' =>
      simp only [MR] at hm
      obtain ⟨h1, h2, h3, h4⟩ := hm
      simp only [findK] at h
      split at h
      · rename_i hq
        rcases keyEq_some hk h1 hq with ⟨_, hs⟩ | ⟨⟨fs, e⟩, _⟩
        · rw [hk] at h
          cases h5 : dataV k' <;> simp only [h5, reduceCtorEq] at h
          have := dataV_eq h5 h1
          subst this
          split at h <;> simp at h
          rename_i hsb
          subst h
          refine ⟨some (i, e.val), by simp [Instr.findNow, hs], rfl, 0, e, k', rfl, rfl, rfl, rfl, h2, h3, hsb⟩
        · exact absurd e (hd fs)
      · rename_i hq
        rcases keyEq_some hk h1 hq with ⟨_, hs⟩ | ⟨⟨fs, e⟩, _⟩
        · obtain ⟨r', h6, h7⟩ := ih h4 h
          exact ⟨r', by simp [Instr.findNow, hs, h6], h7.succ⟩
        · exact absurd e (hd fs)
      · simp at h

theorem findK_ask {kt : TypeId} {fs : Array Field} {k : TV} {u : Value} (hk : dataV k = some u) (w : World) : ∀ {es : List (TV × TV × Nat)} {ents : List MapEntry} {i : Nat} {r : Option (Nat × TV × Nat)}, MR G es ents → findK C.P kt (.struct fs) k es i = some r →
    ∃ r', (Instr.findAsking kt u ents i).run C.P w = .ok r' w ∧ FR G es ents u i r r' := by
  intro es
  induction es with
  | nil =>
    intro ents i r hm h
    cases ents with
    | nil => simp [findK] at h; subst h; exact ⟨none, rfl, trivial⟩
    | cons => simp [MR] at hm
  | cons p rs ih =>
    intro ents i r hm h
    obtain ⟨k', v, b⟩ := p
    cases ents with
    | nil => simp [MR] at hm
    | cons e es' =>
      simp only [MR] at hm
      obtain ⟨h1, h2, h3, h4⟩ := hm
      simp only [findK] at h
      split at h
      · rename_i hq
        rcases keyEq_some hk h1 hq with ⟨hn, _⟩ | ⟨_, hs, _⟩
        · exact absurd rfl (hn fs)
        · rw [hk] at h
          cases h5 : dataV k' <;> simp only [h5, reduceCtorEq] at h
          have := dataV_eq h5 h1
          subst this
          split at h <;> simp at h
          rename_i hsb
          subst h
          refine ⟨some (i, e.val), by simp [Instr.findAsking, hs], rfl, 0, e, k', rfl, rfl, rfl, rfl, h2, h3, hsb⟩
      · rename_i hq
        rcases keyEq_some hk h1 hq with ⟨hn, _⟩ | ⟨_, hs, _⟩
        · exact absurd rfl (hn fs)
        · obtain ⟨r', h6, h7⟩ := ih h4 h
          exact ⟨r', by simp [Instr.findAsking, hs, h6], h7.succ⟩
      · simp at h

theorem findK_run {kt : TypeId} {tk : TI} {k : TV} {u : Value} (ht : tyOf C.P kt = some tk) (hk : dataV k = some u) {es : List (TV × TV × Nat)} {ents : List MapEntry} {r : Option (Nat × TV × Nat)} (hm : MR G es ents) (h : findK C.P kt tk.desc k es 0 = some r) (w : World) :
    ∃ r', (Instr.findKey kt u ents).run C.P w = .ok r' w ∧ FR G es ents u 0 r r' := by
  obtain ⟨_, _, hu, _⟩ := tyOf_info ht
  have hu' := underlying_run hu w
  by_cases hd : ∃ fs, tk.desc = .struct fs
  · obtain ⟨fs, hd⟩ := hd
    rw [hd] at h hu'
    cases ents with
    | nil =>
      cases es with
      | nil => simp [findK] at h; subst h; exact ⟨none, by simp [Instr.findKey, hu', Instr.findNow], trivial⟩
      | cons => simp [MR] at hm
    | cons e es' =>
      obtain ⟨r', h1, h2⟩ := findK_ask hk w hm h
      refine ⟨r', ?_, h2⟩
      have hnone : Instr.findNow (.struct fs) u (e :: es') 0 = none := by
        simp [Instr.findNow, Instr.sameNow]
      simp [Instr.findKey, hu', hnone, h1]
  · have hd' : ∀ fs, tk.desc ≠ .struct fs := fun fs e => hd ⟨fs, e⟩
    obtain ⟨r', h1, h2⟩ := findK_now hk hd' hm h
    exact ⟨r', by simp [Instr.findKey, hu', h1], h2⟩

theorem keyOk_run {empty : Bool} {kt : TypeId} {k : TV} (h : keyOk C.P empty kt k = true) (w : World) : ∃ u, dataV k = some u ∧ (Instr.checkKey empty 10000 kt u).run C.P w = .ok () w := by
  unfold keyOk at h
  split at h
  · rename_i u hu
    obtain ⟨x, hx⟩ := Option.isSome_iff_exists.1 h
    exact ⟨u, hu, pureRun_run hx w⟩
  · simp at h

theorem MR.length {es : List (TV × TV × Nat)} {ents : List MapEntry} (h : MR G es ents) : es.length = ents.length := by
  induction es generalizing ents with
  | nil => cases ents <;> simp_all [MR]
  | cons p r ih => cases ents <;> simp [MR] at h ⊢; exact ih h.2.2.2

theorem getObj_map {r : Nat} {ents : Array MapEntry} {c : Nat} (h : w.heap[r]? = some (.map ents c)) : (getObj r).run C.P w = .ok (.map ents c) w := by
  simp [getObj, Sem.run, h]

theorem setObj_map {r : Nat} {ents : Array MapEntry} {c : Nat} (h : w.heap[r]? = some (.map ents c)) (o : Obj) : (setObj r o).run C.P w = .ok () { w with heap := w.heap.setIfInBounds r o } := by
  simp [setObj, Sem.run, h]

theorem lookupT_run {t : TypeId} {x k : TV} {xv kv : Value} {ok : Bool} (hH : HR G w H) (hx : VR G x xv) (hk : VR G k kv) (h : lookupT C.P H t x k ok = some v) : ∃ r, (Instr.lookup t xv kv ok).run C.P w = .ok r w ∧ VR G v r := by
  unfold lookupT at h
  cases ht : tyOf C.P t <;> simp only [ht, reduceCtorEq] at h
  rename_i ti
  obtain ⟨_, _, hu, _⟩ := tyOf_info ht
  split at h
  · rename_i kt et hd
    rw [hd] at hu
    have hu' := underlying_run hu w
    split at h
    · rename_i tk te es c htk hte hes
      split at h
      · rename_i hko
        have hempty : ∀ ents : Array MapEntry, MR G es ents.toList → es.isEmpty = ents.isEmpty := by
          intro ents hmr
          have hl := hmr.length
          simp only [Array.length_toList] at hl
          rw [Array.isEmpty, ← hl]
          cases es <;> simp
        obtain ⟨u, hku, hck⟩ := keyOk_run hko w
        have := dataV_eq hku hk
        subst this
        -- behind the entries
        have core : ∀ ents : Array MapEntry, MR G es ents.toList → ∃ r, VR G v r ∧ (Instr.checkKey ents.isEmpty 10000 kt kv).run C.P w = .ok () w ∧
            ((∃ j e, (Instr.findKey kt kv ents.toList).run C.P w = .ok (some (j, e)) w ∧ r = if ok then .tuple #[e, .bool true] else e) ∨
             (∃ z, (Instr.findKey kt kv ents.toList).run C.P w = .ok none w ∧ (zeroValue et).run C.P w = .ok z w ∧ r = if ok then .tuple #[z, .bool false] else z)) := by
          intro ents hmr
          split at h
          · rename_i j v' b hf
            obtain ⟨r', hr1, hr2⟩ := findK_run htk hku hmr hf w
            cases r' with
            | none => exact absurd hr2 id
            | some y =>
            obtain ⟨j', y⟩ := y
            obtain ⟨rfl, m, e, k', _, _, _, rfl, hve, _, _⟩ := hr2
            simp at h
            subst h
            refine ⟨if ok then .tuple #[e.val, .bool true] else e.val, ?_, by rw [← hempty ents hmr]; exact hck, .inl ⟨j, e.val, hr1, rfl⟩⟩
            cases ok
            · exact hve
            · exact mkTup_VR (VRs.cons hve (VRs.one (.t _ _ (.bool true))))
          · rename_i z hf hz
            obtain ⟨r', hr1, hr2⟩ := findK_run htk hku hmr hf w
            cases r' with
            | some y => exact absurd hr2 id
            | none =>
            obtain ⟨zv, hz1, hz2⟩ := zeroValue_run hte hz w G
            simp at h
            subst h
            refine ⟨if ok then .tuple #[zv, .bool false] else zv, ?_, by rw [← hempty ents hmr]; exact hck, .inr ⟨zv, hr1, hz1, rfl⟩⟩
            cases ok
            · exact hz2
            · exact mkTup_VR (VRs.cons hz2 (VRs.one (.t _ _ (.bool false))))
          · simp at h
        split at hes
        · simp at hes
          obtain ⟨rfl, _⟩ := hes
          cases hx with | t _ _ hx =>
          cases hx
          obtain ⟨r, hr, hck', hcase⟩ := core #[] trivial
          refine ⟨r, ?_, hr⟩
          simp at hck'
          rcases hcase with ⟨j, e, hf, rfl⟩ | ⟨z, hf, hz, rfl⟩
          · simp at hf
            cases ok <;> simp [Instr.lookup, hu', hck', hf]
          · simp at hf
            cases ok <;> simp [Instr.lookup, hu', hck', hf, hz]
        · unfold mapOf at hes
          split at hes
          · rename_i m hnn
            split at hes <;> simp at hes
            rename_i es' c' hm
            obtain ⟨rfl, _⟩ := hes
            obtain ⟨hd', har, ents, hh, hmr, _⟩ := hH _ _ hm
            cases hx with | map _ _ _ =>
            obtain ⟨r, hr, hck', hcase⟩ := core ents hmr
            refine ⟨r, ?_, hr⟩
            rcases hcase with ⟨j, e, hf, rfl⟩ | ⟨z, hf, hz, rfl⟩
            · cases ok <;> simp [Instr.lookup, hu', getObj_map hh, hck', hf]
            · cases ok <;> simp [Instr.lookup, hu', getObj_map hh, hck', hf, hz]
          · simp at hes
      · simp at h
    · simp at h
  · simp at h

/-! ### Writing into a map -/
theorem map_step (hw : WF G w) {k : Nm} (hd : G.dom k) {ents : Array MapEntry} {c : Nat} (hh : w.heap[G.mu k]? = some (.map ents c)) (hF : ∀ o, G.F (G.mu k) o = none) (o : Obj) :
    Step (fun x => x = k) (fun _ => False) G w G { w with heap := w.heap.setIfInBounds (G.mu k) o } := by
  refine ⟨.refl G, ⟨fun b p u h => ?_, hw.inj, fun x d => by simpa using hw.lt x d⟩, fun _ _ _ => ⟨rfl, rfl⟩, fun b hb hn => ⟨?_, fun _ => rfl⟩, fun _ d => .inl d, fun _ d => .inl ⟨d, rfl⟩, by simp, rfl, rfl, rfl⟩
  · obtain ⟨us, ty, fr, h1, h2⟩ := hw.F b p u h
    have hne : G.mu k ≠ b := by intro e; subst e; rw [hF] at h; simp at h
    exact ⟨us, ty, fr, by show (w.heap.setIfInBounds _ _)[b]? = _; rw [Array.getElem?_setIfInBounds, if_neg hne]; exact h1, h2⟩
  · show (w.heap.setIfInBounds _ _)[b]? = _
    rw [Array.getElem?_setIfInBounds, if_neg (hn k rfl hd)]

theorem MR.push : ∀ {es : List (TV × TV × Nat)} {ents : List MapEntry} {k x : TV} {kv xv : Value} {c : Nat}, MR G es ents → VR G k kv → VR G x xv → MR G (es ++ [(k, x, c)]) (ents ++ [{ key := kv, val := xv, born := c }]) := by
  intro es
  induction es with
  | nil => intro ents k x kv xv c h h1 h2; cases ents <;> simp_all [MR]
  | cons p r ih =>
    intro ents k x kv xv c h h1 h2
    obtain ⟨k', v', b'⟩ := p
    cases ents with
    | nil => simp [MR] at h
    | cons e es' => simp only [MR, List.cons_append] at h ⊢; exact ⟨h.1, h.2.1, h.2.2.1, ih h.2.2.2 h1 h2⟩

theorem MR.set : ∀ {es : List (TV × TV × Nat)} {ents : List MapEntry} {m : Nat} {k x k' v' : TV} {b : Nat} {e : MapEntry} {kv xv : Value}, MR G es ents → es[m]? = some (k', v', b) → ents[m]? = some e → VR G k kv → VR G x xv →
    MR G (es.set m (k, x, b)) (ents.set m { e with key := kv, val := xv }) := by
  intro es
  induction es with
  | nil => intro ents m k x k' v' b e kv xv h h1; simp at h1
  | cons p r ih =>
    intro ents m k x k' v' b e kv xv h h1 h2 h3 h4
    obtain ⟨k0, v0, b0⟩ := p
    cases ents with
    | nil => simp [MR] at h
    | cons e0 es' =>
      simp only [MR] at h
      cases m with
      | zero =>
        simp at h1 h2
        obtain ⟨rfl, rfl, rfl⟩ := h1
        subst h2
        simp only [List.set_cons_zero, MR]
        exact ⟨h3, h4, h.2.2.1, h.2.2.2⟩
      | succ m =>
        simp only [List.set_cons_succ, MR]
        exact ⟨h.1, h.2.1, h.2.2.1, ih h.2.2.2 (by simpa using h1) (by simpa using h2) h3 h4⟩

theorem modify_set {ents : Array MapEntry} {m : Nat} {e : MapEntry} (f : MapEntry → MapEntry) (h : ents[m]? = some e) : (ents.modify m f).toList = ents.toList.set m (f e) := by
  apply List.ext_getElem?
  intro i
  rw [Array.getElem?_toList, Array.getElem?_modify, List.getElem?_set]
  have hm : m < ents.size := (Array.getElem?_eq_some_iff.1 h).1
  by_cases c : m = i
  · subst c
    rw [if_pos rfl, if_pos rfl, h]
    simp [hm]
  · rw [if_neg c, if_neg c]
    simp

theorem map_OR {k : Nm} (hw : WF G w) (hd : G.dom k) (har : G.arr k = none) (hF : ∀ o, G.F (G.mu k) o = none) {es : List (TV × TV × Nat)} {ents : Array MapEntry} {c : Nat} (h : MR G es ents.toList) :
    OR G { w with heap := w.heap.setIfInBounds (G.mu k) (.map ents c) } k (.map es c) := by
  refine ⟨har, ents, ?_, h, hF⟩
  have := hw.lt k hd
  simp [this]

/-- the entries behind an update, and the count -/
def updE (k x : TV) (es : List (TV × TV × Nat)) (c : Nat) : Option (Nat × TV × Nat) → List (TV × TV × Nat)
  | some (i, _, b) => es.set i (k, x, b)
  | none => es ++ [(k, x, c)]
def updC (c : Nat) : Option (Nat × TV × Nat) → Nat
  | some _ => c
  | none => c + 1

/-- an update, wherever the key is -/
theorem mapUpdate_run {t kt et : TypeId} {ti tk : TI} {k x : TV} {m : Nm} {kv xv : Value} {es : List (TV × TV × Nat)} {c : Nat} {r : Option (Nat × TV × Nat)} (hw : WF G w) (hH : HR G w H) (ht : tyOf C.P t = some ti) (hd : ti.desc = .map kt et) (hm : H.get m = some (.map es c))
    (htk : tyOf C.P kt = some tk) (hko : keyOk C.P false kt k = true) (hk : VR G k kv) (hx : VR G x xv) (hf : findK C.P kt tk.desc k es 0 = some r) :
    ∃ ents' : Array MapEntry, ∃ c', (Instr.mapUpdate t (.map (some (G.mu m))) kv xv).run C.P w = .ok () { w with heap := w.heap.setIfInBounds (G.mu m) (.map ents' c') } ∧
      MR G (updE k x es c r) ents'.toList ∧ c' = updC c r := by
  obtain ⟨_, _, hu, _⟩ := tyOf_info ht
  rw [hd] at hu
  have hu' := underlying_run hu w
  obtain ⟨hdm, har, ents, hh, hmr, hF⟩ := hH m _ hm
  obtain ⟨u, hku, hck⟩ := keyOk_run hko w
  have := dataV_eq hku hk
  subst this
  obtain ⟨r', hr1, hr2⟩ := findK_run htk hku hmr hf w
  cases r with
  | none =>
    cases r' with
    | some _ => exact absurd hr2 id
    | none =>
    refine ⟨ents.push { key := kv, val := xv, born := c }, c + 1, ?_, by simpa [updE] using hmr.push hk hx, rfl⟩
    simp [Instr.mapUpdate, hu', getObj_map hh, hck, hr1, setObj_map hh]
  | some y =>
    obtain ⟨i, v0, b⟩ := y
    cases r' with
    | none => exact absurd hr2 id
    | some y' =>
    obtain ⟨i', x0⟩ := y'
    obtain ⟨rfl, p, e, k', hip, he, hes, rfl, _, hb, hsb⟩ := hr2
    have hip' : i = p := by omega
    subst hip'
    have he' : ents[i]? = some e := by simpa using he
    refine ⟨ents.modify i fun e => { e with key := kv, val := xv }, c, ?_, ?_, rfl⟩
    · have hkey : (((ents[i]?).map (·.key)).getD kv) = e.key := by rw [he']; rfl
      have hstay : (Instr.keyThatStays e.key kv).run C.P w = .ok kv w := by simp [Instr.keyThatStays, hsb]
      simp only [Instr.mapUpdate, Sem.run_bind, hu', Result.andThen_ok, getObj_map hh, hck, hr1]
      rw [hkey, hstay]
      simp [setObj_map hh]
    · rw [modify_set _ he']
      exact hmr.set hes he hk hx

end
end Go.Abs

namespace Go.Abs
open Go

section
variable {C : Cfg} {f : FuncId} {nm : Nm} {H : Heap} {slots : List TV} {a : Act} {w : World} {G : Gh} {v : TV}

theorem mapUpdateT_ok {o : Oper} {t : TypeId} {m k x : TV} {xm xk xx : Operand} {u : List (Nm × AObj)} (hw : WF G w) (hH : HR G w H) (ho : o.op = .mapUpdate t xm xk xx ∨ o.op = .insert t xm xk xx) (hm : VR G m (a.eval xm)) (hk : VR G k (a.eval xk)) (hx : VR G x (a.eval xx))
    (h : mapUpdateT C.P H t m k x = some u) : OpOk C.P nm o a w G undefT u := by
  unfold mapUpdateT at h
  split at h
  · rename_i ti mm ht
    split at h
    · rename_i kt et es c hd hmm
      cases htk : tyOf C.P kt <;> simp only [htk, reduceCtorEq] at h
      rename_i tk
      split at h
      · rename_i hko
        obtain ⟨hdm, har, ents, hh, hmr, hF⟩ := hH mm _ hmm
        have hmv : a.eval xm = .map (some (G.mu mm)) := by generalize a.eval xm = z at hm; cases hm; rfl
        have fin : ∀ r, findK C.P kt tk.desc k es 0 = some r → u = [(mm, .map (updE k x es c r) (updC c r))] → OpOk C.P nm o a w G undefT u := by
          intro r hf hu
          obtain ⟨ents', c', hrun, hmr', hc⟩ := mapUpdate_run hw hH ht hd hmm htk hko hk hx hf
          have hor : OR G { w with heap := w.heap.setIfInBounds (G.mu mm) (.map ents' c') } mm (.map (updE k x es c r) (updC c r)) := by
            rw [← hc]; exact map_OR hw hdm har hF hmr'
          refine OpOk.of_skip (w' := { w with heap := w.heap.setIfInBounds (G.mu mm) (.map ents' c') }) (G' := G) ?_ ((map_step hw hdm hh hF _).mono (fun x _ e => by simp [hu, e]) (fun _ e => e.elim)) ?_
          · rcases ho with ho | ho <;> simp [execOp, ho, hmv, hrun]
          · intro k' ob hmem
            rw [hu] at hmem
            simp at hmem
            obtain ⟨rfl, rfl⟩ := hmem
            exact ⟨hdm, hor⟩
        split at h
        · rename_i i v0 b hf
          simp at h
          exact fin _ hf h.symm
        · rename_i hf
          simp at h
          exact fin _ hf h.symm
        · simp at h
      · simp at h
    · simp at h
  · simp at h

theorem mapEntryT_ok {o : Oper} {t : TypeId} {m k : TV} {xm xk : Operand} {u : List (Nm × AObj)} (hw : WF G w) (hH : HR G w H) (ho : o.op = .mapEntry t xm xk) (hm : VR G m (a.eval xm)) (hk : VR G k (a.eval xk))
    (h : mapEntryT C.P H t m k = some (v, u)) : OpOk C.P nm o a w G v u := by
  unfold mapEntryT at h
  split at h
  · rename_i ti mm ht
    obtain ⟨_, _, hu, _⟩ := tyOf_info ht
    split at h
    · rename_i kt et es c hd hmm
      rw [hd] at hu
      have hu' := underlying_run hu w
      split at h
      · rename_i tk te htk hte
        split at h
        · rename_i hko
          obtain ⟨hdm, har, ents, hh, hmr, hF⟩ := hH mm _ hmm
          have hmv : a.eval xm = .map (some (G.mu mm)) := by generalize a.eval xm = z at hm; cases hm; rfl
          obtain ⟨kv, hku, hck⟩ := keyOk_run hko w
          have hkv := dataV_eq hku hk
          split at h
          · rename_i i v0 b hf
            simp at h
            obtain ⟨rfl, rfl⟩ := h
            obtain ⟨r', hr1, hr2⟩ := findK_run htk hku hmr hf w
            cases r' with
            | none => exact absurd hr2 id
            | some y' =>
            obtain ⟨i', x0⟩ := y'
            obtain ⟨rfl, p, e, k', hip, he, hes, rfl, hve, hb, hsb⟩ := hr2
            have hip' : i = p := by omega
            subst hip'
            have hbb : e.born = b := hb
            have he' : ents[i]? = some e := by simpa using he
            have hkey : (((ents[i]?).map (·.key)).getD kv) = e.key := by rw [he']; rfl
            have hborn : (((ents[i]?).map (·.born)).getD 0) = b := by rw [he']; exact hb
            have hstay : (Instr.keyThatStays e.key kv).run C.P w = .ok kv w := by simp [Instr.keyThatStays, hsb]
            refine OpOk.of_value (w' := { w with heap := w.heap.setIfInBounds (G.mu mm) (.map (ents.modify i fun e => { e with key := kv }) c) }) (G' := G) (x := .tuple #[e.val, .int .i64 (b : Int)]) ?_ ((map_step hw hdm hh hF _).mono (fun x _ e => by simp [e]) (fun _ e => e.elim)) ?_ (mkTup_VR (VRs.cons hve (VRs.one (.t _ _ (.int _ _)))))
            · simp only [execOp, ho, hmv, hkv, Instr.mapEntry, Sem.run_bind, hu', Result.andThen_ok, getObj_map hh, hck, hr1]
              rw [hkey, hstay]
              simp [setObj_map hh, goInt]
              rw [he']
              simp [hbb]
            · intro k'' ob hmem
              simp at hmem
              obtain ⟨rfl, rfl⟩ := hmem
              refine ⟨hdm, map_OR hw hdm har hF ?_⟩
              rw [modify_set _ he']
              exact hmr.set hes he (by rw [← hkv]; exact hk) hve
          · rename_i z hf hz
            simp at h
            obtain ⟨rfl, rfl⟩ := h
            obtain ⟨r', hr1, hr2⟩ := findK_run htk hku hmr hf w
            cases r' with
            | some _ => exact absurd hr2 id
            | none =>
            obtain ⟨zv, hz1, hz2⟩ := zeroValue_run hte hz w G
            refine OpOk.of_value (w' := { w with heap := w.heap.setIfInBounds (G.mu mm) (.map (ents.push { key := kv, val := zv, born := c }) (c + 1)) }) (G' := G) (x := .tuple #[zv, .int .i64 (c : Int)]) ?_ ((map_step hw hdm hh hF _).mono (fun x _ e => by simp [e]) (fun _ e => e.elim)) ?_ (mkTup_VR (VRs.cons hz2 (VRs.one (.t _ _ (.int _ _)))))
            · simp only [execOp, ho, hmv, hkv, Instr.mapEntry, Sem.run_bind, hu', Result.andThen_ok, getObj_map hh, hck, hr1]
              simp [hz1, setObj_map hh, goInt]
            · intro k'' ob hmem
              simp at hmem
              obtain ⟨rfl, rfl⟩ := hmem
              refine ⟨hdm, map_OR hw hdm har hF ?_⟩
              simpa using hmr.push (by rw [← hkv]; exact hk) hz2
          · simp at h
        · simp at h
      · simp at h
    · simp at h
  · simp at h

theorem stampAt_some : ∀ {es : List (TV × TV × Nat)} {n : Int} {i j : Nat}, stampAt es n i = some j → ∃ p, j = i + p ∧ (∃ k x b, es[p]? = some (k, x, b) ∧ (b : Int) = n) ∧ ∀ q, q < p → ∀ k x b, es[q]? = some (k, x, b) → (b : Int) ≠ n := by
  intro es
  induction es with
  | nil => intro n i j h; simp [stampAt] at h
  | cons e r ih =>
    intro n i j h
    obtain ⟨k, x, b⟩ := e
    simp only [stampAt] at h
    split at h
    · rename_i hb
      simp at h
      exact ⟨0, by omega, ⟨k, x, b, rfl, hb⟩, fun q hq => by omega⟩
    · rename_i hb
      obtain ⟨p, h1, h2, h3⟩ := ih h
      refine ⟨p + 1, by omega, by simpa using h2, fun q hq k' x' b' hqe => ?_⟩
      cases q with
      | zero => simp at hqe; obtain ⟨_, _, rfl⟩ := hqe; exact hb
      | succ q => exact h3 q (by omega) k' x' b' (by simpa using hqe)

theorem MR.get : ∀ {es : List (TV × TV × Nat)} {ents : List MapEntry} {p : Nat} {k x : TV} {b : Nat}, MR G es ents → es[p]? = some (k, x, b) → ∃ e, ents[p]? = some e ∧ VR G k e.key ∧ VR G x e.val ∧ e.born = b := by
  intro es
  induction es with
  | nil => intro ents p k x b h h1; simp at h1
  | cons q r ih =>
    intro ents p k x b h h1
    obtain ⟨k0, v0, b0⟩ := q
    cases ents with
    | nil => simp [MR] at h
    | cons e0 es' =>
      simp only [MR] at h
      cases p with
      | zero => simp at h1; obtain ⟨rfl, rfl, rfl⟩ := h1; exact ⟨e0, rfl, h.1, h.2.1, h.2.2.1⟩
      | succ p => simpa using ih h.2.2.2 (by simpa using h1)

theorem entryStoreT_ok {o : Oper} {t : TypeId} {m s x : TV} {xm xs xx : Operand} {u : List (Nm × AObj)} (hw : WF G w) (hH : HR G w H) (ho : o.op = .entryStore t xm xs xx) (hm : VR G m (a.eval xm)) (hs : VR G s (a.eval xs)) (hx : VR G x (a.eval xx))
    (h : entryStoreT H m s x = some u) : OpOk C.P nm o a w G undefT u := by
  unfold entryStoreT at h
  split at h
  · rename_i mm k n
    split at h
    · rename_i es c hmm
      split at h
      · rename_i i hst
        split at h
        · rename_i k0 x0 b hes
          simp at h
          subst h
          obtain ⟨hdm, har, ents, hh, hmr, hF⟩ := hH mm _ hmm
          have hmv : a.eval xm = .map (some (G.mu mm)) := by generalize a.eval xm = z at hm; cases hm; rfl
          have hsv := hs.int
          obtain ⟨p, hp, ⟨k1, x1, b1, hp1, hp2⟩, hp3⟩ := stampAt_some hst
          have hpi : p = i := by omega
          subst hpi
          rw [hes] at hp1
          simp at hp1
          obtain ⟨rfl, rfl, rfl⟩ := hp1
          obtain ⟨e, he, hke, hve, hbe⟩ := hmr.get hes
          have he' : ents[p]? = some e := by simpa using he
          have hfind : ents.findIdx? (fun e => (e.born : Int) == n) = some p := by
            rw [Array.findIdx?_eq_some_iff_getElem]
            have hpl : p < ents.size := (Array.getElem?_eq_some_iff.1 he').1
            have hpe : ents[p] = e := (Array.getElem?_eq_some_iff.1 he').2
            refine ⟨hpl, by simp [hpe, hbe, hp2], fun q hq => ?_⟩
            have hql : q < es.length := by have := hmr.length; simp at this; omega
            obtain ⟨eq, heq, _, _, hbq⟩ := hmr.get (p := q) (k := es[q].1) (x := es[q].2.1) (b := es[q].2.2) (List.getElem?_eq_getElem hql)
            have := hp3 q hq es[q].1 es[q].2.1 es[q].2.2 (List.getElem?_eq_getElem hql)
            have heq' : ents[q]? = some eq := by simpa using heq
            have hqe : ents[q]'(by omega) = eq := (Array.getElem?_eq_some_iff.1 heq').2
            simp only [hqe, hbq, Bool.not_eq_true, beq_eq_false_iff_ne, ne_eq]
            exact this
          refine OpOk.of_skip (w' := { w with heap := w.heap.setIfInBounds (G.mu mm) (.map (ents.modify p fun e => { e with val := a.eval xx }) c) }) (G' := G) ?_ ((map_step hw hdm hh hF _).mono (fun x _ e => by simp [e]) (fun _ e => e.elim)) ?_
          · simp only [execOp, ho, hmv, hsv, Instr.entryStore]
            simp [getObj_map hh, asInt, asIntOf, hfind, setObj_map hh]
          · intro k' ob hmem
            simp at hmem
            obtain ⟨rfl, rfl⟩ := hmem
            refine ⟨hdm, map_OR hw hdm har hF ?_⟩
            rw [modify_set _ he']
            have := hmr.set (k := k0) (x := x) (kv := e.key) (xv := a.eval xx) hes he hke hx
            exact this
        · simp at h
      · simp at h
    · simp at h
  · simp at h

/-! ### All operations -/
theorem unitU_some {x : Option (List (Nm × AObj))} {u : List (Nm × AObj)} (h : unitU x = some (v, u)) : v = undefT ∧ x = some u := by
  cases x <;> simp [unitU] at h
  exact ⟨h.1.symm, by rw [h.2]⟩

theorem optT_VRo (hs : SR G slots a) (hg : GlobR C G) {x : Option Operand} {p : Option TV} (h : optT C slots x = some p) : VRo G p (x.map a.eval) := by
  cases x with
  | none => simp [optT] at h; subst h; trivial
  | some x =>
    simp only [optT] at h
    cases hr : rhoT C slots x <;> simp [hr] at h
    subst h
    exact rho_VR hs hg hr

theorem builtinT_ok {o : Oper} {b : Builtin} {args : Array Operand} {ats : Array TypeId} {vs : List TV} {u : List (Nm × AObj)} (hw : WF G w) (hH : HR G w H) (hn : ¬ G.dom nm) (ho : o.op = .call { callee := .builtin b, args, argTypes := ats })
    (hv : VRs G vs (args.map a.eval).toList) (h : builtinT C nm H b ats.toList vs = some (v, u)) : OpOk C.P nm o a w G v u := by
  unfold builtinT at h
  split at h
  · rename_i t x hat
    have hats : ats = #[t] := by rw [← Array.toArray_toList (xs := ats), hat]
    obtain ⟨xv, rest, he1, hx, hrest⟩ := hv.uncons
    have hr2 : rest = [] := by have := hrest.1; simpa using this
    subst hr2
    have hav : args.map a.eval = #[xv] := by rw [← Array.toArray_toList (xs := args.map a.eval), he1]
    cases ht : tyOf C.P t <;> simp only [ht, reduceCtorEq] at h
    rename_i ti
    obtain ⟨_, _, hu, _⟩ := tyOf_info ht
    have hu' := underlying_run hu w
    have fin : ∀ n : Nat, (Builtin.len_ #[t] o.type #[xv]).run C.P w = .ok (.int .i64 (n : Int)) w → v = .t (.int .i64 (n : Int)) → u = [] → OpOk C.P nm o a w G v u := by
      intro n hr hv' hu2
      subst hv'; subst hu2
      exact OpOk.quiet hw (builtin_exec ho (fun cs => by rw [hats, hav]; simp [builtin, hr])) (.t _ _ (.int _ _))
    split at h
    · rename_i n e hd
      simp at h
      refine fin n ?_ h.1.symm h.2
      rw [hd] at hu'
      simp [Builtin.len_, hu', goInt]
    · rename_i hd
      rw [hd] at hu'
      split at h
      · rename_i s
        simp at h
        have := hx.str
        subst this
        refine fin s.length ?_ h.1.symm h.2
        have hsz : (ByteArray.mk s.toArray).size = s.length := by show s.toArray.size = _; simp
        simp [Builtin.len_, hu', goInt, hsz]
      · simp at h
    · rename_i e hd
      rw [hd] at hu'
      split at h
      · simp at h
      · simp at h
      · simp at h
      · rename_i hn1 hn2 hn3
        cases hl : lenT H x <;> simp [hl] at h
        rename_i n
        have hslice : ∃ b c, xv = .slice b n c := by
          rcases lenT_VR hx hl with ⟨s, rfl, _⟩ | h1 | rfl | ⟨k, rfl⟩ | ⟨k, o', l, rfl, rfl⟩
          · exact absurd rfl (hn1 _)
          · exact h1
          · exact absurd rfl hn2
          · exact absurd rfl (hn3 _)
          · cases hx with | ref _ _ _ _ _ _ _ _ _ _ ho' _ => exact ho'
        obtain ⟨b', c', rfl⟩ := hslice
        refine fin n ?_ h.1.symm h.2
        simp [Builtin.len_, hu', goInt]
    · rename_i k e hd
      rw [hd] at hu'
      split at h
      · simp at h
        have : xv = .map none := by cases hx with | t _ _ hx => cases hx; rfl
        subst this
        refine fin 0 ?_ h.1.symm h.2
        simp [Builtin.len_, hu', goInt]
      · rename_i m
        cases hl : lenT H (.map m) <;> simp [hl] at h
        rename_i n
        simp only [lenT] at hl
        split at hl <;> simp at hl
        rename_i es c hm
        subst hl
        obtain ⟨hdm, har, ents, hh, hmr, hF⟩ := hH m _ hm
        have : xv = .map (some (G.mu m)) := by cases hx; rfl
        subst this
        refine fin es.length ?_ h.1.symm h.2
        have := hmr.length
        simp at this
        simp [Builtin.len_, hu', goInt, getObj_map hh, this]
      · simp at h
    · simp at h
  · rename_i s t x y hat
    exact appendT_ok hw hH hn ho hat hv h
  · rename_i s t x y hat
    exact copyT_ok hw hH ho hat hv h
  · obtain ⟨h1, rfl⟩ := noU_some h
    obtain ⟨r, hr, hvr⟩ := minmaxT_run (C := C) (ats := ats) (t := o.type) hv h1 w
    simp only [Bool.false_eq_true, if_false] at hr
    exact OpOk.quiet hw (builtin_exec ho (fun cs => by simp [builtin, hr])) hvr
  · obtain ⟨h1, rfl⟩ := noU_some h
    obtain ⟨r, hr, hvr⟩ := minmaxT_run (C := C) (ats := ats) (t := o.type) hv h1 w
    simp only [if_true] at hr
    exact OpOk.quiet hw (builtin_exec ho (fun cs => by simp [builtin, hr])) hvr
  · simp at h

end
end Go.Abs

namespace Go.Abs
open Go

section
variable {C : Cfg} {f : FuncId} {nm : Nm} {H : Heap} {slots : List TV} {a : Act} {w : World} {G : Gh} {v : TV} {u : List (Nm × AObj)}

theorem nilCheck_run {x : Value} {o : Oper} {px : Operand} (ho : o.op = .nilCheck px) (hx : a.eval px = x) (hs : sure x) : (execOp a.eval o).run C.P w = .ok (.value x) w := by
  subst hx
  simp only [execOp, ho]
  revert hs
  generalize a.eval px = x
  intro hs
  unfold sure at hs
  split at hs
  · rfl
  · rfl
  · exact hs.elim

theorem mkFn_VR {fn : Fn} {fs cs : List TV} {vs ws : List Value} (h1 : VRs G fs vs) (h2 : VRs G cs ws) : VR G (mkFn fn fs cs) (.func fn vs.toArray ws.toArray) := by
  unfold mkFn
  split
  · rename_i h
    simp at h
    obtain ⟨rfl, rfl⟩ := h
    have e1 := h1.1
    have e2 := h2.1
    simp at e1 e2
    subst e1; subst e2
    exact .t _ _ (.fn fn)
  · exact .fn fn fs cs vs ws h1.1 h1.2 h2.1 h2.2

theorem evalOp_ok {o : Oper} (hw : WF G w) (hH : HR G w H) (hn : ¬ G.dom nm) (hs : SR G slots a) (hg : GlobR C G) (h : evalOp C f nm H slots o = some (v, u)) : OpOk C.P nm o a w G v u := by
  unfold evalOp at h
  simp only at h
  split at h
  · rename_i x ho
    obtain ⟨h1, rfl⟩ := noU_some h
    exact OpOk.quiet hw (by simp [execOp, ho]) (rho_VR hs hg h1)
  · rename_i x ho
    obtain ⟨h1, rfl⟩ := noU_some h
    exact OpOk.quiet hw (by simp [execOp, ho]) (rho_VR hs hg h1)
  · rename_i c x y ho
    split at h <;> try (simp at h; done)
    rename_i b p q hc hx hy
    simp at h
    obtain ⟨rfl, rfl⟩ := h
    have hcv := (rho_VR hs hg hc).bool
    refine OpOk.quiet hw (x := if b then a.eval x else a.eval y) (by simp [execOp, ho, asBool, hcv]) ?_
    cases b
    · exact rho_VR hs hg hy
    · exact rho_VR hs hg hx
  · rename_i elem ho
    split at h <;> try (simp at h; done)
    rename_i ti ht
    split at h <;> try (simp at h; done)
    rename_i z hz
    simp at h
    obtain ⟨_, rfl, rfl⟩ := h
    exact alloc_ok hw hn ho ht hz
  · rename_i elem x ho
    split at h <;> try (simp at h; done)
    rename_i z hz
    simp at h
    obtain ⟨hlf, rfl, rfl⟩ := h
    exact box_ok hw hn ho (rho_VR hs hg hz) (by simpa using hlf)
  · rename_i t parts ho
    split at h <;> try (simp at h; done)
    rename_i ps hp
    obtain ⟨h1, rfl⟩ := noU_some h
    have hpr : PR G ps (parts.map fun (p : Nat × Operand) => (p.1, a.eval p.2)).toList := by
      rw [Array.toList_map]; exact parts_PR hs hg hp
    obtain ⟨r, h2, h3⟩ := buildT_run hpr h1 w
    exact OpOk.quiet hw (by simp [execOp, ho, h2]) h3
  · rename_i t len parts ho
    split at h <;> try (simp at h; done)
    rename_i ps hp
    have hpr : PR G ps (parts.map fun (p : Nat × Operand) => (p.1, a.eval p.2)).toList := by
      rw [Array.toList_map]; exact parts_PR hs hg hp
    exact buildSliceT_ok hw hn ho hpr h
  · rename_i t x ho
    split at h <;> try (simp at h; done)
    rename_i p hp
    obtain ⟨h1, rfl⟩ := noU_some h
    obtain ⟨r, h2, h3⟩ := loadT_run hH hw (rho_VR hs hg hp) h1
    exact OpOk.quiet hw (by simp [execOp, ho, h2]) h3
  · rename_i t x y ho
    split at h <;> try (simp at h; done)
    rename_i p q hp hq
    obtain ⟨rfl, h1⟩ := unitU_some h
    exact storeT_ok hw hH ho (rho_VR hs hg hp) (rho_VR hs hg hq) h1
  · rename_i x ho
    split at h <;> try (simp at h; done)
    rename_i p hp
    simp at h
    obtain ⟨h1, rfl, rfl⟩ := h
    have hv := rho_VR hs hg hp
    exact OpOk.quiet hw (nilCheck_run ho rfl (nilCheck_VR hv h1)) hv
  · rename_i op t x y yt ho
    split at h <;> try (simp at h; done)
    rename_i p q hp hq
    obtain ⟨h1, rfl⟩ := noU_some h
    obtain ⟨r, h2, h3⟩ := binT_run (rho_VR hs hg hp) (rho_VR hs hg hq) h1 w
    exact OpOk.quiet hw (by simp only [execOp, ho]; simp only [Sem.run_bind] at h2 ⊢; rw [h2]; rfl) h3
  · rename_i op t x ho
    split at h <;> try (simp at h; done)
    rename_i p hp
    obtain ⟨h1, rfl⟩ := noU_some h
    obtain ⟨r, h2, h3⟩ := unT_run (rho_VR hs hg hp) h1 w
    exact OpOk.quiet hw (by simp [execOp, ho, h2]) h3
  · rename_i s d x ho
    split at h <;> try (simp at h; done)
    rename_i p hp
    exact convertT_ok hw hH hn ho (rho_VR hs hg hp) h
  · rename_i t x ho
    split at h <;> try (simp at h; done)
    rename_i p ti hp ht
    obtain ⟨_, _, hu, _⟩ := tyOf_info ht
    have hu' := underlying_run hu w
    split at h
    · simp at h
    · rename_i hni
      simp at h
      obtain ⟨rfl, rfl⟩ := h
      have hv := rho_VR hs hg hp
      refine OpOk.quiet hw (x := .iface t (a.eval x)) ?_ ?_
      · cases hdd : ti.desc <;> first
          | (exact absurd hdd (hni _))
          | (rw [hdd] at hu'; simp [execOp, ho, Instr.makeInterface, hu'])
      · split
        · exact .t _ _ (.iface _ _ _ hv.tree)
        · exact .iface _ _ _ hv
  · rename_i fn first captured ho
    split at h <;> try (simp at h; done)
    rename_i fs cs hf hc
    simp at h
    obtain ⟨rfl, rfl⟩ := h
    have h1 := rhos_VR hs hg hf
    have h2 := rhos_VR hs hg hc
    refine OpOk.quiet hw (x := .func fn (first.toList.map a.eval).toArray (captured.toList.map a.eval).toArray) ?_ (mkFn_VR h1 h2)
    have e1 : (first.toList.map a.eval).toArray = first.map a.eval := by apply Array.ext'; simp
    have e2 : (captured.toList.map a.eval).toArray = captured.map a.eval := by apply Array.ext'; simp
    rw [e1, e2]
    simp [execOp, ho, Instr.makeFunc]
  · rename_i t r ho
    split at h <;> try (simp at h; done)
    rename_i ti hr ht
    simp at h
    obtain ⟨rfl, rfl⟩ := h
    have hrn : r = none := by
      cases r with
      | none => rfl
      | some x => simp only [optT] at hr; cases h5 : rhoT C slots x <;> simp [h5] at hr
    subst hrn
    refine OpOk.of_value (w' := World.pushed w (.map #[] 0)) (G' := G.add nm w.heap.size none) (x := .map (some w.heap.size)) ?_ (add_step hw hn _ _ _) ?_ ?_
    · simp [execOp, ho, Instr.makeMap, newObj, Sem.run, World.pushed]
    · intro k ob hm
      simp at hm
      obtain ⟨rfl, rfl⟩ := hm
      refine ⟨.inl rfl, by simp [Gh.add], #[], ?_, trivial, ?_⟩
      · simp [Gh.add, pushed_new]
      · intro o; simpa [Gh.add] using hw.F_new o
    · have := VR.map (G := G.add nm w.heap.size none) nm (.inl rfl) (by simp [Gh.add])
      simpa [Gh.add] using this
  · rename_i t l c ho
    split at h <;> try (simp at h; done)
    rename_i pl pc hl hc
    exact makeSliceT_ok hw hn ho (rho_VR hs hg hl) (rho_VR hs hg hc) h
  · rename_i t x lo hi mx ho
    split at h <;> try (simp at h; done)
    rename_i p l hh m hp hl hhi hm
    split at h <;> try (simp at h; done)
    rename_i r ks hsl
    simp at h
    obtain ⟨rfl, rfl⟩ := h
    exact sliceT_ok hw hH ho (rho_VR hs hg hp) (optT_VRo hs hg hl) (optT_VRo hs hg hhi) (optT_VRo hs hg hm) hsl
  · rename_i s x i ho
    split at h <;> try (simp at h; done)
    rename_i p ti hp ht
    split at h <;> try (simp at h; done)
    rename_i fs hd
    split at h <;> try (simp at h; done)
    rename_i fd hi
    split at h <;> try (simp at h; done)
    rename_i tf htf
    split at h <;> try (simp at h; done)
    rename_i hsz
    obtain ⟨h1, rfl⟩ := noU_some h
    obtain ⟨r, h2, h3⟩ := fieldAddr_run hH (rho_VR hs hg hp) ht hd hi htf hsz h1
    exact OpOk.quiet hw (by simp [execOp, ho, h2]) h3
  · rename_i t x i ho
    split at h <;> try (simp at h; done)
    rename_i p ti hp ht
    split at h <;> try (simp at h; done)
    rename_i fs hd
    split at h <;> try (simp at h; done)
    rename_i fd hi
    split at h <;> try (simp at h; done)
    rename_i tf htf
    split at h <;> try (simp at h; done)
    rename_i hagg
    obtain ⟨h1, rfl⟩ := noU_some h
    obtain ⟨r, h2, h3⟩ := field_run (rho_VR hs hg hp) ht hd hi htf hagg h1 w
    exact OpOk.quiet hw (by simp [execOp, ho, h2]) h3
  · rename_i t x i ho
    split at h <;> try (simp at h; done)
    rename_i p q hp hq
    obtain ⟨h1, rfl⟩ := noU_some h
    obtain ⟨r, h2, h3⟩ := indexAddrT_run hH (rho_VR hs hg hp) (rho_VR hs hg hq) h1
    exact OpOk.quiet hw (by simp [execOp, ho, h2]) h3
  · rename_i t x i ho
    split at h <;> try (simp at h; done)
    rename_i p q hp hq
    obtain ⟨h1, rfl⟩ := noU_some h
    obtain ⟨r, h2, h3⟩ := index_run (rho_VR hs hg hp) (rho_VR hs hg hq) h1 w
    exact OpOk.quiet hw (by simp [execOp, ho, h2]) h3
  · rename_i t x k ok ho
    split at h <;> try (simp at h; done)
    rename_i p q hp hq
    obtain ⟨h1, rfl⟩ := noU_some h
    obtain ⟨r, h2, h3⟩ := lookupT_run hH (rho_VR hs hg hp) (rho_VR hs hg hq) h1
    exact OpOk.quiet hw (by simp [execOp, ho, h2]) h3
  · rename_i t m k x ho
    split at h <;> try (simp at h; done)
    rename_i p q r hp hq hr
    obtain ⟨rfl, h1⟩ := unitU_some h
    exact mapUpdateT_ok hw hH (.inl ho) (rho_VR hs hg hp) (rho_VR hs hg hq) (rho_VR hs hg hr) h1
  · rename_i t m k x ho
    split at h <;> try (simp at h; done)
    rename_i p q r hp hq hr
    obtain ⟨rfl, h1⟩ := unitU_some h
    exact mapUpdateT_ok hw hH (.inr ho) (rho_VR hs hg hp) (rho_VR hs hg hq) (rho_VR hs hg hr) h1
  · rename_i t m k ho
    split at h <;> try (simp at h; done)
    rename_i p q hp hq
    exact mapEntryT_ok hw hH ho (rho_VR hs hg hp) (rho_VR hs hg hq) h
  · rename_i t m s x ho
    split at h <;> try (simp at h; done)
    rename_i p q r hp hq hr
    obtain ⟨rfl, h1⟩ := unitU_some h
    exact entryStoreT_ok hw hH ho (rho_VR hs hg hp) (rho_VR hs hg hq) (rho_VR hs hg hr) h1
  · rename_i x xt t ok ho
    split at h <;> try (simp at h; done)
    rename_i p hp
    obtain ⟨h1, rfl⟩ := noU_some h
    obtain ⟨r, h2, h3⟩ := assert_run (xt := xt) (rho_VR hs hg hp) h1 w
    exact OpOk.quiet hw (by simp [execOp, ho, h2]) h3
  · rename_i x i ho
    split at h <;> try (simp at h; done)
    rename_i p hp
    obtain ⟨h1, rfl⟩ := noU_some h
    obtain ⟨r, h2, h3⟩ := extract_run (C := C) (rho_VR hs hg hp) h1 w
    exact OpOk.quiet hw (by simp [execOp, ho, h2]) h3
  · rename_i b args ats ho
    split at h <;> try (simp at h; done)
    rename_i vs hv
    have h1 := rhos_VR hs hg hv
    exact builtinT_ok hw hH hn ho (by rw [Array.toList_map]; exact h1) h
  · simp at h

end
end Go.Abs

namespace Go.Abs
open Go

/-! ### Other names -/
/-- one ghost seen by other names -/
structure Seen (G G' : Gh) (σ : Nm → Option Nm) : Prop where
  F : ∀ b o v, G.F b o = some v → G'.F b o = some v
  at_ : ∀ k k', G.dom k → σ k = some k' → G'.dom k' ∧ G'.mu k' = G.mu k ∧ G'.arr k' = G.arr k

mutual
theorem VR.rn {G G' : Gh} {σ : Nm → Option Nm} (h : Seen G G' σ) : ∀ {x y : TV} {v : Value}, VR G x v → x.rn σ = some y → VR G' y v
  | .t x, y, v, hv, hr => by simp [TV.rn] at hr; subst hr; exact .t _ _ (hv.tree.mono h.F)
  | .any, y, v, hv, hr => by simp [TV.rn] at hr; subst hr; exact .any _
  | .nils, y, v, hv, hr => by simp [TV.rn] at hr; subst hr; cases hv; exact .nils
  | .tsl es, y, v, hv, hr => by simp [TV.rn] at hr; subst hr; cases hv with | tsl _ _ hv => exact .tsl _ _ (hv.mono h.F)
  | .tptr cs o, y, v, hv, hr => by
    simp [TV.rn] at hr; subst hr
    cases hv with | tptr _ _ b o' vals hF hv => exact .tptr cs o b o' vals (fun j c hc => h.F _ _ _ (hF j c hc)) (fun j c hc => (hv j c hc).mono h.F)
  | .ref k o l, y, v, hv, hr => by
    simp only [TV.rn] at hr
    cases hk : σ k <;> simp [hk] at hr
    rename_i k'
    subst hr
    cases hv with | ref _ _ _ n esz cap _ hd ha hle ho hv =>
      obtain ⟨a1, a2, a3⟩ := h.at_ k k' hd hk
      exact .ref k' o l n esz cap _ a1 (by rw [a3]; exact ha) hle ho (by rw [a2]; exact hv)
  | .ptr k o, y, v, hv, hr => by
    simp only [TV.rn] at hr
    cases hk : σ k <;> simp [hk] at hr
    rename_i k'
    subst hr
    cases hv with | ptr _ _ hd hn =>
      obtain ⟨a1, a2, a3⟩ := h.at_ k k' hd hk
      rw [← a2]
      exact .ptr k' o a1 (by rw [a3]; exact hn)
  | .aptr k n o, y, v, hv, hr => by
    simp only [TV.rn] at hr
    cases hk : σ k <;> simp [hk] at hr
    rename_i k'
    subst hr
    cases hv with | aptr _ _ _ n' esz cap _ hd ha hle ho hv =>
      obtain ⟨a1, a2, a3⟩ := h.at_ k k' hd hk
      exact .aptr k' n o n' esz cap _ a1 (by rw [a3]; exact ha) hle ho (by rw [a2]; exact hv)
  | .map k, y, v, hv, hr => by
    simp only [TV.rn] at hr
    cases hk : σ k <;> simp [hk] at hr
    rename_i k'
    subst hr
    cases hv with | map _ hd hn =>
      obtain ⟨a1, a2, a3⟩ := h.at_ k k' hd hk
      rw [← a2]
      exact .map k' a1 (by rw [a3]; exact hn)
  | .agg cs, y, v, hv, hr => by
    simp only [TV.rn] at hr
    cases hk : TV.rnL σ cs <;> simp [hk] at hr
    subst hr
    cases hv with | agg _ vs hl hh =>
      have := VRs.rn h (xs := cs) ⟨hl, hh⟩ hk
      exact .agg _ _ this.1 this.2
  | .tup cs, y, v, hv, hr => by
    simp only [TV.rn] at hr
    cases hk : TV.rnL σ cs <;> simp [hk] at hr
    subst hr
    cases hv with | tup _ vs hl hh =>
      have := VRs.rn h (xs := cs) ⟨hl, hh⟩ hk
      exact .tup _ _ this.1 this.2
  | .fn f fs cs, y, v, hv, hr => by
    simp only [TV.rn] at hr
    cases hk : TV.rnL σ fs <;> cases hk2 : TV.rnL σ cs <;> simp [hk, hk2] at hr
    subst hr
    cases hv with | fn _ _ _ vs ws hl hh hl' hh' =>
      have h1 := VRs.rn h (xs := fs) ⟨hl, hh⟩ hk
      have h2 := VRs.rn h (xs := cs) ⟨hl', hh'⟩ hk2
      exact .fn _ _ _ _ _ h1.1 h1.2 h2.1 h2.2
  | .iface ty x, y, v, hv, hr => by
    simp only [TV.rn] at hr
    cases hk : x.rn σ <;> simp [hk] at hr
    subst hr
    cases hv with | iface _ _ u hu => exact .iface _ _ _ (VR.rn h hu hk)
theorem VRs.rn {G G' : Gh} {σ : Nm → Option Nm} (h : Seen G G' σ) : ∀ {xs ys : List TV} {vs : List Value}, VRs G xs vs → TV.rnL σ xs = some ys → VRs G' ys vs
  | [], ys, vs, hv, hr => by simp [TV.rnL] at hr; subst hr; have := hv.1; simp at this; subst this; exact VRs.nil _
  | x :: r, ys, vs, hv, hr => by
    obtain ⟨v, vs', rfl, h1, h2⟩ := hv.uncons
    simp only [TV.rnL] at hr
    cases hk : x.rn σ <;> cases hk2 : TV.rnL σ r <;> simp [hk, hk2] at hr
    subst hr
    exact VRs.cons (VR.rn h h1 hk) (VRs.rn h h2 hk2)
end

theorem MR.rn {G G' : Gh} {σ : Nm → Option Nm} (h : Seen G G' σ) : ∀ {es es' : List (TV × TV × Nat)} {ents : List MapEntry}, MR G es ents → rnE σ es = some es' → MR G' es' ents := by
  intro es
  induction es with
  | nil => intro es' ents hm hr; simp [rnE] at hr; subst hr; cases ents <;> simp_all [MR]
  | cons p r ih =>
    intro es' ents hm hr
    obtain ⟨k, v, b⟩ := p
    cases ents with
    | nil => simp [MR] at hm
    | cons e es2 =>
      simp only [MR] at hm
      simp only [rnE] at hr
      cases h1 : k.rn σ <;> cases h2 : v.rn σ <;> cases h3 : rnE σ r <;> simp [h1, h2, h3] at hr
      subst hr
      simp only [MR]
      exact ⟨hm.1.rn h h1, hm.2.1.rn h h2, hm.2.2.1, ih hm.2.2.2 h3⟩

theorem rnL_length {σ : Nm → Option Nm} : ∀ {xs ys : List TV}, TV.rnL σ xs = some ys → ys.length = xs.length := by
  intro xs
  induction xs with
  | nil => intro ys h; simp [TV.rnL] at h; subst h; rfl
  | cons x r ih =>
    intro ys h
    simp only [TV.rnL] at h
    cases hk : x.rn σ <;> cases hk2 : TV.rnL σ r <;> simp [hk, hk2] at h
    subst h
    simp [ih hk2]

theorem OR.rn {G G' : Gh} {σ : Nm → Option Nm} {w : World} {k k' : Nm} {o o' : AObj} (h : Seen G G' σ) (hF : ∀ b, b = G.mu k → ∀ p, G'.F b p = G.F b p) (hk : G'.mu k' = G.mu k ∧ G'.arr k' = G.arr k) (ho : OR G w k o) (hr : o.rn σ = some o') : OR G' w k' o' := by
  obtain ⟨e1, e2⟩ := hk
  have hF' : ∀ p, G'.F (G'.mu k') p = G.F (G.mu k) p := fun p => by rw [e1]; exact hF _ rfl p
  cases o with
  | cells ty0 cs =>
    simp only [AObj.rn] at hr
    cases h1 : TV.rnL σ cs <;> simp [h1] at hr
    subst hr
    obtain ⟨ha, vs, ty, fr, hh, ht, hv, hf⟩ := ho
    exact ⟨by rw [e2]; exact ha, vs, ty, fr, by rw [e1]; exact hh, ht, hv.rn h h1, fun p => by rw [hF']; exact hf p⟩
  | arr g esz fz cs =>
    simp only [AObj.rn] at hr
    cases h1 : TV.rnL σ cs <;> simp [h1] at hr
    subst hr
    have hl := rnL_length h1
    obtain ⟨he, cap, vs, ty, fr, ha, hh, ht, hs, hle, hv, hf⟩ := ho
    exact ⟨he, cap, vs, ty, fr, by rw [e2, hl]; exact ha, by rw [e1]; exact hh, ht, hs, by rw [hl]; exact hle, by rw [hl]; exact hv.rn h h1, fun p hp => by rw [hF']; exact hf p (by rw [hl] at hp; exact hp)⟩
  | map es c =>
    simp only [AObj.rn] at hr
    cases h1 : rnE σ es <;> simp [h1] at hr
    subst hr
    obtain ⟨ha, ents, hh, hv, hf⟩ := ho
    exact ⟨by rw [e2]; exact ha, ents, by rw [e1]; exact hh, hv.rn h h1, fun p => by rw [hF']; exact hf p⟩
  | dead =>
    simp only [AObj.rn, Option.some.injEq] at hr
    subst hr
    exact trivial

/-! ### The callee's ghost -/
theorem idxOf_some {k : Nm} : ∀ {S : List Nm} {i j : Nat}, idxOf k S i = some j → ∃ p, j = i + p ∧ S[p]? = some k := by
  intro S
  induction S with
  | nil => intro i j h; simp [idxOf] at h
  | cons x r ih =>
    intro i j h
    simp only [idxOf] at h
    split at h
    · rename_i e; simp at h; exact ⟨0, by omega, by simp [e]⟩
    · obtain ⟨p, h1, h2⟩ := ih h
      exact ⟨p + 1, by omega, by simpa using h2⟩

def Gh.within (G : Gh) (S : List Nm) : Gh := {
  F := G.F
  mu := fun k => match k with | .arg i => (match S[i]? with | some x => G.mu x | none => 0) | .loc _ => 0
  arr := fun k => match k with | .arg i => (match S[i]? with | some x => G.arr x | none => none) | .loc _ => none
  dom := fun k => match k with | .arg i => i < S.length | .loc _ => False }

theorem within_seen {G : Gh} {S : List Nm} : Seen G (G.within S) (sIn S) := by
  refine ⟨fun _ _ _ h => h, fun k k' hd hs => ?_⟩
  unfold sIn at hs
  cases h : idxOf k S 0 <;> simp [h] at hs
  rename_i i
  subst hs
  obtain ⟨p, h1, h2⟩ := idxOf_some h
  have : i = p := by omega
  subst this
  have hl := (List.getElem?_eq_some_iff.1 h2).1
  refine ⟨hl, ?_, ?_⟩ <;> simp [Gh.within, h2]

theorem nodup_at {S : List Nm} (hn : S.Nodup) {i j : Nat} (hi : i < S.length) (hj : j < S.length) (e : S[i] = S[j]) : i = j := by
  have h := List.pairwise_iff_getElem.1 hn
  rcases Nat.lt_trichotomy i j with l | l | l
  · exact absurd e (h i j hi hj l)
  · exact l
  · exact absurd e.symm (h j i hj hi l)

theorem nodup_idx {S : List Nm} (hn : S.Nodup) {i j : Nat} {k : Nm} (hi : S[i]? = some k) (hj : S[j]? = some k) : i = j := by
  obtain ⟨h1, h2⟩ := List.getElem?_eq_some_iff.1 hi
  obtain ⟨h3, h4⟩ := List.getElem?_eq_some_iff.1 hj
  exact nodup_at hn h1 h3 (h2.trans h4.symm)

theorem within_WF {G : Gh} {w : World} {S : List Nm} (hw : WF G w) (hn : S.Nodup) (hd : ∀ k ∈ S, G.dom k) : WF (G.within S) w := by
  refine ⟨hw.F, fun k k' d d' e => ?_, fun k d => ?_⟩
  · cases k with
    | loc p => exact absurd d id
    | arg i =>
      cases k' with
      | loc p => exact absurd d' id
      | arg j =>
        simp only [Gh.within] at d d' e
        rw [List.getElem?_eq_getElem d, List.getElem?_eq_getElem d'] at e
        have := hw.inj _ _ (hd _ (List.getElem_mem d)) (hd _ (List.getElem_mem d')) e
        rw [nodup_at hn d d' this]
  · cases k with
    | loc p => exact absurd d id
    | arg i =>
      simp only [Gh.within] at d ⊢
      rw [List.getElem?_eq_getElem d]
      exact hw.lt _ (hd _ (List.getElem_mem d))

theorem argHeap_get : ∀ {os : List AObj} {i : Nat} {k : Nm} {o : AObj}, (argHeap i os).get k = some o → ∃ j, k = .arg (i + j) ∧ os[j]? = some o := by
  intro os
  induction os with
  | nil => intro i k o h; simp [argHeap, Heap.get] at h
  | cons x r ih =>
    intro i k o h
    simp only [argHeap, Heap.get] at h
    split at h
    · rename_i e; simp at h; subst h; exact ⟨0, by simp [← e], rfl⟩
    · obtain ⟨j, h1, h2⟩ := ih h
      exact ⟨j + 1, by rw [h1]; congr 1; omega, by simpa using h2⟩

theorem objsIn_some {H : Heap} {S : List Nm} : ∀ {T : List Nm} {os : List AObj}, objsIn H S T = some os → os.length = T.length ∧ ∀ (j : Nat) k, T[j]? = some k → ∃ o o', H.get k = some o ∧ o.rn (sIn S) = some o' ∧ os[j]? = some o' := by
  intro T
  induction T with
  | nil => intro os h; simp [objsIn] at h; subst h; simp
  | cons k r ih =>
    intro os h
    simp only [objsIn] at h
    cases h1 : H.get k <;> cases h2 : objsIn H S r <;> simp [h1, h2] at h
    rename_i o os'
    obtain ⟨o', h3, rfl⟩ := h
    obtain ⟨h4, h5⟩ := ih h2
    refine ⟨by simp [h4], fun j k' hj => ?_⟩
    cases j with
    | zero => simp at hj; subst hj; exact ⟨o, o', h1, h3, rfl⟩
    | succ j => simpa using h5 j k' (by simpa using hj)

theorem within_HR {G : Gh} {w : World} {H : Heap} {S : List Nm} {os : List AObj} (hH : HR G w H) (h : objsIn H S S = some os) : HR (G.within S) w (argHeap 0 os) := by
  intro k o hk
  obtain ⟨j, rfl, hj⟩ := argHeap_get hk
  obtain ⟨hl, hs⟩ := objsIn_some h
  have hjl : j < S.length := by have := (List.getElem?_eq_some_iff.1 hj).1; omega
  obtain ⟨o0, o1, h1, h2, h3⟩ := hs j S[j] (List.getElem?_eq_getElem hjl)
  rw [hj] at h3
  simp at h3
  subst h3
  obtain ⟨hd, ho⟩ := hH _ _ h1
  rw [Nat.zero_add]
  exact ⟨hjl, OR.rn within_seen (fun _ _ _ => rfl) (by simp [Gh.within, List.getElem?_eq_getElem hjl]) ho h2⟩

/-! ### And back -/
open Classical in
/-- the caller's ghost behind the call -/
noncomputable def Gh.back (G : Gh) (S : List Nm) (t : Nat) (G' : Gh) : Gh := {
  F := G'.F
  mu := fun k => match idxOf k S 0 with
    | some i => G'.mu (.arg i)
    | none => if G.dom k then G.mu k else (match k with | .loc (_ :: p) => G'.mu (.loc p) | _ => 0)
  arr := fun k => match idxOf k S 0 with
    | some i => G'.arr (.arg i)
    | none => if G.dom k then G.arr k else (match k with | .loc (_ :: p) => G'.arr (.loc p) | _ => none)
  dom := fun k => G.dom k ∨ ∃ p, k = .loc (t :: p) ∧ G'.dom (.loc p) }

theorem idxOf_none {k : Nm} : ∀ {S : List Nm} {i : Nat}, idxOf k S i = none → k ∉ S := by
  intro S
  induction S with
  | nil => intro i _; simp
  | cons x r ih =>
    intro i h
    simp only [idxOf] at h
    split at h
    · simp at h
    · rename_i e
      simp only [List.mem_cons, not_or]
      exact ⟨fun hh => e hh.symm, ih h⟩

theorem idxOf_at {S : List Nm} (hn : S.Nodup) {i : Nat} {k : Nm} (h : S[i]? = some k) : idxOf k S 0 = some i := by
  cases h1 : idxOf k S 0 with
  | none => exact absurd (List.mem_of_getElem? h) (idxOf_none h1)
  | some j =>
    obtain ⟨p, h2, h3⟩ := idxOf_some h1
    rw [nodup_idx hn h h3]
    congr 1; omega

section back
variable {G Gc : Gh} {w w' : World} {S : List Nm} {t : Nat}

theorem back_in (hn : S.Nodup) {i : Nat} {k : Nm} (h : S[i]? = some k) : (G.back S t Gc).mu k = Gc.mu (.arg i) ∧ (G.back S t Gc).arr k = Gc.arr (.arg i) := by
  simp [Gh.back, idxOf_at hn h]

theorem back_out {k : Nm} (hd : G.dom k) (h : k ∉ S) : (G.back S t Gc).mu k = G.mu k ∧ (G.back S t Gc).arr k = G.arr k := by
  have : idxOf k S 0 = none := by
    cases h1 : idxOf k S 0 with
    | none => rfl
    | some j => obtain ⟨p, _, h3⟩ := idxOf_some h1; exact absurd (List.mem_of_getElem? h3) h
  simp [Gh.back, this, hd]

theorem back_new {p : List Nat} (hd : ¬ G.dom (.loc (t :: p))) (hS : ∀ k ∈ S, G.dom k) : (G.back S t Gc).mu (.loc (t :: p)) = Gc.mu (.loc p) ∧ (G.back S t Gc).arr (.loc (t :: p)) = Gc.arr (.loc p) := by
  have : idxOf (.loc (t :: p)) S 0 = none := by
    cases h1 : idxOf (.loc (t :: p)) S 0 with
    | none => rfl
    | some j => obtain ⟨q, _, h3⟩ := idxOf_some h1; exact absurd (hS _ (List.mem_of_getElem? h3)) hd
  simp [Gh.back, this, hd]

theorem back_step (hw : WF G w) (hn : S.Nodup) (hS : ∀ k ∈ S, G.dom k) (hfresh : ∀ p, ¬ G.dom (.loc (t :: p))) (h : Step (fun _ => True) (fun k => k.isLoc = true) (G.within S) w Gc w') :
    Step (fun k => k ∈ S) (fun k => ∃ p, k = .loc (t :: p)) G w (G.back S t Gc) w' := by
  have hin : ∀ i, i < S.length → (G.within S).dom (.arg i) := fun i hi => hi
  have hmu : ∀ i (hi : i < S.length), (G.within S).mu (.arg i) = G.mu S[i] ∧ (G.within S).arr (.arg i) = G.arr S[i] := fun i hi => by simp [Gh.within, hi]
  have hfr : ∀ i (hi : i < S.length), Gc.mu (.arg i) = G.mu S[i] ∨ w.heap.size ≤ Gc.mu (.arg i) := by
    intro i hi
    rcases h.fresh (.arg i) (h.le.dom _ (hin i hi)) with ⟨_, e⟩ | e
    · exact .inl (e.trans (hmu i hi).1)
    · exact .inr e
  have hloc : ∀ p, Gc.dom (.loc p) → w.heap.size ≤ Gc.mu (.loc p) := by
    intro p hp
    rcases h.fresh (.loc p) hp with ⟨d, _⟩ | e
    · exact absurd d id
    · exact e
  -- where a name's block is
  have place : ∀ k, (G.back S t Gc).dom k → (∃ i, ∃ hi : i < S.length, k = S[i] ∧ (G.back S t Gc).mu k = Gc.mu (.arg i)) ∨ (G.dom k ∧ k ∉ S ∧ (G.back S t Gc).mu k = G.mu k) ∨ (∃ p, k = .loc (t :: p) ∧ Gc.dom (.loc p) ∧ (G.back S t Gc).mu k = Gc.mu (.loc p)) := by
    intro k hk
    rcases hk with d | ⟨p, rfl, d⟩
    · by_cases hm : k ∈ S
      · obtain ⟨i, hi⟩ := List.mem_iff_getElem?.1 hm
        obtain ⟨h1, h2⟩ := List.getElem?_eq_some_iff.1 hi
        exact .inl ⟨i, h1, h2.symm, (back_in hn hi).1⟩
      · exact .inr (.inl ⟨d, hm, (back_out d hm).1⟩)
    · exact .inr (.inr ⟨p, rfl, d, (back_new (hfresh p) hS).1⟩)
  refine ⟨⟨fun b o v hv => h.le.F b o v hv, fun k d => .inl d, fun k d a => ?_, fun k n e c d a => ?_⟩, ⟨h.wf.F, fun k k' d d' e => ?_, fun k d => ?_⟩, fun k d hk => back_out d hk, fun b hb hb' => ?_, fun k d => ?_, fun k d => ?_, h.size, h.os, h.tape, h.output⟩
  · by_cases hm : k ∈ S
    · obtain ⟨i, hi⟩ := List.mem_iff_getElem?.1 hm
      obtain ⟨h1, h2⟩ := List.getElem?_eq_some_iff.1 hi
      obtain ⟨e1, e2⟩ := back_in (G := G) (Gc := Gc) (t := t) hn hi
      obtain ⟨m1, m2⟩ := hmu i h1
      rw [h2] at m1 m2
      obtain ⟨p1, p2⟩ := h.le.plain (.arg i) (hin i h1) (by rw [m2]; exact a)
      exact ⟨by rw [e2]; exact p1, by rw [e1, p2, m1]⟩
    · obtain ⟨e1, e2⟩ := back_out (Gc := Gc) (t := t) d hm
      exact ⟨by rw [e2]; exact a, e1⟩
  · by_cases hm : k ∈ S
    · obtain ⟨i, hi⟩ := List.mem_iff_getElem?.1 hm
      obtain ⟨h1, h2⟩ := List.getElem?_eq_some_iff.1 hi
      obtain ⟨e1, e2⟩ := back_in (G := G) (Gc := Gc) (t := t) hn hi
      obtain ⟨m1, m2⟩ := hmu i h1
      rw [h2] at m1 m2
      obtain ⟨n', c', p1, p2, p3⟩ := h.le.arr (.arg i) n e c (hin i h1) (by rw [m2]; exact a)
      exact ⟨n', c', by rw [e2]; exact p1, p2, fun hh => by obtain ⟨q1, q2⟩ := p3 hh; exact ⟨q1, by rw [e1, q2, m1]⟩⟩
    · obtain ⟨e1, e2⟩ := back_out (Gc := Gc) (t := t) d hm
      exact ⟨n, c, by rw [e2]; exact a, Nat.le_refl _, fun _ => ⟨rfl, e1⟩⟩
  · rcases place k d with ⟨i, hi, rfl, p1⟩ | ⟨d1, hm, p1⟩ | ⟨p, rfl, d1, p1⟩ <;> rcases place k' d' with ⟨j, hj, rfl, q1⟩ | ⟨d2, hm2, q1⟩ | ⟨q, rfl, d2, q1⟩ <;> rw [p1, q1] at e
    · have := h.wf.inj _ _ (h.le.dom _ (hin i hi)) (h.le.dom _ (hin j hj)) e
      simp at this
      subst this; rfl
    · rcases hfr i hi with e2 | e2
      · rw [e2] at e
        have := hw.inj _ _ (hS _ (List.getElem_mem hi)) d2 e
        exact absurd (this ▸ List.getElem_mem hi) hm2
      · have := hw.lt _ d2; omega
    · have := h.wf.inj _ _ (h.le.dom _ (hin i hi)) d2 e
      simp at this
    · rcases hfr j hj with e2 | e2
      · rw [e2] at e
        have := hw.inj _ _ d1 (hS _ (List.getElem_mem hj)) e
        exact absurd (this ▸ List.getElem_mem hj) hm
      · have := hw.lt _ d1; omega
    · exact hw.inj _ _ d1 d2 e
    · have := hw.lt _ d1; have := hloc q d2; omega
    · have := h.wf.inj _ _ d1 (h.le.dom _ (hin j hj)) e
      simp at this
    · have := hw.lt _ d2; have := hloc p d1; omega
    · have := h.wf.inj _ _ d1 d2 e
      simp at this
      subst this; rfl
  · rcases place k d with ⟨i, hi, rfl, p1⟩ | ⟨d1, hm, p1⟩ | ⟨p, rfl, d1, p1⟩ <;> rw [p1]
    · exact h.wf.lt _ (h.le.dom _ (hin i hi))
    · exact Nat.lt_of_lt_of_le (hw.lt _ d1) h.size
    · exact h.wf.lt _ d1
  · refine h.blocks b hb fun k _ hk => ?_
    cases k with
    | loc p => exact absurd hk id
    | arg i =>
      have hi : i < S.length := hk
      rw [(hmu i hi).1]
      exact hb' _ (List.getElem_mem hi) (hS _ (List.getElem_mem hi))
  · rcases d with d | ⟨p, rfl, _⟩
    · exact .inl d
    · exact .inr ⟨p, rfl⟩
  · rcases place k d with ⟨i, hi, rfl, p1⟩ | ⟨d1, hm, p1⟩ | ⟨p, rfl, d1, p1⟩
    · rcases hfr i hi with e2 | e2
      · exact .inl ⟨hS _ (List.getElem_mem hi), by rw [p1, e2]⟩
      · exact .inr (by rw [p1]; exact e2)
    · exact .inl ⟨d1, p1⟩
    · exact .inr (by rw [p1]; exact hloc p d1)

theorem back_seen (hn : S.Nodup) (hS : ∀ k ∈ S, G.dom k) (hfresh : ∀ p, ¬ G.dom (.loc (t :: p))) (h : Step (fun _ => True) (fun k => k.isLoc = true) (G.within S) w Gc w') : Seen Gc (G.back S t Gc) (sOut S t) := by
  refine ⟨fun _ _ _ hv => hv, fun k k' hd hk => ?_⟩
  cases k with
  | arg i =>
    simp only [sOut] at hk
    obtain ⟨e1, e2⟩ := back_in (G := G) (Gc := Gc) (t := t) hn hk
    exact ⟨.inl (hS _ (List.mem_of_getElem? hk)), e1, e2⟩
  | loc p =>
    simp [sOut] at hk
    subst hk
    obtain ⟨e1, e2⟩ := back_new (Gc := Gc) (hfresh p) hS
    exact ⟨.inr ⟨p, rfl, hd⟩, e1, e2⟩
end back


/-! ### A call -/
/-- a call of a function, or of what the model has in its place -/
def CallsF (P : Program) (g : FuncId) (args : Array Value) (w : World) (R : Ending → World → Prop) : Prop :=
  ((callFunc g args).run P w = .ok (.enter g args) w ∧ Calls P g args w R) ∨ ∃ v w', (callFunc g args).run P w = .ok (.value v) w' ∧ R (.returned v) w'

/-- what a call comes to, in the callee's names -/
def retP (G : Gh) (w : World) (n : Nat) : FRes → Ending → World → Prop
  | .ret v os news, e, w' => ∃ x G', e = .returned x ∧ Step (fun _ => True) (fun k => k.isLoc = true) G w G' w' ∧ os.length = n ∧
      (∀ i o, os[i]? = some o → G'.dom (.arg i) ∧ OR G' w' (.arg i) o) ∧ (∀ k o, (k, o) ∈ news → k.isLoc = true ∧ G'.dom k ∧ OR G' w' k o) ∧ VR G' v x
  | .panic v os, e, w' => ∃ x G', e = .panicked [{ v := x, recovered := false }] ∧ Step (fun _ => True) (fun k => k.isLoc = true) G w G' w' ∧
      (∀ i o, os[i]? = some (some o) → G'.dom (.arg i) ∧ OR G' w' (.arg i) o) ∧ VR G' v x

/-- its names are the arguments' -/
def ArgDom (G : Gh) (n : Nat) : Prop := (∀ i, i < n → G.dom (.arg i)) ∧ ∀ p, ¬ G.dom (.loc p)

def CallOk (C : Cfg) (ev : CallF) : Prop := ∀ g args objs r, ev g args objs = some r → ∀ (G : Gh) (w : World) (vs : List Value), WF G w → GlobR C G → ArgDom G objs.length →
  HR G w (argHeap 0 objs) → VRs G args vs → CallsF C.P g vs.toArray w (retP G w objs.length r)

/-- what an operation comes to -/
def ResOk (t : Nat) (G : Gh) (w : World) : ORes → Ending → World → Prop
  | .val v u, e, w' => ∃ x G', e = .returned x ∧ Step (fun k => k ∈ u.map (·.1)) (fun k => ∃ p, k = .loc (t :: p)) G w G' w' ∧ (∀ k ob, (k, ob) ∈ u → G'.dom k ∧ OR G' w' k ob) ∧ VR G' v x
  | .panic v u l, e, w' => ∃ x G', e = .panicked [{ v := x, recovered := false }] ∧ Step (fun k => k ∈ u.map (·.1) ++ l) (fun k => ∃ p, k = .loc (t :: p)) G w G' w' ∧
      (∀ k ob, (k, ob) ∈ u → G'.dom k ∧ OR G' w' k ob) ∧ VR G' v x

theorem frzArgs_ok {G : Gh} {w : World} {H : Heap} (hw : WF G w) (hH : HR G w H) (ks : List Nm) : ∀ {args : List TV} {vs : List Value} {args' : List TV} {k0 : List Nm}, VRs G args vs → frzArgs H args = (args', k0) → (∀ k ∈ k0, k ∈ ks) →
    VRs (G.frozen w H ks) args' vs := by
  intro args
  induction args with
  | nil => intro vs args' k0 hv h _; simp [frzArgs] at h; obtain ⟨rfl, rfl⟩ := h; have := hv.1; simp at this; subst this; exact VRs.nil _
  | cons a r ih =>
    intro vs args' k0 hv h hk
    obtain ⟨v, vs', rfl, h1, h2⟩ := hv.uncons
    rw [frzArgs] at h
    generalize hfr : frzArgs H r = q at h
    obtain ⟨r', kr⟩ := q
    dsimp only at h
    split at h
    · rename_i x k hf
      simp at h
      obtain ⟨rfl, rfl⟩ := h
      exact VRs.cons (.t _ _ (frz_VT hw hH ks frzFuel _ _ _ _ hf (fun k hk' => hk k (List.mem_append_left _ hk')) h1)) (ih h2 hfr (fun k hk' => hk k (List.mem_append_right _ hk')))
    · simp at h
      obtain ⟨rfl, rfl⟩ := h
      exact VRs.cons (h1.mono (frozen_step hw hH ks).le) (ih h2 hfr hk)

theorem objsOut_some {S : List Nm} {t : Nat} : ∀ {T : List Nm} {os : List AObj} {h : Heap}, objsOut S t T os = some h → h.map (·.1) = T ∧ os.length = T.length ∧ ∀ k o, (k, o) ∈ h → ∃ (i : Nat) (o' : AObj), T[i]? = some k ∧ os[i]? = some o' ∧ o'.rn (sOut S t) = some o := by
  intro T
  induction T with
  | nil => intro os h hh; cases os <;> simp [objsOut] at hh; subst hh; simp
  | cons k r ih =>
    intro os h hh
    cases os with
    | nil => simp [objsOut] at hh
    | cons o os =>
      simp only [objsOut] at hh
      cases h1 : o.rn (sOut S t) <;> cases h2 : objsOut S t r os <;> simp [h1, h2] at hh
      subst hh
      obtain ⟨e1, e2, e3⟩ := ih h2
      refine ⟨by simp [e1], by simp [e2], fun k' o' hm => ?_⟩
      rcases List.mem_cons.1 hm with e | hm
      · simp at e; obtain ⟨rfl, rfl⟩ := e; exact ⟨0, o, rfl, rfl, h1⟩
      · obtain ⟨i, o2, a, b, c⟩ := e3 k' o' hm
        exact ⟨i + 1, o2, by simpa using a, by simpa using b, c⟩

theorem newsOut_some {S : List Nm} {t : Nat} : ∀ {ns h : Heap}, newsOut S t ns = some h → ∀ k o, (k, o) ∈ h → ∃ k' o', (k', o') ∈ ns ∧ sOut S t k' = some k ∧ o'.rn (sOut S t) = some o := by
  intro ns
  induction ns with
  | nil => intro h hh; simp [newsOut] at hh; subst hh; simp
  | cons p r ih =>
    intro h hh k o hm
    obtain ⟨k0, o0⟩ := p
    simp only [newsOut] at hh
    cases h1 : sOut S t k0 <;> cases h2 : o0.rn (sOut S t) <;> cases h3 : newsOut S t r <;> simp [h1, h2, h3] at hh
    subst hh
    rcases List.mem_cons.1 hm with e | hm
    · simp at e; obtain ⟨rfl, rfl⟩ := e; exact ⟨k0, o0, List.mem_cons_self, h1, h2⟩
    · obtain ⟨k', o', a, b, c⟩ := ih h3 k o hm
      exact ⟨k', o', List.mem_cons_of_mem _ a, b, c⟩

theorem objsPan_some {S : List Nm} {t : Nat} : ∀ {T : List Nm} {os : List (Option AObj)} {h : Heap} {l : List Nm}, objsPan S t T os = some (h, l) → (∀ k ∈ T, k ∈ h.map (·.1) ++ l) ∧ ∀ k o, (k, o) ∈ h → ∃ (i : Nat) (o' : AObj), T[i]? = some k ∧ os[i]? = some (some o') ∧ o'.rn (sOut S t) = some o := by
  intro T
  induction T with
  | nil => intro os h l hh; cases os <;> simp [objsPan] at hh; obtain ⟨rfl, rfl⟩ := hh; simp
  | cons k r ih =>
    intro os h l hh
    cases os with
    | nil => simp [objsPan] at hh
    | cons o os =>
      cases o with
      | none =>
        simp only [objsPan] at hh
        cases h2 : objsPan S t r os with
        | none => simp [h2] at hh
        | some q =>
          obtain ⟨h', ks⟩ := q
          simp [h2] at hh
          obtain ⟨rfl, rfl⟩ := hh
          obtain ⟨e1, e3⟩ := ih h2
          refine ⟨fun k' hk' => ?_, fun k' o' hm => ?_⟩
          · rcases List.mem_cons.1 hk' with rfl | hk'
            · simp
            · have := e1 k' hk'; simp at this ⊢; rcases this with h | h <;> simp [h]
          · obtain ⟨i, o2, a, b, c⟩ := e3 k' o' hm
            exact ⟨i + 1, o2, by simpa using a, by simpa using b, c⟩
      | some o =>
        simp only [objsPan] at hh
        cases h1 : o.rn (sOut S t) with
        | none => simp [h1] at hh
        | some o1 =>
          cases h2 : objsPan S t r os with
          | none => simp [h1, h2] at hh
          | some q =>
            obtain ⟨h', ks⟩ := q
            simp [h1, h2] at hh
            obtain ⟨rfl, rfl⟩ := hh
            obtain ⟨e1, e3⟩ := ih h2
            refine ⟨fun k' hk' => ?_, fun k' o' hm => ?_⟩
            · rcases List.mem_cons.1 hk' with rfl | hk'
              · simp
              · have := e1 k' hk'; simp at this ⊢; rcases this with h | h <;> simp [h]
            · rcases List.mem_cons.1 hm with e | hm
              · simp at e; obtain ⟨rfl, rfl⟩ := e; exact ⟨0, o, rfl, rfl, h1⟩
              · obtain ⟨i, o2, a, b, c⟩ := e3 k' o' hm
                exact ⟨i + 1, o2, by simpa using a, by simpa using b, c⟩

theorem CallsF.mono {P : Program} {g : FuncId} {args : Array Value} {w : World} {R R' : Ending → World → Prop} (h : CallsF P g args w R) (hr : ∀ e w', R e w' → R' e w') : CallsF P g args w R' := by
  rcases h with ⟨h1, h2⟩ | ⟨v, w', h1, h2⟩
  · exact .inl ⟨h1, h2.mono hr⟩
  · exact .inr ⟨v, w', h1, hr _ _ h2⟩

theorem callT_ok {C : Cfg} {ev : CallF} (hev : CallOk C ev) {H : Heap} {g : FuncId} {args : List TV} {t : Nat} {res : ORes} {G : Gh} {w : World} {vs : List Value} (h : callT ev H g args t = some res)
    (hw : WF G w) (hg : GlobR C G) (hH : HR G w H) (hfresh : ∀ p, ¬ G.dom (.loc (t :: p))) (hv : VRs G args vs) : CallsF C.P g vs.toArray w (ResOk t G w res) := by
  unfold callT at h
  generalize hfr : frzArgs H args = q at h
  obtain ⟨args1, ks⟩ := q
  dsimp only at h
  split at h
  · simp at h
  rename_i S hS
  split at h
  case isFalse => simp at h
  rename_i hn
  split at h
  case h_2 => simp at h
  rename_i as os has hos
  have hst := frozen_step hw hH ks
  have hH1 : HR (G.frozen w H ks) w (H.puts (frozenU H ks)) := HR.puts hst hw hH (fun k o hm => frozen_OR hw hH hm) (fun k _ hk => frozenU_keys hk.1 hk.2)
  have hv1 := frzArgs_ok hw hH ks hv hfr (fun _ hk => hk)
  have hg1 : GlobR C (G.frozen w H ks) := hg.mono hst.le
  generalize hG1 : G.frozen w H ks = G1 at hst hH1 hv1 hg1
  have hSd : ∀ k ∈ S, G1.dom k := by
    intro k hk
    obtain ⟨j, hj⟩ := List.mem_iff_getElem?.1 hk
    obtain ⟨o, o', h1, _, _⟩ := (objsIn_some hos).2 j k hj
    exact (hH1 k o h1).1
  have hfresh1 : ∀ p, ¬ G1.dom (.loc (t :: p)) := by
    intro p hd
    rcases hst.news _ hd with d | d
    · exact hfresh p d
    · exact d
  have hc := fun r (hr : ev g as os = some r) => hev g as os r hr (G1.within S) w vs (within_WF hst.wf hn hSd) (fun x cs hx => hg1 x cs hx)
    ⟨fun i hi => by have := (objsIn_some hos).1; exact (by omega : i < S.length), fun p d => d⟩ (within_HR hH1 hos) (hv1.rn within_seen has)
  have keyW : ∀ (u : Heap) (l : List Nm), (∀ k ∈ S, k ∈ u.map (·.1) ++ l) → ∀ k, ((k ∈ ks ∧ ∃ g e fz cs, H.get k = some (.arr g e fz cs)) ∨ k ∈ S) → k ∈ ((frozenU H ks).filter (fun p => !(S.contains p.1)) ++ u).map (·.1) ++ l := by
    intro u l hu k hk
    rw [List.map_append, List.append_assoc]
    by_cases hm : k ∈ S
    · exact List.mem_append_right _ (hu k hm)
    · rcases hk with ⟨h1, h2⟩ | h2
      · refine List.mem_append_left _ ?_
        obtain ⟨p, hp, e⟩ := List.mem_map.1 (frozenU_keys h1 h2)
        refine List.mem_map.2 ⟨p, List.mem_filter.2 ⟨hp, ?_⟩, e⟩
        simp [e, hm]
      · exact absurd h2 hm
  have hfil : ∀ {G3 : Gh} {w' : World}, Step (fun k => k ∈ S) (fun k => ∃ p, k = .loc (t :: p)) G1 w G3 w' → ∀ k ob, (k, ob) ∈ (frozenU H ks).filter (fun p => !(S.contains p.1)) → G3.dom k ∧ OR G3 w' k ob := by
    intro G3 w' hs3 k ob hm
    obtain ⟨hm1, hm2⟩ := List.mem_filter.1 hm
    have hm3 : k ∉ S := by simpa using hm2
    obtain ⟨d, ho⟩ := frozen_OR hw hH hm1
    rw [hG1] at d ho
    exact ⟨hs3.le.dom _ d, hs3.keeps hst.wf d hm3 ho⟩
  split at h
  · rename_i v os' news hr
    split at h <;> try (simp at h; done)
    rename_i v' h1 h2 hv' hh1 hh2
    obtain rfl := Option.some.inj h
    refine (hc _ hr).mono fun e w' he => ?_
    obtain ⟨x, G2, rfl, hs2, hl, hob, hnw, hx⟩ := he
    have hs3 := back_step hst.wf hn hSd hfresh1 hs2
    have hseen := back_seen hn hSd hfresh1 hs2
    obtain ⟨ek, _, hO⟩ := objsOut_some hh1
    have hb := hst.trans hs3
    refine ⟨x, G1.back S t G2, rfl, hb.mono (fun k _ hk => ?_) (fun k hk => hk.elim False.elim id), fun k ob hm => ?_, hx.rn hseen hv'⟩
    · have := keyW h1 [] (fun k hk => by rw [ek]; simpa using hk) k hk
      rw [List.map_append]
      rw [List.append_nil] at this
      exact List.mem_append_left _ this
    · rcases List.mem_append.1 hm with hm | hm
      · rcases List.mem_append.1 hm with hm | hm
        · exact hfil hs3 k ob hm
        · obtain ⟨i, o', e1, e2, e3⟩ := hO k ob hm
          obtain ⟨d, ho⟩ := hob i o' e2
          exact ⟨.inl (hSd _ (List.mem_of_getElem? e1)), OR.rn hseen (fun _ _ _ => rfl) (back_in hn e1) ho e3⟩
      · obtain ⟨k', o', e1, e2, e3⟩ := newsOut_some hh2 k ob hm
        obtain ⟨el, d, ho⟩ := hnw k' o' e1
        cases k' with
        | arg i => simp [Nm.isLoc] at el
        | loc p =>
          simp [sOut] at e2
          subst e2
          exact ⟨.inr ⟨p, rfl, d⟩, OR.rn hseen (fun _ _ _ => rfl) (back_new (hfresh1 p) hSd) ho e3⟩
  · rename_i v os' hr
    split at h <;> try (simp at h; done)
    rename_i v' h1 l hv' hh1
    obtain rfl := Option.some.inj h
    refine (hc _ hr).mono fun e w' he => ?_
    obtain ⟨x, G2, rfl, hs2, hob, hx⟩ := he
    have hs3 := back_step hst.wf hn hSd hfresh1 hs2
    have hseen := back_seen hn hSd hfresh1 hs2
    obtain ⟨ek, hO⟩ := objsPan_some hh1
    have hb := hst.trans hs3
    refine ⟨x, G1.back S t G2, rfl, hb.mono (fun k _ hk => keyW h1 l ek k hk) (fun k hk => hk.elim False.elim id), fun k ob hm => ?_, hx.rn hseen hv'⟩
    rcases List.mem_append.1 hm with hm | hm
    · exact hfil hs3 k ob hm
    · obtain ⟨i, o', e1, e2, e3⟩ := hO k ob hm
      obtain ⟨d, ho⟩ := hob i o' e2
      exact ⟨.inl (hSd _ (List.mem_of_getElem? e1)), OR.rn hseen (fun _ _ _ => rfl) (back_in hn e1) ho e3⟩
  · simp at h

end Go.Abs

namespace Go.Abs
open Go

/-- what a run comes to -/
def RunOk (P : Program) (R : Ending → World → Prop) : Result Next → Prop
  | .ok (.value v) w' => R (.returned v) w'
  | .ok .skip w' => R (.returned undef) w'
  | .ok (.enter f args) w' => Calls P f args w' R
  | .halt (.panic v) w' => R (.panicked [{ v, recovered := false }]) w'
  | _ => False

/-- an operation does what is said of it -/
def ExecOk (P : Program) (o : Oper) (a : Act) (w : World) (R : Ending → World → Prop) : Prop := RunOk P R ((execOp a.eval o).run P w)

theorem ExecOk.wp {P : Program} {o : Oper} {a : Act} {w : World} {R : Ending → World → Prop} (h : ExecOk P o a w R) (hno : ∀ w', ¬ R .outgrown w') {next : Act → World → Prop} {Q : Exit → Act → World → Prop}
    (h1 : ∀ x w', R (.returned x) w' → next (a.put o.dst x) w') (h2 : ∀ ch w', R (.panicked ch) w' → Q (.panic ch) a w') : o.wp P a w next Q := by
  unfold ExecOk at h
  unfold Oper.wp
  generalize (execOp a.eval o).run P w = r at h ⊢
  unfold RunOk at h
  split at h
  · rw [Oper.upon_value]; exact h1 _ _ h
  · rw [Oper.upon_skip]; exact h1 _ _ h
  · rw [Oper.upon_enter]
    refine h.mono fun e w' he => ?_
    cases e with
    | returned x => exact h1 x w' he
    | panicked ch => exact h2 ch w' he
    | outgrown => exact absurd he (hno w')
  · rw [Oper.upon_panic]; exact h2 _ _ h
  · exact h.elim

theorem wp_callF {P : Program} {o : Oper} {a : Act} {w : World} {R : Ending → World → Prop} {fo : Operand} {args : Array Operand} {ats : Array TypeId} {g : FuncId} {first captured : Array Value}
    (ho : o.op = .call { callee := .value fo, args, argTypes := ats }) (hf : a.eval fo = .func (.func g) first captured) (h : CallsF P g (first ++ args.map a.eval ++ captured) w R) : ExecOk P o a w R := by
  have e : (execOp a.eval o).run P w = (callFunc g (first ++ args.map a.eval ++ captured)).run P w := by
    simp [execOp, ho, resolve, hf, Deferred.ofValue, invoke]
  unfold ExecOk
  rw [e]
  rcases h with ⟨hr, hc⟩ | ⟨v, w', hr, hc⟩
  · rw [hr]; exact hc
  · rw [hr]; exact hc

theorem wp_panic {P : Program} {o : Oper} {a : Act} {w : World} {R : Ending → World → Prop} {x : Operand} {t : TypeId} {v : Value} (ho : o.op = .panic x) (hv : a.eval x = .iface t v) (h : R (.panicked [{ v := .iface t v, recovered := false }]) w) : ExecOk P o a w R := by
  have : (execOp a.eval o).run P w = .halt (.panic (.iface t v)) w := by simp [execOp, ho, hv, Instr.panic, goPanic]
  unfold ExecOk
  rw [this]
  exact h

theorem panicOf_VR {G : Gh} {y v : TV} {x : Value} (h : panicOf y = some v) (hv : VR G y x) : ∃ t u, x = .iface t u ∧ VR G v x := by
  unfold panicOf at h
  split at h
  · simp at h; subst h; cases hv with | iface _ z u hu => exact ⟨_, u, rfl, .iface _ _ _ hu⟩
  · simp at h; subst h; cases hv with | t _ _ hv => cases hv with | iface _ z u hu => exact ⟨_, u, rfl, .t _ _ (.iface _ _ _ hu)⟩
  · simp at h

theorem calleeT_ok {C : Cfg} {G : Gh} {slots : List TV} {a : Act} {fo : Operand} {args : Array Operand} {ats : Array TypeId} {g : FuncId} {as : List TV} (hs : SR G slots a) (hg : GlobR C G)
    (h : calleeT C slots { callee := .value fo, args, argTypes := ats } = some (g, as)) : ∃ first captured : Array Value, a.eval fo = .func (.func g) first captured ∧ VRs G as (first ++ args.map a.eval ++ captured).toList := by
  unfold calleeT at h
  simp only at h
  split at h
  · rename_i hf hr
    simp at h
    obtain ⟨rfl, rfl⟩ := h
    have h1 := rho_VR hs hg hf
    have h2 := rhos_VR hs hg hr
    cases h1 with
    | t _ _ h1 =>
      generalize hx : a.eval fo = x at h1
      cases h1
      exact ⟨#[], #[], rfl, by simpa using h2⟩
  · rename_i g' fs cs as' hf hr
    simp at h
    obtain ⟨rfl, rfl⟩ := h
    have h1 := rho_VR hs hg hf
    have h2 := rhos_VR hs hg hr
    generalize hx : a.eval fo = x at h1
    cases h1 with
    | fn _ _ _ vs ws hl hv hl' hv' =>
      refine ⟨vs.toArray, ws.toArray, rfl, ?_⟩
      have := VRs.append (VRs.append (G := G) ⟨hl, hv⟩ h2) ⟨hl', hv'⟩
      simpa using this
  · simp at h

theorem OpOk.exec {P : Program} {t : Nat} {o : Oper} {a : Act} {w : World} {G : Gh} {v : TV} {u : List (Nm × AObj)} (h : OpOk P (.loc [t]) o a w G v u) : ExecOk P o a w (ResOk t G w (.val v u)) := by
  obtain ⟨x, w', G', hn, hs, hu, hv⟩ := h
  have hR : ResOk t G w (.val v u) (.returned x) w' := ⟨x, G', rfl, hs.mono (fun _ _ h => h) (fun k hk => ⟨[], hk⟩), hu, hv⟩
  unfold ExecOk
  rcases hn with hn | ⟨hn, rfl⟩ <;> rw [hn] <;> exact hR

theorem ResOk.no {t : Nat} {G : Gh} {w : World} {r : ORes} (w' : World) : ¬ ResOk t G w r .outgrown w' := by
  cases r <;> simp [ResOk]

/-- an operation is right -/
theorem execT_ok {C : Cfg} {ev : CallF} (hev : CallOk C ev) {f : FuncId} {H : Heap} {slots : List TV} {t : Nat} {o : Oper} {r : ORes} {G : Gh} {w : World} {a : Act} (h : execT C ev f H slots t o = some r)
    (hw : WF G w) (hg : GlobR C G) (hs : SR G slots a) (hH : HR G w H) (hfresh : ∀ p, ¬ G.dom (.loc (t :: p))) : ExecOk C.P o a w (ResOk t G w r) := by
  unfold execT at h
  split at h
  · rename_i x ho
    split at h <;> try (simp at h; done)
    rename_i v hv
    simp at h
    subst h
    cases hx : rhoT C slots x with
    | none => simp [hx] at hv
    | some y =>
      simp [hx] at hv
      obtain ⟨ty, u, e, hvr⟩ := panicOf_VR hv (rho_VR hs hg hx)
      refine wp_panic ho e ⟨a.eval x, G, by rw [e], Step.refl hw _ _, by simp, hvr⟩
  · rename_i fo args ats ho
    split at h <;> try (simp at h; done)
    rename_i g as hc
    obtain ⟨first, captured, e, hv⟩ := calleeT_ok hs hg hc
    have := callT_ok hev h hw hg hH hfresh hv
    rw [Array.toArray_toList] at this
    exact wp_callF ho e this
  · split at h <;> try (simp at h; done)
    rename_i v u he
    simp at h
    subst h
    exact (evalOp_ok hw hH (hfresh []) hs hg he).exec

theorem wantedT_ok {G : Gh} {ops : Array Oper} {slots : List TV} {o : Oper} {a : Act} {b : Bool} (h : wantedT ops slots o = some b) (hs : SR G slots a) : Region.wanted o (yielded ops a.tmps) = b := by
  unfold wantedT at h
  unfold Region.wanted
  split at h
  · rename_i hg; simp at h; subst h; simp [hg]
  · rename_i j want hg
    simp only [hg]
    unfold yielded
    split at h
    · rename_i hd; simp at h; subst h; simp [hd]
    · rename_i d hd
      rw [hd]
      simp only [Option.bind_some]
      have hl := hs.1
      have at' : ∀ x, slots[d]? = some x → ∃ v, a.tmps[d]? = some v ∧ VR G x v := fun x hx => by
        obtain ⟨v, h1, h2⟩ := VRs.at hs hx
        exact ⟨v, by simpa using h1, h2⟩
      split at h
      · rename_i c hc
        simp at h; subst h
        obtain ⟨v, e, hv⟩ := at' _ hc
        rw [e]
        rw [hv.bool]
        cases c <;> cases want <;> rfl
      · rename_i hc
        simp at h; subst h
        obtain ⟨v, e, hv⟩ := at' _ hc
        rw [e]
        cases hv with | t _ _ hv => cases hv; rfl
      · rename_i hc
        simp at h; subst h
        have : a.tmps[d]? = none := by
          have := List.getElem?_eq_none_iff.1 hc
          rw [Array.getElem?_eq_none_iff]
          simp at hl; omega
        rw [this]; rfl
      · simp at h

/-! ### The state -/
def Fresh (G : Gh) (t : Nat) : Prop := ∀ p, G.dom (.loc p) → ∃ n q, p = n :: q ∧ n < t

theorem Fresh.not {G : Gh} {t : Nat} (h : Fresh G t) (p : List Nat) : ¬ G.dom (.loc (t :: p)) := by
  intro hd
  obtain ⟨n, q, e, hl⟩ := h _ hd
  simp at e
  omega

theorem Fresh.step {G G' : Gh} {t : Nat} {W : Nm → Prop} {w w' : World} (h : Fresh G t) (hs : Step W (fun k => ∃ p, k = .loc (t :: p)) G w G' w') : Fresh G' (t + 1) := by
  intro p hd
  rcases hs.news _ hd with d | ⟨q, e⟩
  · obtain ⟨n, q, e, hl⟩ := h p d; exact ⟨n, q, e, by omega⟩
  · simp at e; exact ⟨t, q, e, by omega⟩

theorem Fresh.mono {G : Gh} {t t' : Nat} (h : Fresh G t) (hl : t ≤ t') : Fresh G t' := fun p d => by
  obtain ⟨n, q, e, hn⟩ := h p d; exact ⟨n, q, e, by omega⟩

structure StR (C : Cfg) (G : Gh) (w : World) (st : St) (a : Act) : Prop where
  wf : WF G w
  glob : GlobR C G
  slots : SR G st.slots a
  heap : HR G w st.H
  fresh : Fresh G st.tick

abbrev AnyStep := Step (fun _ => True) (fun k => k.isLoc = true)

/-- where it comes to -/
def Good (C : Cfg) (G : Gh) (w : World) (a : Act) (e : AExit) (st' : St) (ex : Exit) (a' : Act) (w' : World) : Prop :=
  ∃ G', AnyStep G w G' w' ∧ a'.defers = a.defers ∧ match e with
    | .normal => ex = .normal ∧ StR C G' w' st' a'
    | .exit id => ex = .exit id ∧ StR C G' w' st' a'
    | .ret => ex = .ret ∧ StR C G' w' st' a'
    | .panic v => ∃ x, ex = .panic [{ v := x, recovered := false }] ∧ VR G' v x ∧ HR G' w' st'.H

theorem AnyStep.comp {A B C : Gh} {u v w : World} (h : AnyStep A u B v) (k : AnyStep B v C w) : AnyStep A u C w :=
  (Step.trans h k).mono (fun _ _ _ => trivial) (fun _ hk => hk.elim id id)

theorem Step.any {W : Nm → Prop} {t : Nat} {G G' : Gh} {w w' : World} (h : Step W (fun k => ∃ p, k = .loc (t :: p)) G w G' w') : AnyStep G w G' w' :=
  h.mono (fun _ _ _ => trivial) (fun k ⟨p, e⟩ => by subst e; rfl)

theorem Good.comp {C : Cfg} {G G1 : Gh} {w w1 : World} {a a1 : Act} {e : AExit} {st' : St} {ex : Exit} {a' : Act} {w' : World} (h : AnyStep G w G1 w1) (hd : a1.defers = a.defers) (k : Good C G1 w1 a1 e st' ex a' w') : Good C G w a e st' ex a' w' := by
  obtain ⟨G', h1, h2, h3⟩ := k
  exact ⟨G', AnyStep.comp h h1, h2.trans hd, h3⟩

theorem put_defers (a : Act) (d : Option Tmp) (x : Value) : (a.put d x).defers = a.defers := by cases d <;> rfl

theorem SR.put {G : Gh} {slots : List TV} {a : Act} {v : TV} {x : Value} (h : SR G slots a) (d : Option Tmp) (hv : VR G v x) : SR G (putSlot slots d v) (a.put d x) := by
  cases d with
  | none => exact h
  | some d =>
    refine ⟨by have := h.1; simp at this; simp [Act.put, putSlot, setS_eq, this], fun j c u hc hu => ?_⟩
    simp only [putSlot, setS_eq] at hc
    simp only [Act.put, Array.toList_setIfInBounds] at hu
    rw [List.getElem?_set] at hc hu
    by_cases e : d = j
    · subst e
      simp only [if_true] at hc hu
      split at hc
      · simp at hc; subst hc
        split at hu
        · simp at hu; subst hu; exact hv
        · simp at hu
      · simp at hc
    · rw [if_neg e] at hc hu
      exact h.2 j c u hc hu

theorem SR.mono {G G' : Gh} {slots : List TV} {a : Act} (h : SR G slots a) (hG : G.le G') : SR G' slots a := VRs.mono hG h

theorem StR.unwanted {C : Cfg} {G : Gh} {w : World} {st : St} {a : Act} (h : StR C G w st a) (d : Option Tmp) : StR C G w { st with slots := putSlot st.slots d undefT, tick := st.tick + 1 } (a.put d undef) :=
  ⟨h.wf, h.glob, h.slots.put d (undef_VR G), h.heap, h.fresh.mono (Nat.le_succ _)⟩

theorem StR.op {C : Cfg} {G G' : Gh} {w w' : World} {st : St} {a : Act} {v : TV} {u : Heap} {x : Value} (h : StR C G w st a) (d : Option Tmp) (hs : Step (fun k => k ∈ u.map (·.1)) (fun k => ∃ p, k = .loc (st.tick :: p)) G w G' w')
    (hu : ∀ k ob, (k, ob) ∈ u → G'.dom k ∧ OR G' w' k ob) (hv : VR G' v x) : StR C G' w' { slots := putSlot st.slots d v, H := st.H.puts u, tick := st.tick + 1 } (a.put d x) :=
  ⟨hs.wf, h.glob.mono hs.le, (h.slots.mono hs.le).put d hv, HR.puts hs h.wf h.heap hu (fun k _ hk => hk), h.fresh.step hs⟩

theorem HR.hide {G : Gh} {w : World} {H : Heap} (h : HR G w H) (ks : List Nm) : HR G w (H.hide ks) := by
  intro k o hk
  rw [Heap.get_hide] at hk
  split at hk
  · simp at hk
  · exact h k o hk

/-- of a panic: what is still known -/
theorem HR.panicked {N : Nm → Prop} {G G' : Gh} {w w' : World} {H : Heap} {u : Heap} {l : List Nm} (hw : WF G w) (hH : HR G w H) (hs : Step (fun k => k ∈ u.map (·.1) ++ l) N G w G' w')
    (hu : ∀ k ob, (k, ob) ∈ u → G'.dom k ∧ OR G' w' k ob) : HR G' w' ((H.hide l).puts u) := by
  intro k o hk
  rcases Heap.get_puts (H.hide l) u k o hk with h1 | ⟨h1, hn⟩
  · exact hu k o h1
  · rw [Heap.get_hide] at h1
    split at h1
    · simp at h1
    · rename_i hl
      obtain ⟨d, ho⟩ := hH k o h1
      exact ⟨hs.le.dom _ d, hs.keeps hw d (fun x => by rcases List.mem_append.1 x with x | x; exact hn x; exact hl x) ho⟩

/-- operations in the text's order are right -/
theorem opsS_ok {C : Cfg} {ev : CallF} (hev : CallOk C ev) {f : FuncId} {ops : Array Oper} : ∀ (l : List Oper) (st : St) (e : AExit) (st' : St), opsS C ev f ops l st = some (e, st') → ∀ (G : Gh) (w : World) (a : Act), StR C G w st a →
    ∀ Q : Exit → Act → World → Prop, (∀ ex a' w', Good C G w a e st' ex a' w' → Q ex a' w') → wpList C.P ops Q l a w := by
  intro l
  induction l with
  | nil =>
    intro st e st' h G w a hst Q hQ
    simp [opsS] at h
    obtain ⟨rfl, rfl⟩ := h
    exact hQ _ _ _ ⟨G, Step.refl hst.wf _ _, rfl, rfl, hst⟩
  | cons o r ih =>
    intro st e st' h G w a hst Q hQ
    simp only [opsS] at h
    refine wpList_step fun K hK => ?_
    split at h
    · simp at h
    · rename_i hwn
      rw [wantedT_ok hwn hst.slots]
      refine hK _ _ (ih _ _ _ h G w _ (hst.unwanted o.dst) Q fun ex a' w' hg => hQ _ _ _ (Good.comp (Step.refl hst.wf _ _) (put_defers _ _ _) hg))
    · rename_i hwn
      rw [wantedT_ok hwn hst.slots]
      simp only [if_true]
      split at h
      · simp at h
      · rename_i v u hx
        refine (execT_ok hev hx hst.wf hst.glob hst.slots hst.heap hst.fresh.not).wp ResOk.no (fun x w' hr => ?_) (fun ch w' hr => ?_)
        · obtain ⟨x', G', e1, hs, hu, hv⟩ := hr
          simp at e1; subst e1
          exact hK _ _ (ih _ _ _ h G' w' _ (hst.op o.dst hs hu hv) Q fun ex a' w'' hg => hQ _ _ _ (Good.comp hs.any (put_defers _ _ _) hg))
        · obtain ⟨x', G', e1, _⟩ := hr
          simp at e1
      · rename_i v u l hx
        simp at h
        obtain ⟨rfl, rfl⟩ := h
        refine (execT_ok hev hx hst.wf hst.glob hst.slots hst.heap hst.fresh.not).wp ResOk.no (fun x w' hr => ?_) (fun ch w' hr => ?_)
        · obtain ⟨x', G', e1, _⟩ := hr
          simp at e1
        · obtain ⟨x', G', e1, hs, hu, hv⟩ := hr
          simp at e1; subst e1
          exact hQ _ _ _ ⟨G', hs.any, rfl, x', rfl, hv, HR.panicked hst.wf hst.heap hs hu⟩

end Go.Abs

namespace Go.Abs
open Go

/-! ### The order -/
theorem foldBit {es : List Edge} {acc : List Nat} {i : Nat} : ∀ {s : Nat}, (es.foldl (fun s e => if Region.binds .any e then s ||| 2 ^ e.on ||| acc.getD e.on 0 else s) s).testBit i = true →
    s.testBit i = true ∨ ∃ e ∈ es, Region.binds .any e = true ∧ (e.on = i ∨ (acc.getD e.on 0).testBit i = true) := by
  induction es with
  | nil => intro s h; exact .inl h
  | cons e r ih =>
    intro s h
    simp only [List.foldl_cons] at h
    rcases ih h with h | ⟨e', h1, h2⟩
    · by_cases hb : Region.binds .any e = true
      · rw [if_pos hb] at h
        rw [Nat.testBit_or, Nat.testBit_or] at h
        simp only [Bool.or_eq_true] at h
        rcases h with (h | h) | h
        · exact .inl h
        · rw [Nat.testBit_two_pow] at h
          exact .inr ⟨e, List.mem_cons_self, hb, .inl (by simpa using h)⟩
        · exact .inr ⟨e, List.mem_cons_self, hb, .inr h⟩
      · rw [if_neg hb] at h; exact .inl h
    · exact .inr ⟨e', List.mem_cons_of_mem _ h1, h2⟩

theorem befs_spec : ∀ (l : List Oper) (acc : List Nat), (befs l acc).length = acc.length + l.length ∧ (∀ j, j < acc.length → (befs l acc)[j]? = acc[j]?) ∧
    ∀ j o i, l[j]? = some o → isBefore (befs l acc) i (acc.length + j) = true → ∃ e ∈ o.after.toList, Region.binds .any e = true ∧ (e.on = i ∨ (e.on < acc.length + j ∧ isBefore (befs l acc) i e.on = true)) := by
  intro l
  induction l with
  | nil => intro acc; simp [befs]
  | cons o r ih =>
    intro acc
    simp only [befs]
    generalize hx : o.after.toList.foldl (fun s e => if Region.binds .any e then s ||| 2 ^ e.on ||| acc.getD e.on 0 else s) 0 = x
    obtain ⟨h1, h2, h3⟩ := ih (acc ++ [x])
    refine ⟨by rw [h1]; simp; omega, fun j hj => by rw [h2 j (by simp; omega), List.getElem?_append_left hj], fun j o' i hj hb => ?_⟩
    cases j with
    | zero =>
      simp at hj
      subst hj
      unfold isBefore at hb
      have e0 : (befs r (acc ++ [x]))[acc.length]? = some x := by
        rw [h2 acc.length (by simp)]
        simp
      rw [Nat.add_zero, List.getD, e0] at hb
      simp only [Option.getD_some] at hb
      rw [← hx] at hb
      rcases foldBit hb with h | ⟨e, he, hbd, h⟩
      · simp at h
      · refine ⟨e, he, hbd, h.imp id fun h => ?_⟩
        have hl : e.on < acc.length := by
          rcases Nat.lt_or_ge e.on acc.length with h' | h'
          · exact h'
          · simp [List.getD, List.getElem?_eq_none h'] at h
        refine ⟨by omega, ?_⟩
        unfold isBefore
        rw [List.getD, h2 e.on (by simp; omega), List.getElem?_append_left hl]
        exact h
    | succ j =>
      have := h3 j o' i (by simpa using hj) (by rw [show (acc ++ [x]).length + j = acc.length + (j + 1) from by simp; omega]; exact hb)
      rw [show (acc ++ [x]).length + j = acc.length + (j + 1) from by simp; omega] at this
      exact this

theorem backOk_at : ∀ {l : List Oper} {i : Nat}, backOk i l = true → ∀ j o, l[j]? = some o → ∀ e ∈ o.after.toList, Region.binds .any e = true → e.on < i + j := by
  intro l
  induction l with
  | nil => intro i _ j o h; simp at h
  | cons x r ih =>
    intro i h j o hj e he hb
    simp only [backOk, Bool.and_eq_true] at h
    cases j with
    | zero =>
      simp at hj; subst hj
      have := List.all_eq_true.1 h.1 e he
      simp [hb] at this
      omega
    | succ j =>
      have := ih h.2 j o (by simpa using hj) e he hb
      omega

/-! ### Places that are free -/
theorem freeOne_at {ops : Array Oper} {b : Nat} {j : Oper} {rj : Rec} : ∀ {xs : List Oper} {rs : List Rec} {i : Nat}, freeOne ops b j rj i xs rs = true → ∀ k x r, xs[k]? = some x → rs[k]? = some r → b.testBit (i + k) = true ∨ apart2 ops x j r rj = true := by
  intro xs
  induction xs with
  | nil => intro rs i _ k x r h; simp at h
  | cons x xs ih =>
    intro rs i h k y r hx hr
    cases rs with
    | nil => simp at hr
    | cons r0 rs =>
      simp only [freeOne, Bool.and_eq_true, Bool.or_eq_true] at h
      cases k with
      | zero => simp at hx hr; subst hx; subst hr; exact h.1
      | succ k =>
        have := ih h.2 k y r (by simpa using hx) (by simpa using hr)
        rw [show i + 1 + k = i + (k + 1) from by omega] at this
        exact this

theorem freeOrder_at {ops : Array Oper} {l : List Oper} {recs : List Rec} : ∀ {bs : List Nat} {os : List Oper} {rs : List Rec} {n : Nat}, freeOrder ops l recs bs os rs n = true →
    ∀ k b o r, bs[k]? = some b → os[k]? = some o → rs[k]? = some r → freeOne ops b o r 0 (l.take (n + k)) (recs.take (n + k)) = true := by
  intro bs
  induction bs with
  | nil => intro os rs n _ k b o r h; simp at h
  | cons b bs ih =>
    intro os rs n h k b' o r hb ho hr
    cases os with
    | nil => simp at ho
    | cons o0 os =>
      cases rs with
      | nil => simp at hr
      | cons r0 rs =>
        simp only [freeOrder, Bool.and_eq_true] at h
        cases k with
        | zero => simp at hb ho hr; subst hb; subst ho; subst hr; exact h.1
        | succ k =>
          have := ih h.2 k b' o r (by simpa using hb) (by simpa using ho) (by simpa using hr)
          rw [show n + 1 + k = n + (k + 1) from by omega] at this
          exact this

/-! ### The state behind some of them -/
noncomputable def stD (l : List Oper) (recs : List Rec) (s0 : DSt) (D : Nat → Bool) : Nat → DSt
  | 0 => s0
  | n + 1 => match l[n]?, recs[n]? with
    | some o, some r => if D n then (stD l recs s0 D n).after o r.res else stD l recs s0 D n
    | _, _ => stD l recs s0 D n

section
variable {l : List Oper} {recs : List Rec} {s0 : DSt}

theorem putSlot_at {slots : List TV} {d : Option Tmp} {v : TV} {t : Nat} (h : d ≠ some t) : (putSlot slots d v)[t]? = slots[t]? := by
  cases d with
  | none => rfl
  | some d => simp only [putSlot, setS_eq]; rw [List.getElem?_set]; simp at h; simp [h]

theorem after_slot {s : DSt} {o : Oper} {r : RRes} {t : Nat} (h : o.dst ≠ some t) : (s.after o r).slots[t]? = s.slots[t]? := by
  cases r <;> simp only [DSt.after] <;> first | rfl | exact putSlot_at h

theorem putSlot_congr {slots slots' : List TV} {d : Option Tmp} {v : TV} {t : Nat} (h : slots[t]? = slots'[t]?) : (putSlot slots d v)[t]? = (putSlot slots' d v)[t]? := by
  cases d with
  | none => exact h
  | some d =>
    simp only [putSlot, setS_eq]
    rw [List.getElem?_set, List.getElem?_set]
    by_cases e : d = t
    · subst e
      simp only [if_true]
      by_cases h1 : d < slots.length
      · have : d < slots'.length := by
          rw [List.getElem?_eq_getElem h1] at h
          exact (List.getElem?_eq_some_iff.1 h.symm).1
        simp [h1, this]
      · rw [List.getElem?_eq_none (Nat.le_of_not_lt h1)] at h
        have := List.getElem?_eq_none_iff.1 h.symm
        have h2 : ¬ d < slots'.length := Nat.not_lt.2 this
        simp [h1, h2]
    · simp [e, h]

theorem after_slot_congr {s s' : DSt} {o : Oper} {r : RRes} {t : Nat} (h : s.slots[t]? = s'.slots[t]?) : (s.after o r).slots[t]? = (s'.after o r).slots[t]? := by
  cases r <;> simp only [DSt.after] <;> first | exact h | exact putSlot_congr h

theorem get_put_congr {H H' : Heap} {k k' : Nm} {o : AObj} (h : H.get k = H'.get k) : (H.put k' o).get k = (H'.put k' o).get k := by
  rw [Heap.get_put, Heap.get_put, h]

theorem get_puts_congr {H H' : Heap} {k : Nm} : ∀ {u : Heap}, H.get k = H'.get k → (H.puts u).get k = (H'.puts u).get k := by
  intro u
  induction u generalizing H H' with
  | nil => intro h; exact h
  | cons p r ih => intro h; exact ih (get_put_congr h)

theorem get_puts_out {H : Heap} {k : Nm} : ∀ {u : Heap}, k ∉ u.map (·.1) → (H.puts u).get k = H.get k := by
  intro u
  induction u generalizing H with
  | nil => intro _; rfl
  | cons p r ih =>
    intro h
    simp only [List.map_cons, List.mem_cons, not_or] at h
    have e : (H.puts (p :: r)) = (H.put p.1 p.2).puts r := rfl
    rw [e, ih h.2, Heap.get_put, if_neg (fun x => h.1 x.symm)]

theorem after_get {s : DSt} {o : Oper} {r : RRes} {k : Nm} (h : k ∉ r.keys) : (s.after o r).H.get k = s.H.get k := by
  cases r <;> simp only [DSt.after] <;> first | rfl | exact get_puts_out h

theorem after_get_congr {s s' : DSt} {o : Oper} {r : RRes} {k : Nm} (h : s.H.get k = s'.H.get k) : (s.after o r).H.get k = (s'.after o r).H.get k := by
  cases r <;> simp only [DSt.after] <;> first | exact h | exact get_puts_congr h

/-- a slot hangs on those that write it -/
theorem stD_slot {D D' : Nat → Bool} {t : Nat} : ∀ {n : Nat}, (∀ j o, j < n → l[j]? = some o → o.dst = some t → D j = D' j) → (stD l recs s0 D n).slots[t]? = (stD l recs s0 D' n).slots[t]? := by
  intro n
  induction n with
  | zero => intro _; rfl
  | succ n ih =>
    intro h
    have ih' := ih fun j o hj => h j o (by omega)
    simp only [stD]
    split
    · rename_i o r ho hr
      by_cases hd : o.dst = some t
      · rw [h n o (by omega) ho hd]
        split
        · exact after_slot_congr ih'
        · exact ih'
      · split <;> split <;> first | exact after_slot_congr ih' | exact ih' | (rw [after_slot hd]; exact ih')
    · exact ih'

theorem stD_get {D D' : Nat → Bool} {k : Nm} : ∀ {n : Nat}, (∀ j r, j < n → recs[j]? = some r → k ∈ r.res.keys → D j = D' j) → (stD l recs s0 D n).H.get k = (stD l recs s0 D' n).H.get k := by
  intro n
  induction n with
  | zero => intro _; rfl
  | succ n ih =>
    intro h
    have ih' := ih fun j o hj => h j o (by omega)
    simp only [stD]
    split
    · rename_i o r ho hr
      by_cases hd : k ∈ r.res.keys
      · rw [h n r (by omega) hr hd]
        split
        · exact after_get_congr ih'
        · exact ih'
      · split <;> split <;> first | exact after_get_congr ih' | exact ih' | (rw [after_get hd]; exact ih')
    · exact ih'

theorem putSlot_length {slots : List TV} {d : Option Tmp} {v : TV} : (putSlot slots d v).length = slots.length := by cases d <;> simp [putSlot, setS_eq]

theorem after_length {s : DSt} {o : Oper} {r : RRes} : (s.after o r).slots.length = s.slots.length := by
  cases r <;> simp [DSt.after, putSlot_length]

theorem stD_length {D : Nat → Bool} : ∀ {n : Nat}, (stD l recs s0 D n).slots.length = s0.slots.length := by
  intro n
  induction n with
  | zero => rfl
  | succ n ih =>
    simp only [stD]
    split
    · split
      · rw [after_length]; exact ih
      · exact ih
    · exact ih

/-- only those that are in it count -/
theorem stD_none {D : Nat → Bool} {m : Nat} : ∀ {n : Nat}, m ≤ n → (∀ j, m ≤ j → j < n → D j = false) → stD l recs s0 D n = stD l recs s0 D m := by
  intro n
  induction n with
  | zero => intro h _; have : m = 0 := by omega
            subst this; rfl
  | succ n ih =>
    intro h hD
    by_cases e : m = n + 1
    · subst e; rfl
    · have ih' := ih (by omega) fun j h1 h2 => hD j h1 (by omega)
      simp only [stD]
      rw [hD n (by omega) (by omega)]
      split <;> simp [ih']

theorem stD_congr {D D' : Nat → Bool} : ∀ {n : Nat}, (∀ j, j < n → D j = D' j) → stD l recs s0 D n = stD l recs s0 D' n := by
  intro n
  induction n with
  | zero => intro _; rfl
  | succ n ih =>
    intro h
    simp only [stD]
    rw [ih fun j hj => h j (by omega), h n (by omega)]

theorem foldD_stD {D : Nat → Bool} (hD : ∀ j, D j = true) : ∀ {os : List Oper} {rs : List Rec} {i : Nat}, os.length = rs.length → (∀ j, os[j]? = l[i + j]?) → (∀ j, rs[j]? = recs[i + j]?) → foldD os rs (stD l recs s0 D i) = stD l recs s0 D (i + os.length) := by
  intro os
  induction os with
  | nil => intro rs i hl _ _; cases rs <;> simp at hl; rfl
  | cons o os ih =>
    intro rs i hl h1 h2
    cases rs with
    | nil => simp at hl
    | cons r rs =>
      have e1 := h1 0
      have e2 := h2 0
      simp at e1 e2
      simp only [foldD]
      have : (stD l recs s0 D i).after o r.res = stD l recs s0 D (i + 1) := by
        simp only [stD, ← e1, ← e2, hD i, if_true]
      rw [this, ih (by simpa using hl) (fun j => by have := h1 (j + 1); simpa [Nat.add_assoc, Nat.add_comm 1 j] using this) (fun j => by have := h2 (j + 1); simpa [Nat.add_assoc, Nat.add_comm 1 j] using this)]
      congr 1
      simp; omega

def panN (recs : List Rec) : Nat → Option Nat
  | 0 => none
  | n + 1 => match recs[n]? with
    | some r => panAfter n (panN recs n) r.res
    | none => panN recs n

theorem panN_some : ∀ {n j : Nat}, panN recs n = some j → j < n ∧ ∃ r v u lo, recs[j]? = some r ∧ r.res = .panic v u lo := by
  intro n
  induction n with
  | zero => intro j h; simp [panN] at h
  | succ n ih =>
    intro j h
    simp only [panN] at h
    split at h
    · rename_i r hr
      unfold panAfter at h
      split at h
      · rename_i v u lo hp; simp at h; subst h; exact ⟨by omega, r, v, u, lo, hr, hp⟩
      · obtain ⟨h1, h2⟩ := ih h; exact ⟨by omega, h2⟩
    · obtain ⟨h1, h2⟩ := ih h; exact ⟨by omega, h2⟩

theorem panN_isSome : ∀ {n j : Nat} {r : Rec} {v : TV} {u : Heap} {lo : List Nm}, j < n → recs[j]? = some r → r.res = .panic v u lo → (panN recs n).isSome = true := by
  intro n
  induction n with
  | zero => intro j r v u lo h; omega
  | succ n ih =>
    intro j r v u lo h hr hp
    simp only [panN]
    by_cases e : j = n
    · subst e
      simp [hr, hp, panAfter]
    · have := ih (j := j) (by omega) hr hp
      split
      · unfold panAfter
        split
        · rfl
        · exact this
      · exact this

theorem opsD_at {C : Cfg} {ev : CallF} {f : FuncId} {ops : Array Oper} {bs : List Nat} {t0 : Nat} {D : Nat → Bool} (hD : ∀ j, D j = true) : ∀ {os : List Oper} {rs : List Rec} {i : Nat},
    opsD C ev f ops bs t0 i os (stD l recs s0 D i) (panN recs i) = some rs → (∀ j, os[j]? = l[i + j]?) → (∀ j, rs[j]? = recs[i + j]?) →
    rs.length = os.length ∧ ∀ j o, os[j]? = some o → ∃ r, rs[j]? = some r ∧ opD C ev f ops bs t0 (i + j) o (stD l recs s0 D (i + j)) (panN recs (i + j)) = some r := by
  intro os
  induction os with
  | nil => intro rs i h _ _; simp [opsD] at h; subst h; simp
  | cons o os ih =>
    intro rs i h h1 h2
    simp only [opsD] at h
    split at h
    · simp at h
    rename_i rec hrec
    split at h
    case h_2 => simp at h
    rename_i rs' hrs
    simp at h
    subst h
    have e1 := h1 0
    have e2 := h2 0
    simp at e1 e2
    have es : (stD l recs s0 D i).after o rec.res = stD l recs s0 D (i + 1) := by
      simp only [stD, ← e1, ← e2, hD i, if_true]
    have ep : panAfter i (panN recs i) rec.res = panN recs (i + 1) := by
      simp only [panN, ← e2]
    rw [es, ep] at hrs
    obtain ⟨h3, h4⟩ := ih hrs (fun j => by have := h1 (j + 1); simpa [Nat.add_assoc, Nat.add_comm 1 j] using this) (fun j => by have := h2 (j + 1); simpa [Nat.add_assoc, Nat.add_comm 1 j] using this)
    refine ⟨by simp [h3], fun j o' hj => ?_⟩
    cases j with
    | zero => simp at hj; subst hj; exact ⟨rec, rfl, hrec⟩
    | succ j =>
      obtain ⟨r, a, b⟩ := h4 j o' (by simpa using hj)
      refine ⟨r, by simpa using a, ?_⟩
      rw [show i + (j + 1) = i + 1 + j from by omega]
      exact b

theorem panicAt_none : ∀ {rs : List Rec} {i : Nat}, panicAt i rs = none → ∀ r ∈ rs, ∀ v u lo, r.res ≠ .panic v u lo := by
  intro rs
  induction rs with
  | nil => intro i _ r h; simp at h
  | cons x rs ih =>
    intro i h r hr v u lo e
    simp only [panicAt] at h
    split at h
    · simp at h
    · rename_i hne
      rcases List.mem_cons.1 hr with rfl | hr
      · exact hne _ _ _ e
      · exact ih h r hr v u lo e

theorem panicAt_some : ∀ {rs : List Rec} {i j : Nat} {v : TV} {u : Heap} {lo : List Nm}, panicAt i rs = some (j, v, u, lo) → ∃ k r, j = i + k ∧ rs[k]? = some r ∧ r.res = .panic v u lo := by
  intro rs
  induction rs with
  | nil => intro i j v u lo h; simp [panicAt] at h
  | cons x rs ih =>
    intro i j v u lo h
    simp only [panicAt] at h
    split at h
    · rename_i v' u' lo' hx
      simp at h
      obtain ⟨rfl, rfl, rfl, rfl⟩ := h
      exact ⟨0, x, rfl, rfl, hx⟩
    · obtain ⟨k, r, h1, h2, h3⟩ := ih h
      exact ⟨k + 1, r, by omega, by simpa using h2, h3⟩

theorem lostAt_mem {b : Nat} {k : Nm} : ∀ {rs : List Rec} {i : Nat}, k ∉ lostAt b i rs → ∀ j r, rs[j]? = some r → k ∈ r.res.keys → b.testBit (i + j) = true := by
  intro rs
  induction rs with
  | nil => intro i _ j r h; simp at h
  | cons x rs ih =>
    intro i h j r hr hk
    simp only [lostAt, List.mem_append, not_or] at h
    cases j with
    | zero =>
      simp at hr; subst hr
      by_cases hb : b.testBit i = true
      · exact hb
      · rw [if_neg hb] at h; exact absurd hk h.1
    | succ j =>
      have := ih h.2 j r (by simpa using hr) hk
      rw [show i + 1 + j = i + (j + 1) from by omega] at this
      exact this
end

/-! ### Masks -/
theorem maskS_get {L : List Nat} : ∀ {slots : List TV} {i j : Nat}, (maskS L i slots)[j]? = if i + j ∈ L then slots[j]? else (slots[j]?).map fun _ => undefT := by
  intro slots
  induction slots with
  | nil => intro i j; simp [maskS]
  | cons v r ih =>
    intro i j
    simp only [maskS]
    cases j with
    | zero => by_cases hi : i ∈ L <;> simp [hi]
    | succ j =>
      simp only [List.getElem?_cons_succ]
      rw [ih, show i + 1 + j = i + (j + 1) from by omega]

theorem maskS_length {L : List Nat} : ∀ {slots : List TV} {i : Nat}, (maskS L i slots).length = slots.length := by
  intro slots
  induction slots with
  | nil => intro i; rfl
  | cons v r ih => intro i; simp [maskS, ih]

theorem maskS_congr {L : List Nat} {s s' : List TV} (hl : s.length = s'.length) (h : ∀ t ∈ L, s[t]? = s'[t]?) : maskS L 0 s = maskS L 0 s' := by
  apply List.ext_getElem?
  intro j
  rw [maskS_get, maskS_get, Nat.zero_add]
  split
  · rename_i hj; exact h j hj
  · by_cases hj : j < s.length
    · rw [List.getElem?_eq_getElem hj, List.getElem?_eq_getElem (by omega : j < s'.length)]; rfl
    · rw [List.getElem?_eq_none (by omega), List.getElem?_eq_none (by omega : s'.length ≤ j)]

def maskA (L : List Nat) (a : Act) : Act := { a with tmps := (a.tmps.toList.zipIdx.map fun p => if L.contains p.2 then p.1 else undef).toArray }

theorem maskA_get {L : List Nat} {a : Act} {t : Nat} : (maskA L a).tmps[t]? = (a.tmps[t]?).map fun v => if L.contains t then v else undef := by
  unfold maskA
  simp only [List.getElem?_toArray, List.getElem?_map, List.getElem?_zipIdx]
  cases h : a.tmps[t]? <;> simp [h]

theorem mask_SR {G : Gh} {slots : List TV} {a : Act} (h : SR G slots a) (L : List Nat) : SR G (maskS L 0 slots) (maskA L a) := by
  refine ⟨by have := h.1; rw [maskS_length]; simp [maskA, ← this], fun j c v hc hv => ?_⟩
  rw [maskS_get, Nat.zero_add] at hc
  have hv' : (maskA L a).tmps[j]? = some v := by simpa using hv
  rw [maskA_get] at hv'
  cases ha : a.tmps[j]? with
  | none => simp [ha] at hv'
  | some u =>
    simp [ha] at hv'
    by_cases hj : j ∈ L
    · simp only [hj, if_true] at hc hv'
      subst hv'
      exact h.2 j c u hc (by simpa using ha)
    · simp only [hj, if_false] at hc hv'
      subst hv'
      cases hs : slots[j]? with
      | none => simp [hs] at hc
      | some x => simp [hs] at hc; subst hc; exact undef_VR G

theorem mask_eval {L : List Nat} {a : Act} {x : Operand} (h : ∀ t, x = .tmp t → t ∈ L) : (maskA L a).eval x = a.eval x := by
  cases x with
  | tmp t =>
    have := h t rfl
    simp only [Act.eval]
    rw [Array.getD_eq_getD_getElem?, Array.getD_eq_getD_getElem?, maskA_get]
    cases ha : a.tmps[t]? <;> simp [this]
  | _ => rfl

theorem mask_exec {ops : Array Oper} {o : Oper} {a : Act} (hs : ∀ cs b, o.op ≠ .select cs b) : execOp (maskA (o.looksAt ops) a).eval o = execOp a.eval o :=
  execOp_congr o hs fun x hx => mask_eval fun t e => by
    subst e
    exact List.mem_append_left _ (List.mem_filterMap.2 ⟨.tmp t, by simpa using hx, rfl⟩)

theorem mask_wanted {ops : Array Oper} {o : Oper} {a : Act} : Region.wanted o (yielded ops (maskA (o.looksAt ops) a).tmps) = Region.wanted o (yielded ops a.tmps) := by
  unfold Region.wanted
  cases hg : o.guard with
  | none => rfl
  | some gw =>
    obtain ⟨g, want⟩ := gw
    have hy : yielded ops (maskA (o.looksAt ops) a).tmps g = yielded ops a.tmps g := by
      unfold yielded
      cases ht : (ops[g]?).bind (·.dst) with
      | none => rfl
      | some t =>
        have hm : t ∈ o.looksAt ops := by simp [Oper.looksAt, hg, ht]
        simp only [Option.bind_some]
        rw [maskA_get]
        cases ha : a.tmps[t]? <;> simp [hm]
    simp only [hy]

theorem pickH_get {H : Heap} {k : Nm} {o : AObj} : ∀ {fp : List Nm}, (pickH H fp).get k = some o → k ∈ fp ∧ H.get k = some o := by
  intro fp
  induction fp with
  | nil => intro h; simp [pickH, Heap.get] at h
  | cons x r ih =>
    intro h
    unfold pickH at h
    rw [List.filterMap_cons] at h
    cases hx : H.get x with
    | none =>
      simp only [hx, Option.map_none] at h
      obtain ⟨h1, h2⟩ := ih h
      exact ⟨List.mem_cons_of_mem _ h1, h2⟩
    | some y =>
      simp only [hx, Option.map_some, Heap.get] at h
      split at h
      · rename_i e; simp at h; subst h; subst e; exact ⟨List.mem_cons_self, hx⟩
      · obtain ⟨h1, h2⟩ := ih h
        exact ⟨List.mem_cons_of_mem _ h1, h2⟩

end Go.Abs

namespace Go.Abs
open Go

section
variable {C : Cfg} {ev : CallF} {f : FuncId} {ops : Array Oper} {st : St} {recs : List Rec}

/-- what text order says of a region -/
structure Drawn (C : Cfg) (ev : CallF) (f : FuncId) (ops : Array Oper) (st : St) (recs : List Rec) : Prop where
  len : recs.length = ops.size
  at' : ∀ (j : Nat) (o : Oper), ops.toList[j]? = some o → ∃ r, recs[j]? = some r ∧ opD C ev f ops (befs ops.toList []) st.tick j o (stD ops.toList recs { slots := st.slots, H := st.H } (fun _ => true) j) (panN recs j) = some r
  free : freeOrder ops ops.toList recs (befs ops.toList []) ops.toList recs 0 = true
  back : backOk 0 ops.toList = true

abbrev s0 (st : St) : DSt := { slots := st.slots, H := st.H }

theorem Drawn.free_at (h : Drawn C ev f ops st recs) {i j : Nat} {x y : Oper} {rx ry : Rec} (hij : i < j) (hx : ops.toList[i]? = some x) (hy : ops.toList[j]? = some y) (hrx : recs[i]? = some rx) (hry : recs[j]? = some ry) :
    isBefore (befs ops.toList []) i j = true ∨ apart2 ops x y rx ry = true := by
  obtain ⟨hl, _, _⟩ := befs_spec ops.toList []
  have hjl : j < (befs ops.toList []).length := by rw [hl]; have := (List.getElem?_eq_some_iff.1 hy).1; simpa using this
  have h1 := freeOrder_at h.free j _ y ry (List.getElem?_eq_getElem hjl) hy hry
  have h2 := freeOne_at h1 i x rx (by rw [Nat.zero_add, List.getElem?_take, if_pos hij]; exact hx) (by rw [Nat.zero_add, List.getElem?_take, if_pos hij]; exact hrx)
  rw [Nat.zero_add] at h2
  refine h2.imp (fun h => ?_) id
  unfold isBefore
  rw [List.getD, List.getElem?_eq_getElem hjl]
  exact h

/-- closed under what is bound ahead -/
def Closed (ops : Array Oper) (D : Nat → Bool) : Prop := ∀ (j : Nat) o, D j = true → ops.toList[j]? = some o → ∀ e ∈ o.after.toList, Region.binds .any e = true → D e.on = true

theorem Closed.before {D : Nat → Bool} (h : Closed ops D) : ∀ (n i j : Nat) (o : Oper), j < n → ops.toList[j]? = some o → (∀ e ∈ o.after.toList, Region.binds .any e = true → D e.on = true) → isBefore (befs ops.toList []) i j = true → D i = true := by
  intro n
  induction n with
  | zero => intro i j o hl; omega
  | succ n ih =>
    intro i j o hl ho he hb
    obtain ⟨_, _, h3⟩ := befs_spec ops.toList []
    obtain ⟨e, h4, h5, h6⟩ := h3 j o i ho (by simpa using hb)
    have hd := he e h4 h5
    rcases h6 with rfl | ⟨h6, h7⟩
    · exact hd
    · simp at h6
      cases ho' : ops.toList[e.on]? with
      | none =>
        have := List.getElem?_eq_none_iff.1 ho'
        have := (List.getElem?_eq_some_iff.1 ho).1
        omega
      | some o' => exact ih i e.on o' (by omega) ho' (h e.on o' hd ho') h7

theorem apartN_not {a b : List Nm} (h : apartN a b = true) {k : Nm} (ha : k ∈ a) : k ∉ b := by
  have := List.all_eq_true.1 h k ha
  simpa using this

theorem slotsApart_spec {x y : Oper} (h : slotsApart ops x y = true) : (∀ d, x.dst = some d → d ∉ y.looksAt ops) ∧ (∀ d, x.dst = some d → y.dst ≠ some d) ∧ (∀ d, y.dst = some d → d ∉ x.looksAt ops) :=
  Oper.apart_spec (by unfold slotsApart at h; unfold Oper.apart; cases hx : x.dst <;> cases hy : y.dst <;> simp only [hx, hy] at h ⊢ <;> exact h)

/-- the world behind the ones that are listed -/
structure DInv (C : Cfg) (ops : Array Oper) (st : St) (recs : List Rec) (G0 : Gh) (w0 : World) (a0 : Act) (D : Nat → Bool) (G : Gh) (w : World) (a : Act) : Prop where
  step : AnyStep G0 w0 G w
  glob : GlobR C G
  defers : a.defers = a0.defers
  slots : SR G (stD ops.toList recs (s0 st) D ops.size).slots a
  heap : HR G w (stD ops.toList recs (s0 st) D ops.size).H
  fresh : ∀ p, G.dom (.loc p) → ∃ n q, p = n :: q ∧ (n < st.tick ∨ ∃ j, D j = true ∧ j < ops.size ∧ n = st.tick + j)
  closed : Closed ops D
  calm : ∀ j r v u l, D j = true → recs[j]? = some r → r.res ≠ .panic v u l

/-- one more -/
def also (D : Nat → Bool) (i : Nat) : Nat → Bool := fun j => if j = i then true else D j

theorem keysE {v : TV} {u : Heap} : (RRes.val v u).keys = u.map (·.1) := rfl

section step
variable {G0 G : Gh} {w0 w : World} {a0 a : Act} {D : Nat → Bool} {i : Nat} {o : Oper} {r : Rec}

/-- those that are listed, and the ones ahead in the text, are the same where one looks -/
theorem DInv.slotEq (hd : Drawn C ev f ops st recs) (hi : DInv C ops st recs G0 w0 a0 D G w a) (hni : D i = false) (ho : ops.toList[i]? = some o) (hr : recs[i]? = some r) (he : ∀ e ∈ o.after.toList, Region.binds .any e = true → D e.on = true)
    {t : Nat} (ht : t ∈ o.looksAt ops ∨ o.dst = some t) (hw : ∀ j, i ≤ j → j < ops.size → D j = true → True) :
    ∀ j x, j < ops.size → ops.toList[j]? = some x → x.dst = some t → (D j = true → j < i) ∧ (j < i → (t ∈ o.looksAt ops → D j = true)) := by
  intro j x hj hx hxt
  obtain ⟨rx, hrx⟩ : ∃ rx, recs[j]? = some rx := ⟨_, List.getElem?_eq_getElem (by rw [hd.len]; exact hj)⟩
  refine ⟨fun hD => ?_, fun hlt hlk => ?_⟩
  · rcases Nat.lt_trichotomy j i with h | h | h
    · exact h
    · subst h; rw [hni] at hD; cases hD
    · rcases hd.free_at h ho hx hr hrx with hb | hb
      · have := hi.closed.before (j + 1) i j x (by omega) hx (hi.closed j x hD hx) hb
        rw [hni] at this; cases this
      · simp only [apart2, Bool.and_eq_true] at hb
        obtain ⟨⟨⟨hs, _⟩, _⟩, _⟩ := hb
        obtain ⟨s1, s2, s3⟩ := slotsApart_spec hs
        rcases ht with ht | ht
        · exact absurd ht (s3 t hxt)
        · exact absurd hxt (s2 t ht)
  · rcases hd.free_at hlt hx ho hrx hr with hb | hb
    · exact hi.closed.before (i + 1) j i o (by omega) ho he hb
    · simp only [apart2, Bool.and_eq_true] at hb
      obtain ⟨⟨⟨hs, _⟩, _⟩, _⟩ := hb
      obtain ⟨s1, s2, s3⟩ := slotsApart_spec hs
      exact absurd hlk (s1 t hxt)

theorem DInv.nameEq (hd : Drawn C ev f ops st recs) (hi : DInv C ops st recs G0 w0 a0 D G w a) (hni : D i = false) (ho : ops.toList[i]? = some o) (hr : recs[i]? = some r) (he : ∀ e ∈ o.after.toList, Region.binds .any e = true → D e.on = true)
    {k : Nm} (hk : k ∈ r.fp ∨ k ∈ r.res.keys) :
    ∀ j x rx, j < ops.size → ops.toList[j]? = some x → recs[j]? = some rx → k ∈ rx.res.keys → (D j = true → j < i) ∧ (j < i → D j = true) := by
  intro j x rx hj hx hrx hkx
  refine ⟨fun hD => ?_, fun hlt => ?_⟩
  · rcases Nat.lt_trichotomy j i with h | h | h
    · exact h
    · subst h; rw [hni] at hD; cases hD
    · rcases hd.free_at h ho hx hr hrx with hb | hb
      · have := hi.closed.before (j + 1) i j x (by omega) hx (hi.closed j x hD hx) hb
        rw [hni] at this; cases this
      · simp only [apart2, Bool.and_eq_true] at hb
        obtain ⟨⟨⟨_, h1⟩, h2⟩, h3⟩ := hb
        rcases hk with hk | hk
        · exact absurd hk (apartN_not h3 hkx)
        · exact absurd hkx (apartN_not h2 hk)
  · rcases hd.free_at hlt hx ho hrx hr with hb | hb
    · exact hi.closed.before (i + 1) j i o (by omega) ho he hb
    · simp only [apart2, Bool.and_eq_true] at hb
      obtain ⟨⟨⟨_, h1⟩, h2⟩, h3⟩ := hb
      rcases hk with hk | hk
      · exact absurd hk (apartN_not h1 hkx)
      · exact absurd hk (apartN_not h2 hkx)

/-- the state ahead of it in the text, as one that leaves out the later ones -/
theorem stD_upto {l : List Oper} {s : DSt} {n : Nat} (hin : i ≤ n) : stD l recs s (fun _ => true) i = stD l recs s (fun j => decide (j < i)) n := by
  rw [stD_none (D := fun j => decide (j < i)) hin (fun j h1 h2 => by simp; omega)]
  exact stD_congr fun j hj => by simp [hj]

theorem DInv.look (hd : Drawn C ev f ops st recs) (hi : DInv C ops st recs G0 w0 a0 D G w a) (hni : D i = false) (ho : ops.toList[i]? = some o) (hr : recs[i]? = some r) (he : ∀ e ∈ o.after.toList, Region.binds .any e = true → D e.on = true) :
    maskS (o.looksAt ops) 0 (stD ops.toList recs (s0 st) (fun _ => true) i).slots = maskS (o.looksAt ops) 0 (stD ops.toList recs (s0 st) D ops.size).slots := by
  have hin : i ≤ ops.size := by have := (List.getElem?_eq_some_iff.1 ho).1; simp at this; omega
  refine maskS_congr (by rw [stD_length, stD_length]) fun t ht => ?_
  rw [stD_upto hin]
  refine stD_slot fun j x hj hx hxt => ?_
  obtain ⟨h1, h2⟩ := hi.slotEq hd hni ho hr he (.inl ht) (fun _ _ _ _ => trivial) j x hj hx hxt
  by_cases hlt : j < i
  · simp [hlt, h2 hlt ht]
  · have : D j = false := by
      cases hD : D j with
      | false => rfl
      | true => exact absurd (h1 hD) hlt
    simp [hlt, this]

theorem DInv.sees (hd : Drawn C ev f ops st recs) (hi : DInv C ops st recs G0 w0 a0 D G w a) (hni : D i = false) (ho : ops.toList[i]? = some o) (hr : recs[i]? = some r) (he : ∀ e ∈ o.after.toList, Region.binds .any e = true → D e.on = true)
    {k : Nm} (hk : k ∈ r.fp) : (stD ops.toList recs (s0 st) (fun _ => true) i).H.get k = (stD ops.toList recs (s0 st) D ops.size).H.get k := by
  have hin : i ≤ ops.size := by have := (List.getElem?_eq_some_iff.1 ho).1; simp at this; omega
  rw [stD_upto hin]
  refine stD_get fun j rx hj hrx hkx => ?_
  obtain ⟨x, hx⟩ : ∃ x, ops.toList[j]? = some x := ⟨_, List.getElem?_eq_getElem (by simpa using hj)⟩
  obtain ⟨h1, h2⟩ := hi.nameEq hd hni ho hr he (.inl hk) j x rx hj hx hrx hkx
  by_cases hlt : j < i
  · simp [hlt, h2 hlt]
  · have : D j = false := by
      cases hD : D j with
      | false => rfl
      | true => exact absurd (h1 hD) hlt
    simp [hlt, this]

/-- of it and the later ones, it alone writes its slot -/
theorem DInv.also_slot (hd : Drawn C ev f ops st recs) (hi : DInv C ops st recs G0 w0 a0 D G w a) (hni : D i = false) (ho : ops.toList[i]? = some o) (hr : recs[i]? = some r) (he : ∀ e ∈ o.after.toList, Region.binds .any e = true → D e.on = true)
    (t : Nat) : (stD ops.toList recs (s0 st) (also D i) ops.size).slots[t]? = ((stD ops.toList recs (s0 st) D ops.size).after o r.res).slots[t]? := by
  have hin : i < ops.size := by have := (List.getElem?_eq_some_iff.1 ho).1; simpa using this
  by_cases hdst : o.dst = some t
  · have key : ∀ j x, j < ops.size → ops.toList[j]? = some x → x.dst = some t → D j = true → j < i := fun j x hj hx hxt => (hi.slotEq hd hni ho hr he (.inr hdst) (fun _ _ _ _ => trivial) j x hj hx hxt).1
    have e1 : (stD ops.toList recs (s0 st) (also D i) ops.size).slots[t]? = (stD ops.toList recs (s0 st) (fun j => decide (j < i + 1) && also D i j) ops.size).slots[t]? := by
      refine stD_slot fun j x hj hx hxt => ?_
      by_cases hlt : j < i + 1
      · simp [hlt]
      · have hD : D j = false := by
          cases hD : D j with
          | false => rfl
          | true => exact absurd (key j x hj hx hxt hD) (by omega)
        have : j ≠ i := by omega
        simp [hlt, also, this, hD]
    have e2 : (stD ops.toList recs (s0 st) D ops.size).slots[t]? = (stD ops.toList recs (s0 st) (fun j => decide (j < i) && D j) ops.size).slots[t]? := by
      refine stD_slot fun j x hj hx hxt => ?_
      by_cases hlt : j < i
      · simp [hlt]
      · have hD : D j = false := by
          cases hD : D j with
          | false => rfl
          | true => exact absurd (key j x hj hx hxt hD) (by omega)
        simp [hlt, hD]
    have e3 : stD ops.toList recs (s0 st) (fun j => decide (j < i + 1) && also D i j) ops.size = stD ops.toList recs (s0 st) (fun j => decide (j < i + 1) && also D i j) (i + 1) :=
      stD_none (by omega) fun j h1 h2 => by
        have : ¬ j < i + 1 := by omega
        simp [this]
    have e4 : stD ops.toList recs (s0 st) (fun j => decide (j < i) && D j) ops.size = stD ops.toList recs (s0 st) (fun j => decide (j < i) && D j) i :=
      stD_none (by omega) fun j h1 h2 => by
        have : ¬ j < i := by omega
        simp [this]
    have e5 : stD ops.toList recs (s0 st) (fun j => decide (j < i + 1) && also D i j) i = stD ops.toList recs (s0 st) (fun j => decide (j < i) && D j) i :=
      stD_congr fun j hj => by
        have h1 : j < i + 1 := by omega
        have h2 : j ≠ i := by omega
        simp [h1, hj, also, h2]
    rw [e1, e3]
    rw [after_slot_congr (e2.trans (by rw [e4]))]
    simp only [stD, ho, hr]
    rw [e5]
    simp [also]
  · rw [after_slot hdst]
    refine stD_slot fun j x hj hx hxt => ?_
    have : j ≠ i := fun e => by
      subst e
      rw [ho] at hx
      simp at hx
      subst hx
      exact hdst hxt
    simp [also, this]

theorem DInv.also_get (hd : Drawn C ev f ops st recs) (hi : DInv C ops st recs G0 w0 a0 D G w a) (hni : D i = false) (ho : ops.toList[i]? = some o) (hr : recs[i]? = some r) (he : ∀ e ∈ o.after.toList, Region.binds .any e = true → D e.on = true)
    (k : Nm) : (stD ops.toList recs (s0 st) (also D i) ops.size).H.get k = ((stD ops.toList recs (s0 st) D ops.size).after o r.res).H.get k := by
  have hin : i < ops.size := by have := (List.getElem?_eq_some_iff.1 ho).1; simpa using this
  by_cases hk : k ∈ r.res.keys
  · have key : ∀ j rx, j < ops.size → recs[j]? = some rx → k ∈ rx.res.keys → D j = true → j < i := fun j rx hj hrx hkx => by
      obtain ⟨x, hx⟩ : ∃ x, ops.toList[j]? = some x := ⟨_, List.getElem?_eq_getElem (by simpa using hj)⟩
      exact (hi.nameEq hd hni ho hr he (.inr hk) j x rx hj hx hrx hkx).1
    have e1 : (stD ops.toList recs (s0 st) (also D i) ops.size).H.get k = (stD ops.toList recs (s0 st) (fun j => decide (j < i + 1) && also D i j) ops.size).H.get k := by
      refine stD_get fun j x hj hx hxt => ?_
      by_cases hlt : j < i + 1
      · simp [hlt]
      · have hD : D j = false := by
          cases hD : D j with
          | false => rfl
          | true => exact absurd (key j x hj hx hxt hD) (by omega)
        have : j ≠ i := by omega
        simp [hlt, also, this, hD]
    have e2 : (stD ops.toList recs (s0 st) D ops.size).H.get k = (stD ops.toList recs (s0 st) (fun j => decide (j < i) && D j) ops.size).H.get k := by
      refine stD_get fun j x hj hx hxt => ?_
      by_cases hlt : j < i
      · simp [hlt]
      · have hD : D j = false := by
          cases hD : D j with
          | false => rfl
          | true => exact absurd (key j x hj hx hxt hD) (by omega)
        simp [hlt, hD]
    have e3 : stD ops.toList recs (s0 st) (fun j => decide (j < i + 1) && also D i j) ops.size = stD ops.toList recs (s0 st) (fun j => decide (j < i + 1) && also D i j) (i + 1) :=
      stD_none (by omega) fun j h1 h2 => by
        have : ¬ j < i + 1 := by omega
        simp [this]
    have e4 : stD ops.toList recs (s0 st) (fun j => decide (j < i) && D j) ops.size = stD ops.toList recs (s0 st) (fun j => decide (j < i) && D j) i :=
      stD_none (by omega) fun j h1 h2 => by
        have : ¬ j < i := by omega
        simp [this]
    have e5 : stD ops.toList recs (s0 st) (fun j => decide (j < i + 1) && also D i j) i = stD ops.toList recs (s0 st) (fun j => decide (j < i) && D j) i :=
      stD_congr fun j hj => by
        have h1 : j < i + 1 := by omega
        have h2 : j ≠ i := by omega
        simp [h1, hj, also, h2]
    rw [e1, e3]
    rw [after_get_congr (e2.trans (by rw [e4]))]
    simp only [stD, ho, hr]
    rw [e5]
    simp [also]
  · rw [after_get hk]
    refine stD_get fun j rx hj hrx hkx => ?_
    have : j ≠ i := fun e => by
      subst e
      rw [hr] at hrx
      simp at hrx
      subst hrx
      exact hk hkx
    simp [also, this]

/-- it is done -/
theorem DInv.next (hd : Drawn C ev f ops st recs) (hi : DInv C ops st recs G0 w0 a0 D G w a) (hni : D i = false) (ho : ops.toList[i]? = some o) (hr : recs[i]? = some r) (he : ∀ e ∈ o.after.toList, Region.binds .any e = true → D e.on = true)
    (hcalm : ∀ v u l, r.res ≠ .panic v u l) {G' : Gh} {w' : World} {a' : Act} (hs : AnyStep G w G' w') (hde : a'.defers = a.defers) (hg : GlobR C G')
    (hsl : SR G' ((stD ops.toList recs (s0 st) D ops.size).after o r.res).slots a') (hh : HR G' w' ((stD ops.toList recs (s0 st) D ops.size).after o r.res).H)
    (hfr : ∀ p, G'.dom (.loc p) → G.dom (.loc p) ∨ ∃ q, p = (st.tick + i) :: q) : DInv C ops st recs G0 w0 a0 (also D i) G' w' a' := by
  have hin : i < ops.size := by have := (List.getElem?_eq_some_iff.1 ho).1; simpa using this
  refine ⟨hi.step.comp hs, hg, hde.trans hi.defers, ?_, fun k ob hk => hh k ob (by rw [← hi.also_get hd hni ho hr he]; exact hk), fun p hp => ?_, fun j x hD hx e he' hb => ?_, fun j rx v u l hD hrx => ?_⟩
  · have : (stD ops.toList recs (s0 st) (also D i) ops.size).slots = ((stD ops.toList recs (s0 st) D ops.size).after o r.res).slots := List.ext_getElem? (hi.also_slot hd hni ho hr he)
    rw [this]
    exact hsl
  · rcases hfr p hp with h | ⟨q, e⟩
    · obtain ⟨n, q, e, h1⟩ := hi.fresh p h
      refine ⟨n, q, e, h1.imp id fun ⟨j, h2, h3, h4⟩ => ⟨j, ?_, h3, h4⟩⟩
      simp only [also]; split <;> simp_all
    · exact ⟨_, q, e, .inr ⟨i, by simp [also], hin, rfl⟩⟩
  · by_cases e1 : e.on = i
    · simp [also, e1]
    · simp only [also, if_neg e1]
      by_cases e2 : j = i
      · subst e2
        rw [ho] at hx; simp at hx; subst hx
        exact he e he' hb
      · simp only [also, if_neg e2] at hD
        exact hi.closed j x hD hx e he' hb
  · by_cases e2 : j = i
    · subst e2
      rw [hr] at hrx; simp at hrx; subst hrx
      exact hcalm v u l
    · simp only [also, if_neg e2] at hD
      exact hi.calm j rx v u l hD hrx
end step

theorem opD_ok {bs : List Nat} {t0 i : Nat} {o : Oper} {s : DSt} {pan : Option Nat} {r : Rec} (h : opD C ev f ops bs t0 i o s pan = some r) :
    (∃ j, pan = some j ∧ isBefore bs j i = true ∧ r.res = .skipped) ∨
    (wantedT ops (maskS (o.looksAt ops) 0 s.slots) o = some false ∧ r.res = .unwanted) ∨
    (wantedT ops (maskS (o.looksAt ops) 0 s.slots) o = some true ∧ ∃ v u, execT C ev f (pickH s.H r.fp) (maskS (o.looksAt ops) 0 s.slots) (t0 + i) o = some (.val v u) ∧ r.res = .val v u ∧ (pan.isSome = true → u = [])) ∨
    (wantedT ops (maskS (o.looksAt ops) 0 s.slots) o = some true ∧ ∃ v u l, execT C ev f (pickH s.H r.fp) (maskS (o.looksAt ops) 0 s.slots) (t0 + i) o = some (.panic v u l) ∧ r.res = .panic v u l ∧ pan = none) := by
  unfold opD at h
  split at h
  · rename_i hp
    simp at h; subst h
    split at hp
    · rename_i j; exact .inl ⟨j, rfl, hp, rfl⟩
    · simp at hp
  · split at h
    · simp at h
    · rename_i hw
      simp at h; subst h
      exact .inr (.inl ⟨hw, rfl⟩)
    · rename_i hw
      split at h
      · simp at h
      · rename_i fp hfp
        split at h
        · simp at h
        · rename_i v u hx
          split at h
          · simp at h
          · rename_i hc
            simp at h; subst h
            refine .inr (.inr (.inl ⟨hw, v, u, hx, rfl, fun hp => ?_⟩))
            simp [hp] at hc
            exact hc
        · rename_i v u l hx
          split at h
          · simp at h
          · simp at h; subst h
            exact .inr (.inr (.inr ⟨hw, v, u, l, hx, rfl, rfl⟩))

theorem exec_noselect {H : Heap} {slots : List TV} {t : Nat} {o : Oper} {r : ORes} (h : execT C ev f H slots t o = some r) : ∀ cs b, o.op ≠ .select cs b := by
  intro cs b e
  unfold execT at h
  rw [e] at h
  simp [evalOp, e] at h

/-- of the whole: what it comes to -/
theorem drawn_ok (hev : CallOk C ev) (hd : Drawn C ev f ops st recs) {G0 : Gh} {w0 : World} {a0 : Act} (hst : StR C G0 w0 st a0) {e : AExit} {st' : St} {Q : Exit → Act → World → Prop}
    (hQ : ∀ ex a' w', Good C G0 w0 a0 e st' ex a' w' → Q ex a' w')
    (hend : panicAt 0 recs = none → e = .normal ∧ st' = { slots := (stD ops.toList recs (s0 st) (fun _ => true) ops.size).slots, H := (stD ops.toList recs (s0 st) (fun _ => true) ops.size).H, tick := st.tick + ops.size })
    (hpan : ∀ j v u l, panicAt 0 recs = some (j, v, u, l) → e = .panic v ∧ st' = { slots := st.slots, H := ((stD ops.toList recs (s0 st) (fun _ => true) ops.size).H.hide (l ++ lostAt ((befs ops.toList []).getD j 0) 0 (recs.take j))).puts u, tick := st.tick + ops.size }) :
    ∀ (fuel : Nat) (listed : Array Bool) (G : Gh) (w : World) (a : Act), listed.size = ops.size → listed.toList.countP (· == false) ≤ fuel → DInv C ops st recs G0 w0 a0 (fun j => listed.getD j false) G w a → wpAny C.P .any ops Q fuel listed a w := by
  have hat : ∀ (i : Nat) (o : Oper), ops[i]? = some o ↔ ops.toList[i]? = some o := fun i o => by simp
  -- nothing is ready: all is listed
  have hall : ∀ (listed : Array Bool), listed.size = ops.size → Region.ready .any ops listed = [] → ∀ j, j < ops.size → listed.getD j false = true := by
    intro listed hsz hr j
    induction j using Nat.strongRecOn with
    | _ j ih =>
      intro hj
      cases hD : listed.getD j false with
      | true => rfl
      | false =>
        have : j ∈ Region.ready .any ops listed := by
          rw [mem_ready]
          refine ⟨?_, ops[j], Array.getElem?_eq_getElem hj, fun e he hb => ?_⟩
          · rw [Array.getD_eq_getD_getElem?] at hD ⊢
            rw [Array.getElem?_eq_getElem (by omega)] at hD ⊢
            exact hD
          · have := backOk_at hd.back j ops[j] (by simp [hj]) e (by simpa using he) hb
            exact ih e.on (by omega) (by omega)
        rw [hr] at this
        simp at this
  have hdone : ∀ (listed : Array Bool) (G : Gh) (w : World) (a : Act), listed.size = ops.size → DInv C ops st recs G0 w0 a0 (fun j => listed.getD j false) G w a → Region.ready .any ops listed = [] → Q .normal a w := by
    intro listed G w a hsz hi hr
    have hl := hall listed hsz hr
    cases hp : panicAt 0 recs with
    | some q =>
      obtain ⟨j, v, u, l⟩ := q
      obtain ⟨k, r, h1, h2, h3⟩ := panicAt_some hp
      have hk : k < ops.size := by rw [← hd.len]; exact (List.getElem?_eq_some_iff.1 h2).1
      exact absurd h3 (hi.calm k r v u l (hl k hk) h2)
    | none =>
      obtain ⟨rfl, rfl⟩ := hend hp
      have hsame : stD ops.toList recs (s0 st) (fun j => listed.getD j false) ops.size = stD ops.toList recs (s0 st) (fun _ => true) ops.size := stD_congr fun j hj => hl j hj
      refine hQ _ _ _ ⟨G, hi.step, hi.defers, rfl, hi.step.wf, hi.glob, ?_, ?_, fun p hp => ?_⟩
      · have := hi.slots; rw [hsame] at this; exact this
      · have := hi.heap; rw [hsame] at this; exact this
      · obtain ⟨n, q, e, h⟩ := hi.fresh p hp
        refine ⟨n, q, e, ?_⟩
        rcases h with h | ⟨j, _, h, rfl⟩
        · simp only; omega
        · simp only; omega
  intro fuel
  induction fuel with
  | zero =>
    intro listed G w a hsz hc hi
    have hcz : listed.toList.countP (· == false) = 0 := by omega
    have hl : ∀ j, j < ops.size → listed.getD j true = true := by
      intro j hj
      rw [List.countP_eq_zero] at hcz
      have := hcz listed[j] (by simp)
      rw [Array.getD_eq_getD_getElem?, Array.getElem?_eq_getElem (by omega)]
      simpa using this
    have hr : Region.ready .any ops listed = [] := by
      refine List.eq_nil_iff_forall_not_mem.2 fun j hj => ?_
      rw [mem_ready] at hj
      obtain ⟨h1, o, h2, _⟩ := hj
      have := hl j (Array.getElem?_eq_some_iff.1 h2).1
      rw [this] at h1; cases h1
    exact ⟨hr, hdone listed G w a hsz hi hr⟩
  | succ fuel ih =>
    intro listed G w a hsz hc hi
    refine ⟨hdone listed G w a hsz hi, fun i hmem => ?_⟩
    rw [mem_ready] at hmem
    obtain ⟨hni', o, ho', hedges⟩ := hmem
    have hin : i < ops.size := (Array.getElem?_eq_some_iff.1 ho').1
    have hni : listed.getD i false = false := by
      rw [Array.getD_eq_getD_getElem?] at hni' ⊢
      rw [Array.getElem?_eq_getElem (by omega)] at hni' ⊢
      exact hni'
    have ho := (hat i o).1 ho'
    have he : ∀ e ∈ o.after.toList, Region.binds .any e = true → listed.getD e.on false = true := fun e h1 h2 => hedges e (by simpa using h1) h2
    obtain ⟨r, hr, hop⟩ := hd.at' i o ho
    have hlook := hi.look hd hni ho hr he
    have hmask := mask_SR hi.slots (o.looksAt ops)
    rw [← hlook] at hmask
    have hheap : HR G w (pickH (stD ops.toList recs (s0 st) (fun _ => true) i).H r.fp) := by
      intro k ob hk
      obtain ⟨h1, h2⟩ := pickH_get hk
      rw [hi.sees hd hni ho hr he h1] at h2
      exact hi.heap k ob h2
    have hfresh : ∀ p, ¬ G.dom (.loc ((st.tick + i) :: p)) := by
      intro p hdm
      obtain ⟨n, q, e1, h⟩ := hi.fresh _ hdm
      simp at e1
      rcases h with h | ⟨j, h1, h2, h3⟩
      · omega
      · have : j = i := by omega
        subst this
        rw [hni] at h1; cases h1
    -- one step on
    have hcnt : (listed.setIfInBounds i true).toList.countP (· == false) ≤ fuel := by
      rw [Array.toList_setIfInBounds, List.countP_set (by simp; omega)]
      have h1 : (listed.toList[i]'(by simp; omega) == false) = true := by
        rw [Array.getD_eq_getD_getElem?, Array.getElem?_eq_getElem (by omega)] at hni
        simpa using hni
      rw [if_pos h1]
      have h2 : (if ((true : Bool) == false) = true then 1 else 0) = 0 := rfl
      rw [h2]
      omega
    have halso : (fun j => (listed.setIfInBounds i true).getD j false) = also (fun j => listed.getD j false) i := by
      funext j
      simp only [also]
      by_cases e1 : j = i
      · subst e1
        rw [Array.getD_eq_getD_getElem?, Array.getElem?_setIfInBounds_self_of_lt (by omega)]
        simp
      · rw [if_neg e1, getD_set_ne false (fun h => e1 h.symm)]
    have hnext : ∀ {G' : Gh} {w' : World} {a' : Act}, DInv C ops st recs G0 w0 a0 (also (fun j => listed.getD j false) i) G' w' a' → wpAny C.P .any ops Q fuel (listed.setIfInBounds i true) a' w' := by
      intro G' w' a' hi'
      rw [← halso] at hi'
      exact ih _ G' w' a' (by simpa using hsz) hcnt hi'
    unfold wpOp
    rw [ho']
    simp only
    rcases opD_ok hop with ⟨j, hp, hb, hres⟩ | ⟨hw, hres⟩ | ⟨hw, v, u, hx, hres, hq⟩ | ⟨hw, v, u, l, hx, hres, hp⟩
    · -- behind a panic: never
      obtain ⟨_, rj, vj, uj, lj, h1, h2⟩ := panN_some hp
      have hD := hi.closed.before (i + 1) j i o (by omega) ho he hb
      exact absurd h2 (hi.calm j rj vj uj lj hD h1)
    · have := wantedT_ok hw hmask
      rw [mask_wanted] at this
      rw [this]
      refine hnext (hi.next hd hni ho hr he (by rw [hres]; simp) (Step.refl hi.step.wf _ _) (put_defers _ _ _) hi.glob ?_ ?_ (fun p h => .inl h))
      · rw [hres]; exact hi.slots.put o.dst (undef_VR G)
      · rw [hres]; exact hi.heap
    · have := wantedT_ok hw hmask
      rw [mask_wanted] at this
      rw [this]
      refine .inl ?_
      have hex := execT_ok hev hx hi.step.wf hi.glob hmask hheap hfresh
      unfold ExecOk at hex
      rw [mask_exec (exec_noselect hx)] at hex
      refine ExecOk.wp (R := ResOk (st.tick + i) G w (.val v u)) hex ResOk.no (fun x w' hR => ?_) (fun ch w' hR => ?_)
      · obtain ⟨x', G', e1, hs, hu, hv⟩ := hR
        simp at e1; subst e1
        refine hnext (hi.next hd hni ho hr he (by rw [hres]; simp) hs.any (put_defers _ _ _) (hi.glob.mono hs.le) ?_ ?_ (fun p h => ?_))
        · rw [hres]; exact (hi.slots.mono hs.le).put o.dst hv
        · rw [hres]; exact HR.puts hs hi.step.wf hi.heap hu (fun k _ hk => hk)
        · rcases hs.news _ h with h | ⟨q, e2⟩
          · exact .inl h
          · simp at e2; exact .inr ⟨q, e2⟩
      · obtain ⟨x', G', e1, _⟩ := hR
        simp at e1
    · have := wantedT_ok hw hmask
      rw [mask_wanted] at this
      rw [this]
      refine .inl ?_
      have hex := execT_ok hev hx hi.step.wf hi.glob hmask hheap hfresh
      unfold ExecOk at hex
      rw [mask_exec (exec_noselect hx)] at hex
      refine ExecOk.wp (R := ResOk (st.tick + i) G w (.panic v u l)) hex ResOk.no (fun x w' hR => ?_) (fun ch w' hR => ?_)
      · obtain ⟨x', G', e1, _⟩ := hR
        simp at e1
      · obtain ⟨x', G', e1, hs, hu, hv⟩ := hR
        simp at e1; subst e1
        -- it is the one that panics
        have hpa : panicAt 0 recs = some (i, v, u, l) := by
          cases hpa : panicAt 0 recs with
          | none => exact absurd hres (panicAt_none hpa r (List.mem_of_getElem? hr) v u l)
          | some q =>
            obtain ⟨j, v', u', l'⟩ := q
            obtain ⟨k, rk, h1, h2, h3⟩ := panicAt_some hpa
            rcases Nat.lt_trichotomy k i with h | h | h
            · have := panN_isSome h h2 h3
              rw [hp] at this; simp at this
            · subst h
              rw [hr] at h2; simp at h2; subst h2
              rw [hres] at h3
              simp at h3
              obtain ⟨rfl, rfl, rfl⟩ := h3
              simp at h1; subst h1; rfl
            · obtain ⟨ok, hok⟩ : ∃ ok, ops.toList[k]? = some ok := ⟨_, List.getElem?_eq_getElem (by have := (List.getElem?_eq_some_iff.1 h2).1; rw [hd.len] at this; simpa using this)⟩
              obtain ⟨rk', hrk, hopk⟩ := hd.at' k ok hok
              rw [h2] at hrk; simp at hrk; subst hrk
              have hsome := panN_isSome h hr hres
              rcases opD_ok hopk with ⟨_, _, _, q⟩ | ⟨_, q⟩ | ⟨_, _, _, _, q, _⟩ | ⟨_, _, _, _, _, _, q⟩
              · rw [h3] at q; simp at q
              · rw [h3] at q; simp at q
              · rw [h3] at q; simp at q
              · rw [q] at hsome; simp at hsome
        obtain ⟨rfl, rfl⟩ := hpan i v u l hpa
        refine hQ _ _ _ ⟨G', hi.step.comp hs.any, hi.defers, x', rfl, hv, ?_⟩
        -- what is still known
        intro k ob hk
        rcases Heap.get_puts _ u k ob hk with h1 | ⟨h1, hn⟩
        · exact hu k ob h1
        · rw [Heap.get_hide] at h1
          split at h1
          · simp at h1
          rename_i hl
          simp only [List.mem_append, not_or] at hl
          have hsame : (stD ops.toList recs (s0 st) (fun _ => true) ops.size).H.get k = (stD ops.toList recs (s0 st) (fun j => listed.getD j false) ops.size).H.get k := by
            refine stD_get fun j rj hj hrj hkj => ?_
            have hji : j ≠ i := fun e1 => by
              subst e1
              rw [hr] at hrj; simp at hrj; subst hrj
              rw [hres] at hkj
              simp only [RRes.keys, List.mem_append] at hkj
              exact hkj.elim hn hl.1
            rcases Nat.lt_or_gt_of_ne hji with h | h
            · have := lostAt_mem hl.2 j rj (by rw [List.getElem?_take, if_pos h]; exact hrj) hkj
              rw [Nat.zero_add] at this
              exact (hi.closed.before (i + 1) j i o (by omega) ho he this).symm
            · exfalso
              obtain ⟨oj, hoj⟩ : ∃ oj, ops.toList[j]? = some oj := ⟨_, List.getElem?_eq_getElem (by simpa using hj)⟩
              obtain ⟨rj', hrj', hopj⟩ := hd.at' j oj hoj
              rw [hrj] at hrj'; simp at hrj'; subst hrj'
              have hsome := panN_isSome h hr hres
              rcases opD_ok hopj with ⟨_, _, _, q⟩ | ⟨_, q⟩ | ⟨_, _, _, _, q, q2⟩ | ⟨_, _, _, _, _, _, q⟩
              · rw [q] at hkj; simp [RRes.keys] at hkj
              · rw [q] at hkj; simp [RRes.keys] at hkj
              · rw [q, q2 hsome] at hkj; simp [RRes.keys] at hkj
              · rw [q] at hsome; simp at hsome
          rw [hsame] at h1
          obtain ⟨d, hob⟩ := hi.heap k ob h1
          exact ⟨hs.le.dom _ d, hs.keeps hi.step.wf d (fun hx => by rcases List.mem_append.1 hx with hx | hx; exact hn hx; exact hl.1 hx) hob⟩

/-- a region that draws its order is right -/
theorem regionD_ok (hm : C.P.prog.follows .mixedOrders = true) (hev : CallOk C ev) {e : AExit} {st' : St} (h : regionD C ev f ops st = some (e, st')) {G : Gh} {w : World} {a : Act} (hst : StR C G w st a) {id : Nat}
    {Q : Exit → Act → World → Prop} (hQ : ∀ ex a' w', Good C G w a e st' ex a' w' → Q ex a' w') : (Code.region id ops true).wp C.P Q a w := by
  unfold regionD at h
  simp only at h
  split at h
  · simp at h
  rename_i recs hrecs
  split at h
  case isFalse => simp at h
  rename_i hfree
  obtain ⟨h1, h2⟩ := opsD_at (l := ops.toList) (recs := recs) (s0 := s0 st) (D := fun _ => true) (fun _ => rfl) (i := 0) hrecs (by simp) (by simp)
  have hd : Drawn C ev f ops st recs := ⟨by simpa using h1, fun j o ho => by have := h2 j o ho; simpa using this, hfree.1, hfree.2⟩
  have hfold : foldD ops.toList recs { slots := st.slots, H := st.H } = stD ops.toList recs (s0 st) (fun _ => true) ops.size := by
    have := foldD_stD (l := ops.toList) (recs := recs) (s0 := s0 st) (D := fun _ => true) (fun _ => rfl) (os := ops.toList) (rs := recs) (i := 0) h1.symm (by simp) (by simp)
    simpa [stD] using this
  refine wp_region_any hm ?_
  have hw' : World := { w with drawn := w.drawn + 1 }
  have hstep : AnyStep G w G { w with drawn := w.drawn + 1 } := ⟨.refl G, ⟨hst.wf.F, hst.wf.inj, hst.wf.lt⟩, fun _ _ _ => ⟨rfl, rfl⟩, fun _ _ _ => ⟨rfl, fun _ => rfl⟩, fun _ h => .inl h, fun _ h => .inl ⟨h, rfl⟩, Nat.le_refl _, rfl, rfl, rfl⟩
  have hst' : StR C G { w with drawn := w.drawn + 1 } st a := ⟨hstep.wf, hst.glob, hst.slots, hst.heap, hst.fresh⟩
  refine drawn_ok hev hd hst' (Q := Q) (e := e) (st' := st') (fun ex a' w' hg => hQ ex a' w' (Good.comp hstep rfl hg)) (fun hp => ?_) (fun j v u l hp => ?_) ops.size _ G _ a (by simp) ?_ ?_
  · simp only [hp, hfold] at h
    simp at h
    exact ⟨h.1.symm, h.2.symm⟩
  · simp only [hp, hfold] at h
    simp only [Option.some.injEq, Prod.mk.injEq] at h
    exact ⟨h.1.symm, h.2.symm⟩
  · simp [List.countP_replicate]
  · have hnone : stD ops.toList recs (s0 st) (fun j => (Array.replicate ops.size false).getD j false) ops.size = s0 st := by
      rw [stD_none (m := 0) (by omega) (fun j _ hj => by simp [Array.getD_eq_getD_getElem?, Array.getElem?_replicate, hj])]
      rfl
    refine ⟨Step.refl hst'.wf _ _, hst'.glob, rfl, by rw [hnone]; exact hst'.slots, by rw [hnone]; exact hst'.heap, fun p hp => ?_, fun j x hD => ?_, fun j r v u l hD => ?_⟩
    · obtain ⟨n, q, e1, h3⟩ := hst'.fresh p hp
      exact ⟨n, q, e1, .inl h3⟩
    · exfalso
      simp only [Array.getD_eq_getD_getElem?, Array.getElem?_replicate] at hD
      split at hD <;> simp at hD
    · exfalso
      simp only [Array.getD_eq_getD_getElem?, Array.getElem?_replicate] at hD
      split at hD <;> simp at hD
end
end Go.Abs

namespace Go.Abs
open Go

section
variable {C : Cfg} {ev : CallF} {f : FuncId}

theorem Good.normal_inv {G : Gh} {w : World} {a : Act} {st' : St} {ex : Exit} {a' : Act} {w' : World} (h : Good C G w a .normal st' ex a' w') : ex = .normal ∧ a'.defers = a.defers ∧ ∃ G', AnyStep G w G' w' ∧ StR C G' w' st' a' := by
  obtain ⟨G', h1, h2, h3, h4⟩ := h
  exact ⟨h3, h2, G', h1, h4⟩

theorem Good.not_normal {G : Gh} {w : World} {a : Act} {e : AExit} {st' : St} {ex : Exit} {a' : Act} {w' : World} (h : Good C G w a e st' ex a' w') (he : e ≠ .normal) : ex ≠ .normal := by
  obtain ⟨G', h1, h2, h3⟩ := h
  cases e with
  | normal => exact absurd rfl he
  | exit id => intro e; simp only at h3; rw [e] at h3; simp at h3
  | ret => intro e; simp only at h3; rw [e] at h3; simp at h3
  | panic v => intro e; obtain ⟨x, h4, _⟩ := h3; rw [e] at h4; simp at h4

theorem then_other {next : Act → World → Prop} {Q : Exit → Act → World → Prop} {ex : Exit} {a : Act} {w : World} (h : ex ≠ .normal) (hq : Q ex a w) : Exit.then next Q ex a w := by
  cases ex <;> first | exact hq | exact absurd rfl h

def BodyOk (C : Cfg) (c : Code) (body : St → Option (AExit × St)) : Prop := ∀ st e st', body st = some (e, st') → ∀ (G : Gh) (w : World) (a : Act), StR C G w st a → c.wp C.P (Good C G w a e st') a w

theorem iterC_ok {c : Code} {body : St → Option (AExit × St)} (h : BodyOk C c body) : ∀ (n : Nat) (st : St) (e : AExit) (st' : St), iterC body n st = some (e, st') → ∀ (G : Gh) (w : World) (a : Act), StR C G w st a →
    ∀ Q : Exit → Act → World → Prop, (∀ ex a' w', Good C G w a e st' ex a' w' → Q ex a' w') → Code.rounds C.P c Q n a w := by
  intro n
  induction n with
  | zero => intro st e st' hi; simp [iterC] at hi
  | succ n ih =>
    intro st e st' hi G w a hst Q hQ
    simp only [iterC] at hi
    rw [rounds_succ]
    split at hi
    · rename_i st1 hb
      refine wp_mono (h st _ _ hb G w a hst) fun ex a1 w1 hg => ?_
      obtain ⟨rfl, hd, G1, hs, hst1⟩ := hg.normal_inv
      exact ih st1 e st' hi G1 w1 a1 hst1 Q fun ex a' w' hg' => hQ _ _ _ (Good.comp hs hd hg')
    · rename_i hne
      have he : e ≠ .normal := fun e1 => by subst e1; exact hne st' hi
      refine wp_mono (h st _ _ hi G w a hst) fun ex a1 w1 hg => then_other (hg.not_normal he) (hQ _ _ _ hg)

theorem evalCode_ok (hm : C.P.prog.follows .mixedOrders = true) (hev : CallOk C ev) {fuel : Nat} : ∀ (c : Code), BodyOk C c (evalCode C ev f fuel c) := by
  intro c
  induction c with
  | skip =>
    intro st e st' h G w a hst
    simp [evalCode] at h
    obtain ⟨rfl, rfl⟩ := h
    exact wp_skip ⟨G, Step.refl hst.wf _ _, rfl, rfl, hst⟩
  | label l =>
    intro st e st' h G w a hst
    simp [evalCode] at h
    obtain ⟨rfl, rfl⟩ := h
    exact wp_label ⟨G, Step.refl hst.wf _ _, rfl, rfl, hst⟩
  | region id ops draw =>
    intro st e st' h G w a hst
    simp only [evalCode] at h
    cases draw with
    | true =>
      rw [if_pos rfl] at h
      exact regionD_ok hm hev h hst fun _ _ _ hg => hg
    | false =>
      simp only [Bool.false_eq_true, if_false] at h
      exact wp_region_list (opsS_ok hev _ _ _ _ h G w a hst _ fun _ _ _ hg => hg)
  | seq x y ihx ihy =>
    intro st e st' h G w a hst
    simp only [evalCode] at h
    refine wp_seq ?_
    split at h
    · rename_i st1 hb
      refine wp_mono (ihx st _ _ hb G w a hst) fun ex a1 w1 hg => ?_
      obtain ⟨rfl, hd, G1, hs, hst1⟩ := hg.normal_inv
      exact wp_mono (ihy st1 _ _ h G1 w1 a1 hst1) fun ex a' w' hg' => Good.comp hs hd hg'
    · rename_i hne
      have he : e ≠ .normal := fun e1 => by subst e1; exact hne st' h
      exact wp_mono (ihx st _ _ h G w a hst) fun ex a1 w1 hg => then_other (hg.not_normal he) hg
  | cond c x y ihx ihy =>
    intro st e st' h G w a hst
    simp only [evalCode] at h
    split at h
    · rename_i hc
      exact wp_cond_true (rho_VR hst.slots hst.glob hc).bool (ihx st _ _ h G w a hst)
    · rename_i hc
      exact wp_cond_false (rho_VR hst.slots hst.glob hc).bool (ihy st _ _ h G w a hst)
    · simp at h
  | block id x ihx =>
    intro st e st' h G w a hst
    simp only [evalCode] at h
    refine wp_block ?_
    split at h
    · rename_i id' st1 hb
      refine wp_mono (ihx st _ _ hb G w a hst) fun ex a1 w1 hg => ?_
      obtain ⟨G1, hs, hd, rfl, hst1⟩ := hg
      split at h
      · rename_i e1
        simp at h
        obtain ⟨rfl, rfl⟩ := h
        simp only [Exit.inBlock, e1, if_true]
        exact ⟨G1, hs, hd, rfl, hst1⟩
      · rename_i e1
        simp at h
        obtain ⟨rfl, rfl⟩ := h
        simp only [Exit.inBlock, e1, if_false]
        exact ⟨G1, hs, hd, rfl, hst1⟩
    · rename_i hne
      refine wp_mono (ihx st _ _ h G w a hst) fun ex a1 w1 hg => ?_
      cases e with
      | normal => obtain ⟨G1, hs, hd, rfl, hst1⟩ := hg; exact ⟨G1, hs, hd, rfl, hst1⟩
      | exit id' => exact absurd h (hne id' st')
      | ret => obtain ⟨G1, hs, hd, rfl, hst1⟩ := hg; exact ⟨G1, hs, hd, rfl, hst1⟩
      | panic v => obtain ⟨G1, hs, hd, x, rfl, hst1⟩ := hg; exact ⟨G1, hs, hd, x, rfl, hst1⟩
  | loop x ihx =>
    intro st e st' h G w a hst
    simp only [evalCode] at h
    exact wp_loop_rounds fuel (iterC_ok ihx fuel st e st' h G w a hst _ fun _ _ _ hg => hg)
  | exit id =>
    intro st e st' h G w a hst
    simp [evalCode] at h
    obtain ⟨rfl, rfl⟩ := h
    exact wp_exit ⟨G, Step.refl hst.wf _ _, rfl, rfl, hst⟩
  | ret =>
    intro st e st' h G w a hst
    simp [evalCode] at h
    obtain ⟨rfl, rfl⟩ := h
    exact wp_ret ⟨G, Step.refl hst.wf _ _, rfl, rfl, hst⟩
  | _ => intro st e st' h; simp [evalCode] at h
end
end Go.Abs

namespace Go.Abs
open Go

section
variable {C : Cfg} {ev : CallF} {f : FuncId} {G : Gh} {w : World}

theorem loadVar_run {H : Heap} {t : TypeId} {p v : TV} {x : Value} (hH : HR G w H) (hw : WF G w) (hp : VR G p x) (h : loadT C.P H t p = some v) : ∃ r, (do loadVar t (← asAddr x) : Sem Value).run C.P w = .ok r w ∧ VR G v r := by
  unfold loadT at h
  cases ht : tyOf C.P t <;> cases hc : cellsAt H p <;> simp [ht, hc] at h
  rename_i ti co
  obtain ⟨cs, off⟩ := co
  obtain ⟨b, o, vs, rfl, hv, hcell⟩ := cellsAt_run hH hw hp hc
  obtain ⟨r, h1, h2⟩ := partT_load ht hv hcell h
  refine ⟨r, ?_, h2⟩
  have : (asAddr (.pointer (some ⟨b, o + off, none⟩))).run C.P w = .ok ⟨b, o + off, none⟩ w := rfl
  rw [run_do this]
  exact h1

def resOne (tmps : Array Value) : ResultVar → Sem Value
  | .tmp t => pure (tmps.getD t undef)
  | .cell x t => do loadVar t (← asAddr (tmps.getD x undef))

theorem results_eq (fn : Func) (tmps : Array Value) : results fn tmps = (do let vs ← fn.results.mapM (resOne tmps); pure (if h : vs.size = 1 then vs[0] else .tuple vs) : Sem Value) := by
  unfold results
  exact congrArg (fun g : ResultVar → Sem Value => (do let vs ← fn.results.mapM g; pure (if h : vs.size = 1 then vs[0] else .tuple vs) : Sem Value)) (funext fun x => by cases x <;> rfl)

theorem resultT_ok {st : St} {a : Act} (hst : StR C G w st a) : ∀ {rs : List ResultVar} {vs : List TV}, resultT C st rs = some vs →
    ∃ us : List Value, (rs.mapM (resOne a.tmps) : Sem (List Value)).run C.P w = .ok us w ∧ VRs G vs us := by
  intro rs
  induction rs with
  | nil => intro vs h; simp [resultT] at h; subst h; exact ⟨[], by simp, VRs.nil G⟩
  | cons r rs ih =>
    intro vs h
    cases r with
    | tmp t =>
      simp only [resultT] at h
      cases h1 : resultT C st rs <;> simp only [h1, reduceCtorEq] at h
      simp only [Option.some.injEq] at h
      subst h
      obtain ⟨us, h2, h3⟩ := ih h1
      refine ⟨a.tmps.getD t undef :: us, ?_, VRs.cons (hst.slots.getD t) h3⟩
      rw [List.mapM_cons]
      rw [run_do (a := a.tmps.getD t undef) (w' := w) rfl, run_do h2]
      rfl
    | cell x t =>
      simp only [resultT] at h
      cases h0 : loadT C.P st.H t (st.slots.getD x undefT) <;> cases h1 : resultT C st rs <;> simp only [h0, h1, reduceCtorEq] at h
      simp only [Option.some.injEq] at h
      subst h
      obtain ⟨us, h2, h3⟩ := ih h1
      obtain ⟨u, h4, h5⟩ := loadVar_run hst.heap hst.wf (hst.slots.getD x) h0
      refine ⟨u :: us, ?_, VRs.cons h5 h3⟩
      have h4' : (resOne a.tmps (.cell x t)).run C.P w = .ok u w := h4
      rw [List.mapM_cons]
      rw [run_do h4', run_do h2]
      rfl

theorem results_ok {st : St} {a : Act} {fn : Func} {vs : List TV} (hst : StR C G w st a) (h : resultT C st fn.results.toList = some vs) : ∃ v, (results fn a.tmps).run C.P w = .ok v w ∧ VR G (oneOr vs) v := by
  obtain ⟨us, h1, h2⟩ := resultT_ok hst h
  rw [results_eq, Array.mapM_eq_mapM_toList]
  have h3 : (List.toArray <$> (fn.results.toList.mapM (resOne a.tmps) : Sem (List Value))).run C.P w = .ok us.toArray w := by
    rw [map_eq_pure_bind]
    rw [run_do h1]; rfl
  refine ⟨_, run_do h3, ?_⟩
  cases vs with
  | nil =>
    have := h2.1; simp at this; subst this
    exact mkTup_VR h2
  | cons x r =>
    cases r with
    | nil =>
      obtain ⟨u, us', rfl, h5, h6⟩ := h2.uncons
      have := h6.1; simp at this; subst this
      exact h5
    | cons y r =>
      have hl := h2.1
      simp at hl
      rw [dif_neg (by simp; omega)]
      exact mkTup_VR h2

theorem objsAt_some {H : Heap} : ∀ {n i : Nat} {os : List AObj}, objsAt H i n = some os → os.length = n ∧ ∀ j o, os[j]? = some o → H.get (.arg (i + j)) = some o := by
  intro n
  induction n with
  | zero => intro i os h; simp [objsAt] at h; subst h; simp
  | succ n ih =>
    intro i os h
    simp only [objsAt] at h
    cases h1 : H.get (.arg i) <;> cases h2 : objsAt H (i + 1) n <;> simp [h1, h2] at h
    subst h
    obtain ⟨e1, e2⟩ := ih h2
    refine ⟨by simp [e1], fun j o hj => ?_⟩
    cases j with
    | zero => simp at hj; subst hj; exact h1
    | succ j =>
      have := e2 j o (by simpa using hj)
      rw [show i + 1 + j = i + (j + 1) from by omega] at this
      exact this

theorem objsAtP_some {H : Heap} : ∀ {n i : Nat} {j : Nat} {o : AObj}, (objsAtP H i n)[j]? = some (some o) → H.get (.arg (i + j)) = some o := by
  intro n
  induction n with
  | zero => intro i j o h; simp [objsAtP] at h
  | succ n ih =>
    intro i j o h
    simp only [objsAtP] at h
    cases j with
    | zero =>
      simp at h
      split at h
      · rename_i o' ho
        split at h
        · simp at h
        · simp at h; subst h; exact ho
      · simp at h
    | succ j =>
      have := ih (i := i + 1) (j := j) (o := o) (by simpa using h)
      rw [show i + 1 + j = i + (j + 1) from by omega] at this
      exact this

theorem newsAt_some {H : Heap} : ∀ {ks : List Nm} {h : Heap}, newsAt H ks = some h → ∀ k o, (k, o) ∈ h → k.isLoc = true ∧ H.get k = some o := by
  intro ks
  induction ks with
  | nil => intro h hh; simp [newsAt] at hh; subst hh; simp
  | cons x r ih =>
    intro h hh k o hm
    simp only [newsAt] at hh
    cases h1 : newsAt H r with
    | none => simp [h1] at hh
    | some h' =>
      simp only [h1] at hh
      split at hh
      · rename_i hl
        cases h2 : H.get x with
        | none => simp [h2] at hh
        | some o' =>
          simp [h2] at hh
          subst hh
          rcases List.mem_cons.1 hm with e | hm
          · simp at e; obtain ⟨rfl, rfl⟩ := e; exact ⟨hl, h2⟩
          · exact ih h1 k o hm
      · simp at hh; subst hh; exact ih h1 k o hm

theorem finish_ok {fn : Func} {n : Nat} {st : St} {a : Act} {r : FRes} {G0 : Gh} {w0 : World} (h : finish C fn n st = some r) (hs : AnyStep G0 w0 G w) (hst : StR C G w st a) :
    ∃ v, (results fn a.tmps).run C.P w = .ok v w ∧ retP G0 w0 n r (.returned v) w := by
  unfold finish at h
  split at h
  · simp at h
  rename_i vs hvs
  obtain ⟨v, hv, hr⟩ := results_ok hst hvs
  refine ⟨v, hv, ?_⟩
  dsimp only at h
  -- the result as data, where it is
  have main : ∀ (x : TV) (ks : List Nm), VR (G.frozen w st.H ks) x v → (match objsAt (st.H.puts (frozenU st.H ks)) 0 n with
      | none => none
      | some os => match reach (st.H.puts (frozenU st.H ks)) reachFuel [] (x.names ++ os.flatMap AObj.names) with
        | none => none
        | some R => (newsAt (st.H.puts (frozenU st.H ks)) R).map fun h => FRes.ret x os h) = some r → retP G0 w0 n r (.returned v) w := by
    intro x ks hx h
    have hst2 := frozen_step hst.wf hst.heap ks
    have hH1 : HR (G.frozen w st.H ks) w (st.H.puts (frozenU st.H ks)) := HR.puts hst2 hst.wf hst.heap (fun k o hm => frozen_OR hst.wf hst.heap hm) (fun k _ hk => frozenU_keys hk.1 hk.2)
    split at h
    · simp at h
    rename_i os hos
    split at h
    · simp at h
    rename_i R hR
    cases hnw : newsAt (st.H.puts (frozenU st.H ks)) R with
    | none => rw [hnw] at h; simp at h
    | some nw =>
      rw [hnw] at h
      simp only [Option.map_some, Option.some.injEq] at h
      subst h
      obtain ⟨e1, e2⟩ := objsAt_some hos
      refine ⟨v, G.frozen w st.H ks, rfl, hs.comp (hst2.mono (fun _ _ _ => trivial) (fun _ hk => hk.elim)), e1, fun i o ho => ?_, fun k o hm => ?_, hx⟩
      · have := e2 i o ho
        rw [Nat.zero_add] at this
        exact hH1 _ _ this
      · obtain ⟨e3, e4⟩ := newsAt_some hnw k o hm
        exact ⟨e3, hH1 _ _ e4⟩
  cases hfz : frz st.H frzFuel (oneOr vs) with
  | none =>
    rw [hfz] at h
    exact main (oneOr vs) [] (hr.mono (frozen_step hst.wf hst.heap []).le) h
  | some q =>
    obtain ⟨x, ks⟩ := q
    rw [hfz] at h
    exact main (.t x) ks (.t _ _ (frz_VT hst.wf hst.heap ks frzFuel _ _ _ _ hfz (fun _ hk => hk) hr)) h

/-- a function with a body is right -/
theorem runFn_ok (hm : C.P.prog.follows .mixedOrders = true) (hev : CallOk C ev) {fuel : Nat} {args : List TV} {objs : List AObj} {r : FRes} (h : runFn C ev fuel f args objs = some r) {vs : List Value} (hw : WF G w) (hg : GlobR C G) (had : ArgDom G objs.length)
    (hH : HR G w (argHeap 0 objs)) (hv : VRs G args vs) : CallsF C.P f vs.toArray w (retP G w objs.length r) := by
  unfold runFn at h
  split at h
  · simp at h
  rename_i fn hfn0
  have hfn := C.P.fnOk _ _ hfn0
  split at h
  · simp at h
  rename_i body hbody
  split at h
  · simp at h
  rename_i hname
  have hst : StR C G w { slots := args ++ List.replicate (fn.ntmps - args.length) undefT, H := argHeap 0 objs, tick := 0 } { tmps := vs.toArray ++ Array.replicate (fn.ntmps - vs.toArray.size) undef, defers := [] } := by
    refine ⟨hw, hg, ?_, hH, fun p hp => absurd hp (had.2 p)⟩
    have e : (vs.toArray ++ Array.replicate (fn.ntmps - vs.toArray.size) undef).toList = vs ++ List.replicate (fn.ntmps - args.length) undef := by simp [hv.1]
    unfold SR
    rw [e]
    refine VRs.append hv ⟨by simp, fun j c u hc hu => ?_⟩
    rw [List.getElem?_replicate] at hc hu
    by_cases hl : j < fn.ntmps - args.length
    · rw [if_pos hl] at hc hu
      simp at hc hu; subst hc; subst hu; exact undef_VR G
    · rw [if_neg hl] at hc; simp at hc
  refine .inl ⟨?_, calls_of_wp hfn hbody ?_⟩
  · simp [callFunc, hfn, hname, hbody]
  · split at h
    · rename_i st he
      refine wp_mono (evalCode_ok hm hev body _ _ _ he G w _ hst) fun ex a' w' hgd => ?_
      obtain ⟨G', hs, hd, rfl, hst'⟩ := hgd
      exact ⟨hd, finish_ok h hs hst'⟩
    · rename_i st he
      refine wp_mono (evalCode_ok hm hev body _ _ _ he G w _ hst) fun ex a' w' hgd => ?_
      obtain ⟨G', hs, hd, rfl, hst'⟩ := hgd
      exact ⟨hd, finish_ok h hs hst'⟩
    · rename_i v st he
      split at h
      · simp at h
      · simp only [Option.some.injEq] at h
        subst h
        refine wp_mono (evalCode_ok hm hev body _ _ _ he G w _ hst) fun ex a' w' hgd => ?_
        obtain ⟨G', hs, hd, x, rfl, hx, hH'⟩ := hgd
        refine ⟨hd, x, G', rfl, hs, fun i o ho => ?_, hx⟩
        have := objsAtP_some ho
        rw [Nat.zero_add] at this
        exact hH' _ _ this
    · simp at h

/-- the summaries are right -/
def ExtOk (C : Cfg) (X : Ext) : Prop := ∀ g s, X g = some s → ∀ ev, CallOk C ev → ∀ args objs r, s ev args objs = some r → ∀ (G : Gh) (w : World) (vs : List Value), WF G w → GlobR C G → ArgDom G objs.length →
  HR G w (argHeap 0 objs) → VRs G args vs → CallsF C.P g vs.toArray w (retP G w objs.length r)

/-- the interpreter is right -/
theorem evalN_ok (hm : C.P.prog.follows .mixedOrders = true) {X : Ext} (hX : ExtOk C X) : ∀ n, CallOk C (evalN C X n) := by
  intro n
  induction n with
  | zero => intro g args objs r h; simp [evalN] at h
  | succ n ih =>
    intro g args objs r h G w vs hw hg had hH hv
    simp only [evalN] at h
    split at h
    · rename_i s hs
      exact hX g s hs _ ih args objs r h G w vs hw hg had hH hv
    · exact runFn_ok hm ih h hw hg had hH hv
end
end Go.Abs
