/- More rules: what is learnt of truth values; literals of more than one; calls whose arguments become data; functions of data told by a function. -/
import Derived.Test.YtijfhoelihclbaaGreatDoorJ
noncomputable section
namespace Go.Abs
open Go
set_option linter.unusedVariables false

theorem not_t {b : Bool} (h : b = true) : (!b) = false := by subst h; rfl
theorem not_f {b : Bool} (h : b = false) : (!b) = true := by subst h; rfl
theorem of_not_t {b : Bool} (h : (!b) = true) : b = false := by cases b <;> simp_all
theorem of_not_f {b : Bool} (h : (!b) = false) : b = true := by cases b <;> simp_all
theorem eq_of_bne_false {α : Type} [BEq α] [LawfulBEq α] {a b : α} (h : (a != b) = false) : a = b := by simpa using h
theorem ne_of_bne_true {α : Type} [BEq α] [LawfulBEq α] {a b : α} (h : (a != b) = true) : a ≠ b := by simpa using h
theorem mem_cons_of {P : Tree → Prop} {x : Tree} {l : List Tree} (h : P x) (k : ∀ y ∈ l, P y) : ∀ y ∈ x :: l, P y := fun y hy => by
  rcases List.mem_cons.1 hy with rfl | hy
  · exact h
  · exact k y hy

section
variable {C : Cfg} {ev : CallF} {f : FuncId} {n : Nat} {sp : List (Nat × TV)} {H : Heap} {t : Nat} {d : Option Tmp}

theorem rh0 : rhosS C n sp [] = some (([] : List Tree).map .t) := rfl
theorem rh3 {x y z : Operand} {v u q : Tree} (h : rhoS C n sp x = some (.t v)) (h2 : rhoS C n sp y = some (.t u)) (h3 : rhoS C n sp z = some (.t q)) : rhosS C n sp [x, y, z] = some ([v, u, q].map .t) := by
  simp only [rhosS, h, h2, h3]; rfl

/-- a list of some, all of them data -/
theorem d_litN {ty elem cnt : Nat} {ti te : TI} {z : TV} {ps : Array (Nat × Operand)} {parts : List (Nat × TV)} {es cs : List Tree} (hp : partsS C n sp ps.toList = some parts) (ha : d.any (C.asArr f) = false) (ht : C.P.ty ty = some ti) (hd : ti.desc = .slice elem) (hte : C.P.ty elem = some te) (hz : te.zero = some z)
    (hc : (decide (0 < te.size) && decide (cnt * te.size ≤ 16777216) && decide (z.cells.length = te.size) && z.cells.all TV.leaf) = true) (hf : fillT (fun i => some (i * te.size, te.size)) (reps cnt z.cells) parts = some (cs.map .t)) (hch : chunk te.agg te.size cnt cs = some es) :
    Does C ev f H n sp t d (.buildSlice ty cnt ps) (.tsl es) [] := fun _ _ _ _ => by
  simp only [Bool.and_eq_true, decide_eq_true_eq] at hc
  obtain ⟨⟨⟨h1, h1b⟩, h2⟩, h3⟩ := hc
  have hcond : 0 < te.size ∧ cnt * te.size ≤ 16777216 ∧ z.cells.length = te.size ∧ z.cells.all TV.leaf = true := ⟨h1, h1b, h2, h3⟩
  simp only [execT, evalOp, partsS_ok hp, buildSliceT, tyOf, ht, hd, hte, hz, if_pos hcond, hf, ha, allT_map, Option.bind_some, hch]

def isIfaceD : TypeDesc → Bool
  | .interface _ => true
  | _ => false
theorem d_iface {ty : TypeId} {ti : TI} {x : Operand} {v w : TV} (h : rhoS C n sp x = some v) (ht : C.P.ty ty = some ti) (hd : isIfaceD ti.desc = false) (hw : (match v with | .t x => .t (.iface ty x) | v => .iface ty v : TV) = w) : Does C ev f H n sp t d (.makeInterface ty x) w [] := fun _ _ _ _ => by
  simp only [execT, evalOp, rhoS_ok h, tyOf, ht]
  generalize ti.desc = q at hd ⊢
  subst hw
  cases q with
  | interface _ => cases hd
  | _ => cases v <;> rfl

theorem d_makeFunc {fn : Fn} {a b : Array Operand} {fs cs : List TV} {w : TV} (h : rhosS C n sp a.toList = some fs) (h2 : rhosS C n sp b.toList = some cs) (hw : mkFn fn fs cs = w) : Does C ev f H n sp t d (.makeFunc fn a b) w [] := fun _ _ _ _ => by
  simp only [execT, evalOp, rhosS_ok h, rhosS_ok h2, hw]

/-- a call whose arguments become data -/
theorem d_callG {g : FuncId} {args : Array Operand} {ats : Array TypeId} {vs : List TV} {ts : List Tree} {ks : List Nm} {y : Tree} (h : rhosS C n sp args.toList = some vs) (hf : frzArgs H vs = (ts.map .t, ks)) (he : ev g (ts.map .t) [] = some (.ret (.t y) [] [])) :
    Does C ev f H n sp t d (.call ⟨.value (.func g), args, ats⟩) (.t y) ((frozenU H ks).filter (fun p => !(([] : List Nm).contains p.1)) ++ [] ++ []) := by
  refine d_call (callee_func h) ?_
  unfold callT
  rw [hf]
  simp only [names_trees]
  have h1 : reach (H.puts (frozenU H ks)) reachFuel [] [] = some [] := rfl
  simp only [h1, List.nodup_nil, if_true, rnL_trees, objsIn, he]
  rfl
end

section
variable {C : Cfg} {ev : CallF} {f : FuncId} {n : Nat} {sp : List (Nat × TV)} {H : Heap} {t : Nat} {d : Option Tmp}
theorem callee_val {fo : Operand} {args : Array Operand} {ats : Array TypeId} {g : FuncId} {fs cs va : List TV} (hf : rhoS C n sp fo = some (.fn (.func g) fs cs)) (h : rhosS C n sp args.toList = some va) : calleeT C (frm n sp) ⟨.value fo, args, ats⟩ = some (g, fs ++ va ++ cs) := by
  simp only [calleeT, rhoS_ok hf, rhosS_ok h]
theorem callee_val0 {fo : Operand} {args : Array Operand} {ats : Array TypeId} {g : FuncId} {va : List TV} (hf : rhoS C n sp fo = some (.t (.fn (.func g)))) (h : rhosS C n sp args.toList = some va) : calleeT C (frm n sp) ⟨.value fo, args, ats⟩ = some (g, va) := by
  simp only [calleeT, rhoS_ok hf, rhosS_ok h]

/-- a call that is handed places -/
theorem d_callP {fo : Operand} {args : Array Operand} {ats : Array TypeId} {g : FuncId} {va vb vc : List TV} {ks S : List Nm} {os os' : List AObj} {v v' : TV} {news h h' : Heap} (hc : calleeT C (frm n sp) ⟨.value fo, args, ats⟩ = some (g, va)) (hf : frzArgs H va = (vb, ks))
    (hr : reach (H.puts (frozenU H ks)) reachFuel [] (TV.namesL vb) = some S) (hn : S.Nodup) (h1 : TV.rnL (sIn S) vb = some vc) (h2 : objsIn (H.puts (frozenU H ks)) S S = some os) (he : ev g vc os = some (.ret v os' news))
    (h3 : v.rn (sOut S t) = some v') (h4 : objsOut S t S os' = some h) (h5 : newsOut S t news = some h') : Does C ev f H n sp t d (.call ⟨.value fo, args, ats⟩) v' ((frozenU H ks).filter (fun p => !(S.contains p.1)) ++ h ++ h') := by
  refine d_call hc ?_
  unfold callT
  rw [hf]
  simp only [hr, if_pos hn, h1, h2, he, h3, h4, h5]
end

theorem CallRel.of_ex {C : Cfg} {g : FuncId} {args : List TV} {objs : List AObj} {r : FRes} (h : ∃ _ : Unit, CallRel C g args objs r) : CallRel C g args objs r := h.elim fun _ h => h

/-! ### A part of an element written -/
theorem set_elem {sz : Nat} {es : List Tree} {i j : Nat} {e e' : Tree} {vs : List Tree} (hu : ∀ e ∈ es, e.cells.length = sz) (he : es[i]? = some e) (hj : j + vs.length ≤ sz) (hc : e'.cells = e.cells.take j ++ vs ++ e.cells.drop (j + vs.length)) :
    setRange ((flat es).map .t) (i * sz + j) (vs.map .t) = (flat (es.set i e')).map .t := by
  have hl : e.cells.length = sz := hu e (List.mem_of_getElem? he)
  have hi : i < es.length := (List.getElem?_eq_some_iff.1 he).1
  have hl' : e'.cells.length = sz := by rw [hc]; simp; omega
  have hu' : ∀ x ∈ es.set i e', x.cells.length = sz := fun x hx => by
    rcases List.mem_or_eq_of_mem_set hx with h | h
    · exact hu x h
    · rw [h]; exact hl'
  have hflen : (flat es).length = es.length * sz := flat_length hu
  have hmul : (i + 1) * sz ≤ es.length * sz := Nat.mul_le_mul_right _ hi
  rw [Nat.succ_mul] at hmul
  rw [← hl] at hj hmul
  have hsr : setRange ((flat es).map .t) (i * sz + j) (vs.map .t) = ((flat es).take (i * sz + j) ++ vs ++ (flat es).drop (i * sz + j + vs.length)).map TV.t := by
    simp only [setRange, List.map_append, List.map_take, List.map_drop, List.length_map]
  rw [hsr]
  congr 1
  have split : flat es = flat (es.take i) ++ (e.cells ++ flat (es.drop (i + 1))) := by
    conv => lhs; rw [← List.take_append_drop i es]
    rw [flat, List.flatMap_append]
    congr 1
    rw [List.drop_eq_getElem_cons hi]
    have : es[i] = e := by rw [List.getElem?_eq_getElem hi] at he; exact Option.some.inj he
    simp [flat, this]
  have split' : flat (es.set i e') = flat (es.take i) ++ (e'.cells ++ flat (es.drop (i + 1))) := by
    rw [List.set_eq_take_append_cons_drop, if_pos hi, flat, List.flatMap_append]
    simp [flat]
  have hp : (flat (es.take i)).length = i * sz := by
    rw [flat_length (fun x hx => hu x (List.mem_of_mem_take hx)), List.length_take, Nat.min_eq_left (by omega)]
  rw [split', hc, split]
  rw [← hp, List.take_length_add_append, List.append_assoc, List.append_assoc]
  congr 1
  rw [Nat.add_assoc, List.drop_length_add_append, List.take_append_of_le_length (by omega), List.append_assoc, List.drop_append_of_le_length (by omega)]
  simp [List.append_assoc]

theorem set_noop {l : List Tree} {i : Nat} {e : Tree} (h : l[i]? = some e) : l.set i e = l := by
  obtain ⟨h1, rfl⟩ := List.getElem?_eq_some_iff.1 h
  exact List.set_getElem_self h1

theorem Uni.set {ag : Bool} {sz : Nat} {es : List Tree} (h : Uni ag sz es) {e : Tree} (he : EOk ag sz e) (i : Nat) : Uni ag sz (es.set i e) := fun x hx => by
  rcases List.mem_or_eq_of_mem_set hx with h1 | h1
  · exact h x h1
  · rw [h1]; exact he

theorem sta' {P : Prg} {H : Heap} {ty : TypeId} {ti : TI} {x : TV} {k : Nm} {off : Nat} {g : TypeId × Bool} {esz : Nat} {cs cs' : List TV} (ht : P.ty ty = some ti) (hk : H.get k = some (.arr g esz false cs)) (hl : (decide (x.cells.length = ti.size) && x.cells.all TV.leaf) = true) (ho : off + ti.size ≤ cs.length) (he : setRange cs off x.cells = cs') :
    storeT P H ty (.aptr k cs.length off) x = some [(k, .arr g esz false cs')] := by
  subst he; exact sta ht hk hl ho

section
variable {C : Cfg} {ev : CallF} {f : FuncId} {n : Nat} {sp : List (Nat × TV)} {H : Heap} {t : Nat} {d : Option Tmp}
theorem d_appR' {x y : Operand} {st elem : TypeId} {te : TI} {v : TV} {k : Nm} {fz : Bool} {len : Nat} {es fs : List Tree} (h : AppTy C.P st elem te) (hx : rhoS C n sp x = some (.ref k 0 len)) (hy : rhoS C n sp y = some v) (hv : isSrc v es)
    (hk : H.get k = some (.arr (elem, te.agg) te.size fz ((flat fs).map .t))) (hl : len = fs.length) (hf : Uni te.agg te.size fs) (hu : Uni te.agg te.size es) (hne : es ≠ []) (hb : (len + es.length) * te.bytes ≤ maxBytes) :
    Does C ev f H n sp t d (.call ⟨.builtin .append, #[x, y], #[st, st]⟩) (.ref k 0 (fs ++ es).length) [(k, .arr (elem, te.agg) te.size fz ((flat (fs ++ es)).map .t))] := by
  rw [List.length_append, ← hl]
  exact d_appR h hx hy hv hk hl hf hu hne hb
end

/-! ### What becomes data, part by part -/
theorem frz_nils {H : Heap} {n : Nat} : frz H (n + 1) .nils = some (.sl [], []) := rfl
theorem frz_tsl {H : Heap} {n : Nat} {es : List Tree} : frz H (n + 1) (.tsl es) = some (.sl es, []) := rfl
theorem frzs_nil {f : TV → Option (Tree × List Nm)} : frzs f [] = some ([], []) := rfl
theorem frzs_cons {f : TV → Option (Tree × List Nm)} {v : TV} {r : List TV} {x : Tree} {k ks : List Nm} {xs : List Tree} (h : f v = some (x, k)) (hr : frzs f r = some (xs, ks)) : frzs f (v :: r) = some (x :: xs, k ++ ks) := by
  simp only [frzs, h, hr]
theorem frz_agg {H : Heap} {n : Nat} {cs : List TV} {ts : List Tree} {ks : List Nm} (h : frzs (frz H n) cs = some (ts, ks)) : frz H (n + 1) (.agg cs) = some (.agg ts, ks) := by
  simp only [frz, h]
theorem frz_tup {H : Heap} {n : Nat} {cs : List TV} {ts : List Tree} {ks : List Nm} (h : frzs (frz H n) cs = some (ts, ks)) : frz H (n + 1) (.tup cs) = some (.tup ts, ks) := by
  simp only [frz, h]

/-! ### Functions of data -/
theorem choose_if {α β : Type} [Inhabited β] {P : α → Prop} {Q : α → β → Prop} (h : ∀ a, P a → ∃ b, Q a b) : ∃ f : α → β, ∀ a, P a → Q a (f a) :=
  Classical.axiomOfChoice (r := fun a b => P a → Q a b) fun a => by
    by_cases hp : P a
    · obtain ⟨b, hb⟩ := h a hp
      exact ⟨b, fun _ => hb⟩
    · exact ⟨default, fun h => absurd h hp⟩

section
variable {C : Cfg} {g : FuncId} {β : Type} {ev : CallF}

/-- told by a function: of no, one, two, three arguments -/
def R0 (C : Cfg) (g : FuncId) (y : Tree) : Prop := CallRel C g [] [] (.ret (.t y) [] [])
def R1 (C : Cfg) (g : FuncId) (x y : Tree) : Prop := CallRel C g [.t x] [] (.ret (.t y) [] [])
def R2 (C : Cfg) (g : FuncId) (x x2 y : Tree) : Prop := CallRel C g [.t x, .t x2] [] (.ret (.t y) [] [])
def R3 (C : Cfg) (g : FuncId) (x x2 x3 y : Tree) : Prop := CallRel C g [.t x, .t x2, .t x3] [] (.ret (.t y) [] [])

def pc0 (y : Tree) : List TV → List AObj → Option FRes := fun vb os => match vb, os with
  | [], [] => some (.ret (.t y) [] [])
  | _, _ => none
open Classical in
def pc1 (P : Tree → Prop) (F : Tree → Tree) : List TV → List AObj → Option FRes := fun vb os => match vb, os with
  | [.t x], [] => if P x then some (.ret (.t (F x)) [] []) else none
  | _, _ => none
open Classical in
def pc2 (P : Tree → Tree → Prop) (F : Tree → Tree → Tree) : List TV → List AObj → Option FRes := fun vb os => match vb, os with
  | [.t x, .t y], [] => if P x y then some (.ret (.t (F x y)) [] []) else none
  | _, _ => none
open Classical in
def pc3 (P : Tree → Tree → Tree → Prop) (F : Tree → Tree → Tree → Tree) : List TV → List AObj → Option FRes := fun vb os => match vb, os with
  | [.t x, .t y, .t z], [] => if P x y z then some (.ret (.t (F x y z)) [] []) else none
  | _, _ => none

theorem pc0_ok {y : Tree} (h : R0 C g y) : FunOk C g (pc0 y) := fun args objs r hr => by
  unfold pc0 at hr
  split at hr
  · cases hr; exact h
  · cases hr
theorem pc1_ok {P : Tree → Prop} {F : Tree → Tree} (h : ∀ x, P x → R1 C g x (F x)) : FunOk C g (pc1 P F) := fun args objs r hr => by
  unfold pc1 at hr
  split at hr
  · split at hr
    · rename_i hp; cases hr; exact h _ hp
    · cases hr
  · cases hr
theorem pc2_ok {P : Tree → Tree → Prop} {F : Tree → Tree → Tree} (h : ∀ x y, P x y → R2 C g x y (F x y)) : FunOk C g (pc2 P F) := fun args objs r hr => by
  unfold pc2 at hr
  split at hr
  · split at hr
    · rename_i hp; cases hr; exact h _ _ hp
    · cases hr
  · cases hr
theorem pc3_ok {P : Tree → Tree → Tree → Prop} {F : Tree → Tree → Tree → Tree} (h : ∀ x y z, P x y z → R3 C g x y z (F x y z)) : FunOk C g (pc3 P F) := fun args objs r hr => by
  unfold pc3 at hr
  split at hr
  · split at hr
    · rename_i hp; cases hr; exact h _ _ _ hp
    · cases hr
  · cases hr

/-- found in a table of contracts -/
def Has (ev : CallF) (g : FuncId) (s : List TV → List AObj → Option FRes) : Prop := ∀ vb os r, s vb os = some r → ev g vb os = some r
theorem has_here {s : List TV → List AObj → Option FRes} : Has (oneEv g s ev) g s := fun _ _ _ h => by unfold oneEv; rw [if_pos rfl]; exact h
theorem has_there {g' : FuncId} {s s' : List TV → List AObj → Option FRes} (hne : Nat.beq g g' = false) (h : Has ev g s) : Has (oneEv g' s' ev) g s := fun _ _ _ hs => by
  unfold oneEv
  rw [if_neg (by intro e; have := Nat.ne_of_beq_eq_false hne; exact this e)]
  exact h _ _ _ hs
theorem has0 {y : Tree} (h : Has ev g (pc0 y)) : ev g [] [] = some (.ret (.t y) [] []) := h _ _ _ rfl
theorem has1 {P : Tree → Prop} {F : Tree → Tree} (h : Has ev g (pc1 P F)) {x : Tree} (hp : P x) : ev g [.t x] [] = some (.ret (.t (F x)) [] []) := h _ _ _ (if_pos hp)
theorem has2 {P : Tree → Tree → Prop} {F : Tree → Tree → Tree} (h : Has ev g (pc2 P F)) {x y : Tree} (hp : P x y) : ev g [.t x, .t y] [] = some (.ret (.t (F x y)) [] []) := h _ _ _ (if_pos hp)
theorem has3 {P : Tree → Tree → Tree → Prop} {F : Tree → Tree → Tree → Tree} (h : Has ev g (pc3 P F)) {x y z : Tree} (hp : P x y z) : ev g [.t x, .t y, .t z] [] = some (.ret (.t (F x y z)) [] []) := h _ _ _ (if_pos hp)

/-- a function of data, and of places that it leaves va they are -/
def RK (C : Cfg) (g : FuncId) (k : List TV) (bxs : List AObj) (x y : Tree) : Prop := CallRel C g (.t x :: k) bxs (.ret (.t y) bxs [])
open Classical in
def pk (k : List TV) (bxs : List AObj) (P : Tree → Prop) (F : Tree → Tree) : List TV → List AObj → Option FRes := fun vb os => match vb with
  | .t x :: r => if r = k ∧ os = bxs ∧ P x then some (.ret (.t (F x)) bxs []) else none
  | _ => none
theorem pk_ok {k : List TV} {bxs : List AObj} {P : Tree → Prop} {F : Tree → Tree} (h : ∀ x, P x → RK C g k bxs x (F x)) : FunOk C g (pk k bxs P F) := fun args objs r hr => by
  unfold pk at hr
  split at hr
  · split at hr
    · rename_i hp; obtain ⟨rfl, rfl, hp⟩ := hp; cases hr; exact h _ hp
    · cases hr
  · cases hr
theorem hask {k : List TV} {bxs : List AObj} {P : Tree → Prop} {F : Tree → Tree} (h : Has ev g (pk k bxs P F)) {x : Tree} (hp : P x) : ev g (.t x :: k) bxs = some (.ret (.t (F x)) bxs []) := h _ _ _ (if_pos ⟨rfl, rfl, hp⟩)

/-! ### The first of some -/
def fIx (q : Tree → Bool) (l : List Tree) : Int := match l.findIdx? q with
  | some i => (i : Int)
  | none => -1
theorem fIx_at {q : Tree → Bool} {l : List Tree} {i : Nat} {e : Tree} (h : ∀ j, j < i → ∀ x, l[j]? = some x → q x = false) (he : l[i]? = some e) (hq : q e = true) : fIx q l = (i : Int) := by
  have : l.findIdx? q = some i := by
    rw [List.findIdx?_eq_some_iff_getElem]
    obtain ⟨h1, rfl⟩ := List.getElem?_eq_some_iff.1 he
    refine ⟨h1, hq, fun j hj => ?_⟩
    rw [h j hj _ (List.getElem?_eq_getElem (by omega))]
    simp
  unfold fIx
  rw [this]
theorem fIx_none {q : Tree → Bool} {l : List Tree} (h : ∀ j, j < l.length → ∀ x, l[j]? = some x → q x = false) : fIx q l = -1 := by
  have : l.findIdx? q = none := by
    rw [List.findIdx?_eq_none_iff]
    intro x hx
    obtain ⟨j, hj, e⟩ := List.getElem_of_mem hx
    exact h j hj x (by rw [List.getElem?_eq_getElem hj, e])
  unfold fIx
  rw [this]
theorem fIx_any {q : Tree → Bool} {l : List Tree} : decide (fIx q l ≥ 0) = l.any q := by
  unfold fIx
  cases h : l.findIdx? q with
  | none =>
    rw [List.findIdx?_eq_none_iff] at h
    have : l.any q = false := by rw [List.any_eq_false]; intro x hx; simp [h x hx]
    rw [this]; simp
  | some i =>
    rw [List.findIdx?_eq_some_iff_getElem] at h
    obtain ⟨h1, h2, _⟩ := h
    have : l.any q = true := by rw [List.any_eq_true]; exact ⟨_, List.getElem_mem h1, h2⟩
    rw [this]; simp
theorem fIx_succ {q : Tree → Bool} {l : List Tree} {i : Nat} {e : Tree} (h : ∀ j, j < i → ∀ x, l[j]? = some x → q x = false) (he : l[i]? = some e) (hq : q e = false) : ∀ j, j < i + 1 → ∀ x, l[j]? = some x → q x = false := fun j hj x hx => by
  by_cases h1 : j < i
  · exact h j h1 x hx
  · obtain rfl : j = i := by omega
    rw [he] at hx; cases hx; exact hq

theorem fun1 [Inhabited β] {P : Tree → Prop} {mk : β → Tree} {Post : Tree → β → Prop} (h : ∀ x, P x → ∃ r : {r : β // Post x r}, R1 C g x (mk r.1)) : ∃ F : Tree → β, ∀ x, P x → R1 C g x (mk (F x)) ∧ Post x (F x) :=
  choose_if (Q := fun x r => R1 C g x (mk r) ∧ Post x r) fun x hx => by obtain ⟨r, hr⟩ := h x hx; exact ⟨r.1, hr, r.2⟩
theorem fun2 [Inhabited β] {P : Tree → Tree → Prop} {mk : β → Tree} {Post : Tree → Tree → β → Prop} (h : ∀ x y, P x y → ∃ r : {r : β // Post x y r}, R2 C g x y (mk r.1)) : ∃ F : Tree → Tree → β, ∀ x y, P x y → R2 C g x y (mk (F x y)) ∧ Post x y (F x y) := by
  obtain ⟨F, hF⟩ := choose_if (α := Tree × Tree) (P := fun p => P p.1 p.2) (Q := fun p r => R2 C g p.1 p.2 (mk r) ∧ Post p.1 p.2 r) fun p hp => by obtain ⟨r, hr⟩ := h p.1 p.2 hp; exact ⟨r.1, hr, r.2⟩
  exact ⟨fun x y => F (x, y), fun x y hp => hF (x, y) hp⟩
theorem fun3 [Inhabited β] {P : Tree → Tree → Tree → Prop} {mk : β → Tree} {Post : Tree → Tree → Tree → β → Prop} (h : ∀ x y z, P x y z → ∃ r : {r : β // Post x y z r}, R3 C g x y z (mk r.1)) : ∃ F : Tree → Tree → Tree → β, ∀ x y z, P x y z → R3 C g x y z (mk (F x y z)) ∧ Post x y z (F x y z) := by
  obtain ⟨F, hF⟩ := choose_if (α := Tree × Tree × Tree) (P := fun p => P p.1 p.2.1 p.2.2) (Q := fun p r => R3 C g p.1 p.2.1 p.2.2 (mk r) ∧ Post p.1 p.2.1 p.2.2 r) fun p hp => by obtain ⟨r, hr⟩ := h p.1 p.2.1 p.2.2 hp; exact ⟨r.1, hr, r.2⟩
  exact ⟨fun x y z => F (x, y, z), fun x y z hp => hF (x, y, z) hp⟩
end
end Go.Abs
end
