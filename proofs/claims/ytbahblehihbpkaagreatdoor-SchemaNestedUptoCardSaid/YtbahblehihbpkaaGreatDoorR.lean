/- More of it. -/
import Derived.Test.YtbahblehihbpkaaGreatDoorO
import Derived.Test.YtbahblehihbpkaaGreatDoorP
import Derived.Test.YtbahblehihbpkaaGreatDoorQ
namespace Go.Proofs.YtbahblehihbpkaaGreatDoor.w
open Go Go.Abs
set_option linter.unusedVariables false
set_option maxRecDepth 100000
set_option maxHeartbeats 1000000
noncomputable section



theorem choose_if {α β : Type} [Inhabited β] {P : α → Prop} {Q : α → β → Prop} (h : ∀ a, P a → ∃ b, Q a b) : ∃ f : α → β, ∀ a, P a → Q a (f a) :=
  Classical.axiomOfChoice (r := fun a b => P a → Q a b) fun a => by
    by_cases hp : P a
    · obtain ⟨b, hb⟩ := h a hp
      exact ⟨b, fun _ => hb⟩
    · exact ⟨default, fun h => absurd h hp⟩
theorem pure1 {C : Cfg} {β : Type} [Inhabited β] {g : FuncId} {P : Tree → Prop} (mk : β → Tree) (h : ∀ x, P x → ∃ r : β, CallRel C g [.t x] [] (.ret (.t (mk r)) [] [])) : ∃ f : Tree → β, ∀ x, P x → CallRel C g [.t x] [] (.ret (.t (mk (f x))) [] []) := choose_if h
theorem pure2 {C : Cfg} {β : Type} [Inhabited β] {g : FuncId} {P : Tree → Tree → Prop} (mk : β → Tree) (h : ∀ x y, P x y → ∃ r : β, CallRel C g [.t x, .t y] [] (.ret (.t (mk r)) [] [])) :
    ∃ f : Tree → Tree → β, ∀ x y, P x y → CallRel C g [.t x, .t y] [] (.ret (.t (mk (f x y))) [] []) := by
  obtain ⟨f, hf⟩ := choose_if (α := Tree × Tree) (P := fun p => P p.1 p.2) (Q := fun p r => CallRel C g [.t p.1, .t p.2] [] (.ret (.t (mk r)) [] [])) fun p hp => h p.1 p.2 hp
  exact ⟨fun x y => f (x, y), fun x y hp => hf (x, y) hp⟩

def PI (x : Tree) : Prop := ∃ n, x = .int .u8 n
def PS (x : Tree) : Prop := ∃ s, x = .str s
def PA (e : Tree) : Prop := ∃ nm k s o a, e = .agg [.str nm, .int .u8 k, .str s, .sl o, .sl a]
def t1 {β : Type} (mk : β → Tree) (P : Tree → Prop) (f : Tree → β) : List TV → List AObj → Option FRes := ct1 P fun x => .ret (.t (mk (f x))) [] []
def t2 {β : Type} (mk : β → Tree) (P : Tree → Tree → Prop) (f : Tree → Tree → β) : List TV → List AObj → Option FRes := ct2 P fun x y => .ret (.t (mk (f x y))) [] []
theorem t1_ok {C : Cfg} {β : Type} {g : FuncId} {mk : β → Tree} {P : Tree → Prop} {f : Tree → β} (h : ∀ x, P x → CallRel C g [.t x] [] (.ret (.t (mk (f x))) [] [])) : FunOk C g (t1 mk P f) := ct1_ok h
theorem t2_ok {C : Cfg} {β : Type} {g : FuncId} {mk : β → Tree} {P : Tree → Tree → Prop} {f : Tree → Tree → β} (h : ∀ x y, P x y → CallRel C g [.t x, .t y] [] (.ret (.t (mk (f x y))) [] [])) : FunOk C g (t2 mk P f) := ct2_ok h
theorem t1_at {β : Type} {g : FuncId} {mk : β → Tree} {P : Tree → Prop} {f : Tree → β} {ev : CallF} {x : Tree} (h : P x) : oneEv g (t1 mk P f) ev g [.t x] [] = some (.ret (.t (mk (f x))) [] []) := ct1_at h
theorem t2_at {β : Type} {g : FuncId} {mk : β → Tree} {P : Tree → Tree → Prop} {f : Tree → Tree → β} {ev : CallF} {x y : Tree} (h : P x y) : oneEv g (t2 mk P f) ev g [.t x, .t y] [] = some (.ret (.t (mk (f x y))) [] []) := ct2_at h

theorem name1_pure (m : Int) : ∃ f : Tree → Bool, ∀ x, PI x → CallRel (cf m) 134 [.t x] [] (.ret (.t (.bool (f x))) [] []) := by
  obtain ⟨fd, hd⟩ := pure1 (C := cf m) (g := 132) (P := PI) Tree.bool (fun x ⟨n, e⟩ => e ▸ digit_at noEv_ok n)
  obtain ⟨fl, hl⟩ := pure1 (C := cf m) (g := 135) (P := PI) Tree.bool (fun x ⟨n, e⟩ => e ▸ letter_at noEv_ok n)
  refine pure1 (P := PI) Tree.bool fun x ⟨n, e⟩ => e ▸ name1_at (oneEv_ok (t1_ok hl) (oneEv_ok (t1_ok hd) noEv_ok)) (fun n => fl (.int .u8 n)) (fun n => fd (.int .u8 n)) (fun n => t1_at ⟨n, rfl⟩) (fun n => ev_there rfl (t1_at ⟨n, rfl⟩)) n

def bytesT (s : List UInt8) : Tree := .sl (s.map fun b => .int .u8 b.toNat)
theorem cfB_pure (m : Int) : ∃ f : Tree → Tree → Bool, ∀ x y, ((∃ s : List UInt8, s.length ≤ 64 ∧ x = bytesT s) ∧ y = .fn (.func 134)) → CallRel (cf m) 133 [.t x, .t y] [] (.ret (.t (.bool (f x y))) [] []) := by
  obtain ⟨f1, h1⟩ := name1_pure m
  obtain ⟨fi, hi⟩ := pure2 (C := cf m) (g := 154) (P := fun x y => (∃ s : List UInt8, s.length ≤ 64 ∧ x = bytesT s) ∧ y = .fn (.func 134)) (Tree.int .i64) (fun x y ⟨⟨s, hs, e⟩, e2⟩ => by
    subst e; subst e2
    have hform : ∀ e ∈ s.map (fun b : UInt8 => Tree.int .u8 b.toNat), ∃ n, e = .int .u8 n := fun e he => by obtain ⟨b, _, rfl⟩ := List.mem_map.1 he; exact ⟨_, rfl⟩
    exact ixB_at (oneEv_ok (t1_ok h1) noEv_ok) _ (by rw [List.length_map]; omega) hform 134 f1 (fun e he => t1_at (hform e he)))
  exact pure2 Tree.bool fun x y hp => cfB_at (oneEv_ok (t2_ok hi) noEv_ok) x y (fi x y) (t2_at hp)

theorem ctS_pure (m : Int) : ∃ f : Tree → Tree → Bool, ∀ x y, (x = .sl (words2.map .str) ∧ PS y) → CallRel (cf m) 119 [.t x, .t y] [] (.ret (.t (.bool (f x y))) [] []) := by
  obtain ⟨fi, hi⟩ := pure2 (C := cf m) (g := 144) (P := fun x y => x = .sl (words2.map .str) ∧ PS y) (Tree.int .i64) (fun x y ⟨e, s, e2⟩ => by
    subst e; subst e2
    exact idS_at noEv_ok _ (by decide) (fun e he => by obtain ⟨b, _, rfl⟩ := List.mem_map.1 he; exact ⟨_, rfl⟩) s)
  exact pure2 Tree.bool fun x y hp => ctS_at (oneEv_ok (t2_ok hi) noEv_ok) x y (fi x y) (t2_at hp)

theorem name_pure (m : Int) : ∃ f : Tree → Bool, ∀ x, PS x → CallRel (cf m) 89 [.t x] [] (.ret (.t (.bool (f x))) [] []) := by
  obtain ⟨fd, hd⟩ := pure1 (C := cf m) (g := 132) (P := PI) Tree.bool (fun x ⟨n, e⟩ => e ▸ digit_at noEv_ok n)
  obtain ⟨fb, hb⟩ := cfB_pure m
  obtain ⟨fc, hc⟩ := ctS_pure m
  have hw : FunOk (cf m) 120 (extTab wordsTab noEv) := fun args objs r h => live.words120 m noEv noEv_ok args objs r h
  refine pure1 (P := PS) Tree.bool fun x ⟨s, e⟩ => e ▸ name_at (ev := oneEv 120 (extTab wordsTab noEv) (oneEv 132 (t1 .bool PI fd) (oneEv 119 (t2 .bool (fun x y => x = .sl (words2.map .str) ∧ PS y) fc) (oneEv 133 (t2 .bool (fun x y => (∃ s : List UInt8, s.length ≤ 64 ∧ x = bytesT s) ∧ y = .fn (.func 134)) fb) noEv))))
    (oneEv_ok hw (oneEv_ok (t1_ok hd) (oneEv_ok (t2_ok hc) (oneEv_ok (t2_ok hb) noEv_ok)))) (fun n => fd (.int .u8 n)) (fun s => fc (.sl (words2.map .str)) (.str s)) (fun s => fb (bytesT s) (.fn (.func 134))) rfl
    (fun n => ev_there rfl (t1_at ⟨n, rfl⟩)) (fun s => ev_there rfl (ev_there rfl (t2_at ⟨rfl, s, rfl⟩))) (fun s hs => ev_there rfl (ev_there rfl (ev_there rfl (t2_at (x := bytesT s) ⟨⟨s, hs, rfl⟩, rfl⟩)))) s

theorem tn_pure (m : Int) : ∃ f : Tree → Bool, ∀ x, PS x → CallRel (cf m) 40 [.t x] [] (.ret (.t (.bool (f x))) [] []) := by
  obtain ⟨fn, hn⟩ := name_pure m
  obtain ⟨f1, h1⟩ := pure1 (C := cf m) (g := 88) (P := PS) Tree.bool (fun x ⟨s, e⟩ => e ▸ typeName1_at (oneEv_ok (t1_ok hn) noEv_ok) (fun s => fn (.str s)) (fun s => t1_at ⟨s, rfl⟩) s)
  obtain ⟨pc, hpc⟩ := choose_if (α := List UInt8) (β := List (List UInt8)) (P := fun s => s.length ≤ 64) (Q := fun s l => l.length ≤ s.length + 1 ∧ CallRel (cf m) 87 [.t (.str s), .t (.str [58, 58])] [] (.ret (.t (.sl (l.map .str))) [] [])) fun s hs => split_at s [58, 58] (by omega) (by decide)
  obtain ⟨fi, hi⟩ := pure2 (C := cf m) (g := 130) (P := fun x y => (∃ s : List UInt8, s.length ≤ 64 ∧ x = .sl ((pc s).map .str)) ∧ y = .fn (.func 88)) (Tree.int .i64) (fun x y ⟨⟨s, hs, e⟩, e2⟩ => by
    subst e; subst e2
    have hform : ∀ e ∈ (pc s).map Tree.str, ∃ u, e = .str u := fun e he => by obtain ⟨b, _, rfl⟩ := List.mem_map.1 he; exact ⟨_, rfl⟩
    exact ixS_at (oneEv_ok (t1_ok h1) noEv_ok) _ (by rw [List.length_map]; have := (hpc s hs).1; omega) hform 88 f1 (fun e he => t1_at (hform e he)))
  obtain ⟨fc, hc⟩ := pure2 (C := cf m) (g := 86) (P := fun x y => (∃ s : List UInt8, s.length ≤ 64 ∧ x = .sl ((pc s).map .str)) ∧ y = .fn (.func 88)) Tree.bool fun x y hp => cfS_at (oneEv_ok (t2_ok hi) noEv_ok) x y (fi x y) (t2_at hp)
  have hsp : FunOk (cf m) 87 (ct2 (fun x y => (∃ s : List UInt8, s.length ≤ 64 ∧ x = .str s) ∧ y = .str [58, 58]) fun x _ => match x with | .str s => .ret (.t (.sl ((pc s).map .str))) [] [] | _ => default) :=
    ct2_ok fun x y hx => by obtain ⟨⟨s, hs, rfl⟩, rfl⟩ := hx; exact (hpc s hs).2
  exact pure1 (P := PS) Tree.bool fun x ⟨s, e⟩ => e ▸ typeName_at (oneEv_ok hsp (oneEv_ok (t2_ok hc) noEv_ok)) pc (fun s => fc (.sl ((pc s).map .str)) (.fn (.func 88))) (fun s hs => ct2_at (x := .str s) (y := .str [58, 58]) ⟨⟨s, hs, rfl⟩, rfl⟩) (fun s hs => ev_there rfl (t2_at ⟨⟨s, hs, rfl⟩, rfl⟩)) s

theorem label_pure (m : Int) : ∃ f : Tree → Bool, ∀ x, PS x → CallRel (cf m) 44 [.t x] [] (.ret (.t (.bool (f x))) [] []) := by
  obtain ⟨fw, hw⟩ := pure1 (C := cf m) (g := 122) (P := fun x => ∃ s : List UInt8, 8 ≤ s.length ∧ x = .str s) (Tree.int .u64) (fun x ⟨s, hs, e⟩ => by
    subst e
    match s, hs with
    | b0 :: b1 :: b2 :: b3 :: b4 :: b5 :: b6 :: b7 :: r, _ => exact word_at noEv_ok b0 b1 b2 b3 b4 b5 b6 b7 r)
  obtain ⟨fv, hv⟩ := pure1 (C := cf m) (g := 63) (P := PS) Tree.bool (fun x ⟨s, e⟩ => e ▸ valid_at _ (oneEv_ok (t1_ok hw) noEv_ok) (fun s => fw (.str s)) (fun s hs => t1_at ⟨s, hs, rfl⟩) s)
  exact pure1 (P := PS) Tree.bool fun x ⟨s, e⟩ => e ▸ label_at (oneEv_ok (t1_ok hv) noEv_ok) (fun s => fv (.str s)) (fun s => t1_at ⟨s, rfl⟩) s

def PL (x : Tree) : Prop := ∃ l, x = .sl l ∧ l.length ≤ 4194304 ∧ ∀ e ∈ l, PA e
theorem rising_pure (m : Int) : ∃ f : Tree → Tree → Bool, ∀ x y, (PL x ∧ y = .fn (.func 42)) → CallRel (cf m) 41 [.t x, .t y] [] (.ret (.t (.bool (f x y))) [] []) := by
  obtain ⟨fn, hn⟩ := pure1 (C := cf m) (g := 42) (P := PA) Tree.str (fun x ⟨nm, k, s, o, a, e⟩ => e ▸ nameOf_at noEv_ok nm s k o a)
  exact pure2 Tree.bool fun x y ⟨⟨l, e, hl, hf⟩, e2⟩ => by
    subst e; subst e2
    exact rising_at (oneEv_ok (t1_ok hn) noEv_ok) l hl hf 42 fn (fun e he => t1_at (hf e he))
theorem cfA_pure (m : Int) : ∃ f : Tree → Tree → Bool, ∀ x y, (PL x ∧ y = .fn (.func 43)) → CallRel (cf m) 37 [.t x, .t y] [] (.ret (.t (.bool (f x y))) [] []) := by
  obtain ⟨fb, hb⟩ := label_pure m
  obtain ⟨f1, h1⟩ := pure1 (C := cf m) (g := 43) (P := PA) Tree.bool (fun x ⟨nm, k, s, o, a, e⟩ => e ▸ size1_at (oneEv_ok (t1_ok hb) noEv_ok) (fun s => fb (.str s)) (fun s => t1_at ⟨s, rfl⟩) nm s k o a)
  obtain ⟨fi, hi⟩ := pure2 (C := cf m) (g := 85) (P := fun x y => PL x ∧ y = .fn (.func 43)) (Tree.int .i64) fun x y ⟨⟨l, e, hl, hf⟩, e2⟩ => by
    subst e; subst e2
    exact ixA_at (oneEv_ok (t1_ok h1) noEv_ok) l hl hf 43 f1 (fun e he => t1_at (hf e he))
  exact pure2 Tree.bool fun x y hp => cfA_at (oneEv_ok (t2_ok hi) noEv_ok) x y (fi x y) (t2_at hp)

/-- how deep a type is, and whether it is right: there is an answer -/
theorem size_pure (m : Int) : ∀ n, n ≤ 8388608 → ∃ f : Tree → Int × Bool, (∀ x, TyN n x → CallRel (cf m) 14 [.t x] [] (.ret (.t (.tup [.int .i64 (f x).1, .bool (f x).2])) [] [])) ∧ ∀ x, TyN n x → 0 ≤ (f x).1 ∧ (f x).1 ≤ n
  | 0, _ => ⟨fun _ => default, fun x h => h.elim, fun x h => h.elim⟩
  | n + 1, hn => by
    obtain ⟨f, h1, h2⟩ := size_pure m n (by omega)
    obtain ⟨ft, ht⟩ := tn_pure m
    obtain ⟨fr, hr⟩ := rising_pure m
    obtain ⟨fc, hc⟩ := cfA_pure m
    have key : ∀ x, TyN (n + 1) x → ∃ r : Int × Bool, CallRel (cf m) 14 [.t x] [] (.ret (.t (.tup [.int .i64 r.1, .bool r.2])) [] []) ∧ 0 ≤ r.1 ∧ r.1 ≤ ((n + 1 : Nat) : Int) := fun x ⟨k, s, os, bs, e, l1, l2, hos, hbs⟩ => by
      subst e
      have hpl : PL (.sl bs) := ⟨bs, rfl, l2, fun e he => by obtain ⟨nm, k, s, o, a, e1, _⟩ := hbs e he; exact ⟨nm, k, s, o, a, e1⟩⟩
      have hev : CallOk (cf m) (oneEv 14 (ct1 (TyN n) fun x => .ret (.t (.tup [.int .i64 (f x).1, .bool (f x).2])) [] []) (oneEv 40 (t1 .bool PS ft) (oneEv 41 (t2 .bool (fun x y => PL x ∧ y = .fn (.func 42)) fr) (oneEv 37 (t2 .bool (fun x y => PL x ∧ y = .fn (.func 43)) fc) noEv)))) :=
        oneEv_ok (ct1_ok h1) (oneEv_ok (t1_ok ht) (oneEv_ok (t2_ok hr) (oneEv_ok (t2_ok hc) noEv_ok)))
      obtain ⟨r, hrr⟩ := size_at hev n (by omega) (TyN n) (fun x hx => hx.form) (fun x => (f x).1) (fun x => (f x).2) (fun x hx => ct1_at (res := fun x => .ret (.t (.tup [.int .i64 (f x).1, .bool (f x).2])) [] []) hx) h2 (fun s => ft (.str s)) (fun s => ev_there rfl (t1_at ⟨s, rfl⟩))
        k s os bs l1 l2 hos hbs _ _ (ev_there rfl (ev_there rfl (t2_at ⟨hpl, rfl⟩))) (ev_there rfl (ev_there rfl (ev_there rfl (t2_at ⟨hpl, rfl⟩))))
      exact ⟨r.1, hrr, r.2.1, by have := r.2.2; push_cast; omega⟩
    obtain ⟨g, hg⟩ := choose_if key
    exact ⟨g, fun x hx => (hg x hx).1, fun x hx => (hg x hx).2⟩
end
end Go.Proofs.YtbahblehihbpkaaGreatDoor.w

namespace Go.Proofs.YtbahblehihbpkaaGreatDoor.w
open Go Go.Abs
set_option linter.unusedVariables false
set_option maxRecDepth 100000
set_option maxHeartbeats 1000000
noncomputable section


theorem ck_type {m : Int} {ev : CallF} (hev : CallOk (cf m) ev) (k : Int) (s : List UInt8) (os bs : List Tree) (d : Int) (hz : ev 14 [.t (.agg [.int .u8 k, .str s, .sl os, .sl bs])] [] = some (.ret (.t (.tup [.int .i64 d, .bool false])) [] [])) :
    ∃ _ : Unit, CallRel (cf m) 6 [.t (.agg [.int .u8 k, .str s, .sl os, .sl bs])] [] (.ret (.t (.int .i64 7)) [] []) := by
  refine AX.start 16 1 Tryz.func6 rfl (by decide) rfl rfl (by decide) ?_
  refine AX.seq ?_
  refine AX.region ?_
  refine AXo.go (f := 0) hev (d_box rfl rfl) ?_
  refine AXo.go (f := 0) hev (d_assign rfl) ?_
  refine AXo.nil ?_
  refine AX.seq ?_
  refine AX.region ?_
  refine AXo.go (f := 0) hev ((by first | exact d_loadT rfl (ld ty26 rfl rfl) | exact d_load rfl (ld ty26 rfl rfl))) ?_
  refine AXo.go (f := 0) hev (d_callT (rh1 rfl) hz) ?_
  refine AXo.go (f := 0) hev (d_move rfl) ?_
  refine AXo.go (f := 0) hev ((by first | exact d_extractT rfl rfl | exact d_extract rfl rfl)) ?_
  refine AXo.go (f := 0) hev ((by first | exact d_extractT rfl rfl | exact d_extract rfl rfl)) ?_
  refine AXo.go (f := 0) hev (d_assign rfl) ?_
  refine AXo.go (f := 0) hev (d_assign rfl) ?_
  refine AXo.nil ?_
  refine AX.seq ?_
  refine AX.block ?_
  refine AX.seq ?_
  refine AX.region ?_
  refine AXo.go (f := 0) hev (d_move rfl) ?_
  refine AXo.go (f := 0) hev (d_not rfl) ?_
  refine AXo.go (f := 0) hev (d_assign rfl) ?_
  refine AXo.nil ?_
  refine AX.condT rfl (by decide) ?_
  refine AX.seq ?_
  refine AX.region ?_
  refine AXo.go (f := 0) hev (d_assign rfl) ?_
  refine AXo.nil ?_
  refine AX.ret ?_
  refine AX.outRet ?_
  refine AX.thenRet ?_
  exact ⟨(), .inl rfl⟩

theorem ck_depth {m : Int} {ev : CallF} (hev : CallOk (cf m) ev) (k : Int) (s : List UInt8) (os bs : List Tree) (d : Int) (hd : d > 8) (hz : ev 14 [.t (.agg [.int .u8 k, .str s, .sl os, .sl bs])] [] = some (.ret (.t (.tup [.int .i64 d, .bool true])) [] [])) :
    ∃ _ : Unit, CallRel (cf m) 6 [.t (.agg [.int .u8 k, .str s, .sl os, .sl bs])] [] (.ret (.t (.int .i64 4)) [] []) := by
  refine AX.start 16 1 Tryz.func6 rfl (by decide) rfl rfl (by decide) ?_
  refine AX.seq ?_
  refine AX.region ?_
  refine AXo.go (f := 0) hev (d_box rfl rfl) ?_
  refine AXo.go (f := 0) hev (d_assign rfl) ?_
  refine AXo.nil ?_
  refine AX.seq ?_
  refine AX.region ?_
  refine AXo.go (f := 0) hev ((by first | exact d_loadT rfl (ld ty26 rfl rfl) | exact d_load rfl (ld ty26 rfl rfl))) ?_
  refine AXo.go (f := 0) hev (d_callT (rh1 rfl) hz) ?_
  refine AXo.go (f := 0) hev (d_move rfl) ?_
  refine AXo.go (f := 0) hev ((by first | exact d_extractT rfl rfl | exact d_extract rfl rfl)) ?_
  refine AXo.go (f := 0) hev ((by first | exact d_extractT rfl rfl | exact d_extract rfl rfl)) ?_
  refine AXo.go (f := 0) hev (d_assign rfl) ?_
  refine AXo.go (f := 0) hev (d_assign rfl) ?_
  refine AXo.nil ?_
  refine AX.seq ?_
  refine AX.block ?_
  refine AX.seq ?_
  refine AX.region ?_
  refine AXo.go (f := 0) hev (d_move rfl) ?_
  refine AXo.go (f := 0) hev (d_not rfl) ?_
  refine AXo.go (f := 0) hev (d_assign rfl) ?_
  refine AXo.nil ?_
  refine AX.condF rfl (by decide) ?_
  refine AX.seq ?_
  refine AX.region ?_
  refine AXo.go (f := 0) hev (d_move rfl) ?_
  refine AXo.go (f := 0) hev (d_gtI rfl rfl) ?_
  refine AXo.go (f := 0) hev (d_assign rfl) ?_
  refine AXo.nil ?_
  refine AX.condT rfl (decide_eq_true hd) ?_
  refine AX.seq ?_
  refine AX.region ?_
  refine AXo.go (f := 0) hev (d_assign rfl) ?_
  refine AXo.nil ?_
  refine AX.ret ?_
  refine AX.outRet ?_
  refine AX.thenRet ?_
  exact ⟨(), .inl rfl⟩

theorem ck_ok {m : Int} {ev : CallF} (hev : CallOk (cf m) ev) (k : Int) (s : List UInt8) (os bs : List Tree) (d : Int) (hd : ¬ d > 8) (hz : ev 14 [.t (.agg [.int .u8 k, .str s, .sl os, .sl bs])] [] = some (.ret (.t (.tup [.int .i64 d, .bool true])) [] [])) :
    ∃ _ : Unit, CallRel (cf m) 6 [.t (.agg [.int .u8 k, .str s, .sl os, .sl bs])] [] (.ret (.t (.int .i64 0)) [] []) := by
  refine AX.start 16 1 Tryz.func6 rfl (by decide) rfl rfl (by decide) ?_
  refine AX.seq ?_
  refine AX.region ?_
  refine AXo.go (f := 0) hev (d_box rfl rfl) ?_
  refine AXo.go (f := 0) hev (d_assign rfl) ?_
  refine AXo.nil ?_
  refine AX.seq ?_
  refine AX.region ?_
  refine AXo.go (f := 0) hev ((by first | exact d_loadT rfl (ld ty26 rfl rfl) | exact d_load rfl (ld ty26 rfl rfl))) ?_
  refine AXo.go (f := 0) hev (d_callT (rh1 rfl) hz) ?_
  refine AXo.go (f := 0) hev (d_move rfl) ?_
  refine AXo.go (f := 0) hev ((by first | exact d_extractT rfl rfl | exact d_extract rfl rfl)) ?_
  refine AXo.go (f := 0) hev ((by first | exact d_extractT rfl rfl | exact d_extract rfl rfl)) ?_
  refine AXo.go (f := 0) hev (d_assign rfl) ?_
  refine AXo.go (f := 0) hev (d_assign rfl) ?_
  refine AXo.nil ?_
  refine AX.seq ?_
  refine AX.block ?_
  refine AX.seq ?_
  refine AX.region ?_
  refine AXo.go (f := 0) hev (d_move rfl) ?_
  refine AXo.go (f := 0) hev (d_not rfl) ?_
  refine AXo.go (f := 0) hev (d_assign rfl) ?_
  refine AXo.nil ?_
  refine AX.condF rfl (by decide) ?_
  refine AX.seq ?_
  refine AX.region ?_
  refine AXo.go (f := 0) hev (d_move rfl) ?_
  refine AXo.go (f := 0) hev (d_gtI rfl rfl) ?_
  refine AXo.go (f := 0) hev (d_assign rfl) ?_
  refine AXo.nil ?_
  refine AX.condF rfl (decide_eq_false hd) ?_
  refine AX.skip ?_
  refine AX.outNormal ?_
  refine AX.seq ?_
  refine AX.region ?_
  refine AXo.go (f := 0) hev (d_assign rfl) ?_
  refine AXo.nil ?_
  refine AX.ret ?_
  exact ⟨(), .inl rfl⟩

theorem size_set {m : Int} {ev : CallF} (hev : CallOk (cf m) ev) (k : Int) (s : List UInt8) (os bs : List Tree) (d : Int) (o : Bool) (h0 : 0 ≤ d) (h1 : d ≤ 8388608) (hz : ev 14 [.t (.agg [.int .u8 k, .str s, .sl os, .sl bs])] [] = some (.ret (.t (.tup [.int .i64 d, .bool o])) [] [])) :
    ∃ _ : Unit, CallRel (cf m) 14 [.t (.agg [.int .u8 5, .str [], .sl [.agg [.int .u8 k, .str s, .sl os, .sl bs]], .sl []])] [] (.ret (.t (.tup [.int .i64 (max 0 d + 1), .bool o])) [] []) := by
  refine AX.start 119 1 Tryz.func14 rfl (by decide) rfl rfl (by decide) ?_
  refine AX.seq ?_
  refine AX.region ?_
  refine AXo.go (f := 0) hev (d_box rfl rfl) ?_
  refine AXo.go (f := 0) hev (d_assign rfl) ?_
  refine AXo.go (f := 0) hev (d_assign rfl) ?_
  refine AXo.nil ?_
  refine AX.seq ?_
  refine AX.region ?_
  refine AXo.go (f := 0) hev (d_fieldAddr rfl fo26_1 rfl) ?_
  refine AXo.go (f := 0) hev ((by first | exact d_loadT rfl (ld ty9 rfl rfl) | exact d_load rfl (ld ty9 rfl rfl))) ?_
  refine AXo.go (f := 0) hev (d_eqS rfl rfl) ?_
  refine AXo.go (f := 0) hev (d_move rfl) ?_
  refine AXo.no rfl rfl rfl (beqTF rfl) ?_
  refine AXo.no rfl rfl rfl (beqTF rfl) ?_
  refine AXo.no rfl rfl rfl (beqTF rfl) ?_
  refine AXo.go (f := 0) hev (d_pickT rfl rfl rfl rfl) ?_
  refine AXo.go (f := 0) hev (d_move rfl) ?_
  refine AXo.yes (f := 0) hev rfl rfl rfl (beqTT rfl) (d_fieldAddr rfl fo26_3 rfl) ?_
  refine AXo.yes (f := 0) hev rfl rfl rfl (beqTT rfl) ((by first | exact d_loadT rfl (ld ty24 rfl rfl) | exact d_load rfl (ld ty24 rfl rfl))) ?_
  refine AXo.yes (f := 0) hev rfl rfl rfl (beqTT rfl) ((by first | exact d_lenT rfl ty24 rfl | exact d_lenR rfl ty24 rfl | exact d_lenN rfl ty24 rfl | exact d_lenG rfl ty24 rfl)) ?_
  refine AXo.yes (f := 0) hev rfl rfl rfl (beqTT rfl) (d_eqI rfl rfl) ?_
  refine AXo.yes (f := 0) hev rfl rfl rfl (beqTT rfl) (d_move rfl) ?_
  refine AXo.no rfl rfl rfl (beqTF rfl) ?_
  refine AXo.no rfl rfl rfl (beqTF rfl) ?_
  refine AXo.no rfl rfl rfl (beqTF rfl) ?_
  refine AXo.yes (f := 0) hev rfl rfl rfl (beqTT rfl) (d_pickT rfl rfl rfl rfl) ?_
  refine AXo.go (f := 0) hev (d_pickT rfl rfl rfl rfl) ?_
  refine AXo.go (f := 0) hev (d_move rfl) ?_
  refine AXo.yes (f := 0) hev rfl rfl rfl (beqTT rfl) (d_fieldAddr rfl fo26_0 rfl) ?_
  refine AXo.yes (f := 0) hev rfl rfl rfl (beqTT rfl) ((by first | exact d_loadT rfl (ld ty22 rfl rfl) | exact d_load rfl (ld ty22 rfl rfl))) ?_
  refine AXo.yes (f := 0) hev rfl rfl rfl (beqTT rfl) (d_ltI rfl rfl) ?_
  refine AXo.go (f := 0) hev (d_pickT rfl rfl rfl rfl) ?_
  refine AXo.go (f := 0) hev (d_assign rfl) ?_
  refine AXo.nil ?_
  refine AX.seq ?_
  refine AX.region ?_
  refine AXo.go (f := 0) hev (d_fieldAddr rfl fo26_2 rfl) ?_
  refine AXo.go (f := 0) hev ((by first | exact d_loadT rfl (ld ty23 rfl rfl) | exact d_load rfl (ld ty23 rfl rfl))) ?_
  refine AXo.go (f := 0) hev (d_assign rfl) ?_
  refine AXo.nil ?_
  refine AX.seq ?_
  refine AX.seq ?_
  refine AX.region ?_
  refine AXo.go (f := 0) hev (d_fieldAddr rfl fo26_0 rfl) ?_
  refine AXo.go (f := 0) hev ((by first | exact d_loadT rfl (ld ty22 rfl rfl) | exact d_load rfl (ld ty22 rfl rfl))) ?_
  refine AXo.nil ?_
  refine AX.block ?_
  refine AX.seq ?_
  refine AX.region ?_
  refine AXo.go (f := 0) hev (d_eqI rfl rfl) ?_
  refine AXo.go (f := 0) hev (d_assign rfl) ?_
  refine AXo.nil ?_
  refine AX.condF rfl (by decide) ?_
  refine AX.seq ?_
  refine AX.region ?_
  refine AXo.go (f := 0) hev (d_eqI rfl rfl) ?_
  refine AXo.go (f := 0) hev (d_assign rfl) ?_
  refine AXo.nil ?_
  refine AX.condF rfl (by decide) ?_
  refine AX.skip ?_
  refine AX.outNormal ?_
  refine AX.seq ?_
  refine AX.region ?_
  refine AXo.go (f := 0) hev (d_assign rfl) ?_
  refine AXo.nil ?_
  refine AX.seq ?_
  refine AX.seq ?_
  refine AX.region ?_
  refine AXo.go (f := 0) hev (d_fieldAddr rfl fo26_0 rfl) ?_
  refine AXo.go (f := 0) hev ((by first | exact d_loadT rfl (ld ty22 rfl rfl) | exact d_load rfl (ld ty22 rfl rfl))) ?_
  refine AXo.go (f := 0) hev (d_eqI rfl rfl) ?_
  refine AXo.nil ?_
  refine AX.condT rfl (by decide) ?_
  refine AX.region ?_
  refine AXo.go (f := 0) hev (d_assign rfl) ?_
  refine AXo.nil ?_
  refine AX.seq ?_
  refine AX.region ?_
  refine AXo.go (f := 0) hev (d_move rfl) ?_
  refine AXo.go (f := 0) hev (d_move rfl) ?_
  refine AXo.yes (f := 0) hev rfl rfl rfl (beqTT rfl) (d_fieldAddr rfl fo26_2 rfl) ?_
  refine AXo.yes (f := 0) hev rfl rfl rfl (beqTT rfl) ((by first | exact d_loadT rfl (ld ty23 rfl rfl) | exact d_load rfl (ld ty23 rfl rfl))) ?_
  refine AXo.yes (f := 0) hev rfl rfl rfl (beqTT rfl) ((by first | exact d_lenT rfl ty23 rfl | exact d_lenR rfl ty23 rfl | exact d_lenN rfl ty23 rfl | exact d_lenG rfl ty23 rfl)) ?_
  refine AXo.yes (f := 0) hev rfl rfl rfl (beqTT rfl) (d_move rfl) ?_
  refine AXo.yes (f := 0) hev rfl rfl rfl (beqTT rfl) (d_eqI rfl rfl) ?_
  refine AXo.go (f := 0) hev (d_pickT rfl rfl rfl rfl) ?_
  refine AXo.go (f := 0) hev (d_assign rfl) ?_
  refine AXo.nil ?_
  refine AX.seq ?_
  refine AX.seq ?_
  refine AX.region ?_
  refine AXo.go (f := 0) hev (d_move rfl) ?_
  refine AXo.go (f := 0) hev ((by first | exact d_lenT rfl ty23 rfl | exact d_lenR rfl ty23 rfl | exact d_lenN rfl ty23 rfl | exact d_lenG rfl ty23 rfl)) ?_
  refine AXo.go (f := 0) hev (d_move rfl) ?_
  refine AXo.nil ?_
  refine AX.block ?_
  refine AX.loop (α := Bool) (fun x => match x with | false => ⟨frm 119 [(1, .ptr (.loc [0]) 0), (2, .t (.int .i64 0)), (3, .t (.bool true)), (97, .t (.sl [.agg [.int .u8 k, .str s, .sl os, .sl bs]])), (98, .t (.int .i64 1)), (99, .t (.int .i64 0))], [(.loc [0], .cells 26 [.t (.int .u8 5), .t (.str []), .t (.sl [.agg [.int .u8 k, .str s, .sl os, .sl bs]]), .t (.sl [])])], 1⟩ | true => ⟨frm 119 [(1, .ptr (.loc [0]) 0), (2, .t (.int .i64 (max 0 d))), (3, .t (.bool o)), (97, .t (.sl [.agg [.int .u8 k, .str s, .sl os, .sl bs]])), (98, .t (.int .i64 1)), (99, .t (.int .i64 1))], [(.loc [0], .cells 26 [.t (.int .u8 5), .t (.str []), .t (.sl [.agg [.int .u8 k, .str s, .sl os, .sl bs]]), .t (.sl [])])], 1⟩) (fun _ => True) (fun x => match x with | false => 1 | true => 0) false (Re.sq [.loc [0]] ⟨rfl, rfl, rfl, rfl, rfl, rfl, trivial⟩ ⟨⟨.loc [0], _, rfl, rfl, .inl rfl⟩, trivial⟩ (by decide) rfl rfl (by decide)) trivial (fun x _ => ?_)
  cases x
  · show AX _ _ ⟨frm 119 [(1, .ptr (.loc [0]) 0), (2, .t (.int .i64 0)), (3, .t (.bool true)), (97, .t (.sl [.agg [.int .u8 k, .str s, .sl os, .sl bs]])), (98, .t (.int .i64 1)), (99, .t (.int .i64 0))], [(.loc [0], .cells 26 [.t (.int .u8 5), .t (.str []), .t (.sl [.agg [.int .u8 k, .str s, .sl os, .sl bs]]), .t (.sl [])])], 1⟩ _
    refine AX.seq ?_
    refine AX.region ?_
    refine AXo.go (f := 0) hev (d_ltI rfl rfl) ?_
    refine AXo.nil ?_
    refine AX.seq ?_
    refine AX.condT rfl (by decide) ?_
    refine AX.skip ?_
    refine AX.seq ?_
    refine AX.block ?_
    refine AX.seq ?_
    refine AX.region ?_
    refine AXo.go (f := 0) hev (d_indexT (m := 0) rfl rfl ty23 rfl ty26 rfl rfl) ?_
    refine AXo.go (f := 0) hev ((by first | exact d_loadT rfl (ld ty26 rfl rfl) | exact d_load rfl (ld ty26 rfl rfl))) ?_
    refine AXo.go (f := 0) hev (d_alloc ty26 rfl rfl) ?_
    refine AXo.go0 (f := 0) hev (d_store rfl rfl (stt ty26 rfl rfl)) ?_
    refine AXo.nil ?_
    refine AX.seq ?_
    refine AX.region ?_
    refine AXo.go (f := 0) hev ((by first | exact d_loadT rfl (ld ty26 rfl rfl) | exact d_load rfl (ld ty26 rfl rfl))) ?_
    refine AXo.go (f := 0) hev (d_callT (rh1 rfl) hz) ?_
    refine AXo.go (f := 0) hev (d_move rfl) ?_
    refine AXo.go (f := 0) hev ((by first | exact d_extractT rfl rfl | exact d_extract rfl rfl)) ?_
    refine AXo.go (f := 0) hev ((by first | exact d_extractT rfl rfl | exact d_extract rfl rfl)) ?_
    refine AXo.go (f := 0) hev (d_assign rfl) ?_
    refine AXo.go (f := 0) hev (d_assign rfl) ?_
    refine AXo.nil ?_
    refine AX.region ?_
    refine AXo.go (f := 0) hev (d_move rfl) ?_
    refine AXo.go (f := 0) hev (d_move rfl) ?_
    refine AXo.go (f := 0) hev (d_max rfl rfl) ?_
    refine AXo.go (f := 0) hev (d_move rfl) ?_
    refine AXo.go (f := 0) hev (d_move rfl) ?_
    refine AXo.yes (f := 0) hev rfl rfl rfl (beqTT rfl) (d_move rfl) ?_
    refine AXo.go (f := 0) hev (d_pickT rfl rfl rfl rfl) ?_
    refine AXo.go (f := 0) hev (d_assign rfl) ?_
    refine AXo.go (f := 0) hev (d_assign rfl) ?_
    refine AXo.nil ?_
    refine AX.outNormal ?_
    refine AX.region ?_
    refine AXo.go (f := 0) hev (d_add64 rfl rfl (by omega) (by omega)) ?_
    refine AXo.go (f := 0) hev (d_move rfl) ?_
    refine AXo.nil ?_
    exact ⟨.inl ⟨true, trivial, by decide⟩, rfl, (Re.sq [.loc [0]] ⟨rfl, rfl, rfl, rfl, rfl, rfl, trivial⟩ ⟨⟨.loc [0], _, rfl, rfl, .inl rfl⟩, trivial⟩ (by decide) rfl rfl (by decide))⟩
  · show AX _ _ ⟨frm 119 [(1, .ptr (.loc [0]) 0), (2, .t (.int .i64 (max 0 d))), (3, .t (.bool o)), (97, .t (.sl [.agg [.int .u8 k, .str s, .sl os, .sl bs]])), (98, .t (.int .i64 1)), (99, .t (.int .i64 1))], [(.loc [0], .cells 26 [.t (.int .u8 5), .t (.str []), .t (.sl [.agg [.int .u8 k, .str s, .sl os, .sl bs]]), .t (.sl [])])], 1⟩ _
    refine AX.seq ?_
    refine AX.region ?_
    refine AXo.go (f := 0) hev (d_ltI rfl rfl) ?_
    refine AXo.nil ?_
    refine AX.seq ?_
    refine AX.condF rfl (by decide) ?_
    refine AX.exit ?_
    refine AX.thenExit ?_
    refine AX.leave (e := .exit 3) (by simp) ?_
    refine AX.outHere ?_
    refine AX.seq ?_
    refine AX.region ?_
    refine AXo.go (f := 0) hev (d_move rfl) ?_
    refine AXo.go (f := 0) hev (d_add64 rfl rfl (by omega) (by omega)) ?_
    refine AXo.go (f := 0) hev (d_move rfl) ?_
    refine AXo.go (f := 0) hev (d_assign rfl) ?_
    refine AXo.go (f := 0) hev (d_assign rfl) ?_
    refine AXo.nil ?_
    refine AX.ret ?_
    exact ⟨(), .inl rfl⟩

theorem size_rec {m : Int} {ev : CallF} (hev : CallOk (cf m) ev) (k : Int) (s : List UInt8) (os bs : List Tree) (d : Int) (o : Bool) (h0 : 0 ≤ d) (h1 : d ≤ 8388608) (hR : ev 41 [.t (.sl [.agg [.str [97], .int .u8 k, .str s, .sl os, .sl bs]]), .t (.fn (.func 42))] [] = some (.ret (.t (.bool true)) [] [])) (hC : ev 37 [.t (.sl [.agg [.str [97], .int .u8 k, .str s, .sl os, .sl bs]]), .t (.fn (.func 43))] [] = some (.ret (.t (.bool false)) [] [])) (hz : ev 14 [.t (.agg [.int .u8 k, .str s, .sl os, .sl bs])] [] = some (.ret (.t (.tup [.int .i64 d, .bool o])) [] [])) :
    ∃ _ : Unit, CallRel (cf m) 14 [.t (.agg [.int .u8 6, .str [], .sl [], .sl [.agg [.str [97], .int .u8 k, .str s, .sl os, .sl bs]]])] [] (.ret (.t (.tup [.int .i64 (max 0 d + 1), .bool o])) [] []) := by
  refine AX.start 119 1 Tryz.func14 rfl (by decide) rfl rfl (by decide) ?_
  refine AX.seq ?_
  refine AX.region ?_
  refine AXo.go (f := 0) hev (d_box rfl rfl) ?_
  refine AXo.go (f := 0) hev (d_assign rfl) ?_
  refine AXo.go (f := 0) hev (d_assign rfl) ?_
  refine AXo.nil ?_
  refine AX.seq ?_
  refine AX.region ?_
  refine AXo.go (f := 0) hev (d_fieldAddr rfl fo26_1 rfl) ?_
  refine AXo.go (f := 0) hev ((by first | exact d_loadT rfl (ld ty9 rfl rfl) | exact d_load rfl (ld ty9 rfl rfl))) ?_
  refine AXo.go (f := 0) hev (d_eqS rfl rfl) ?_
  refine AXo.go (f := 0) hev (d_move rfl) ?_
  refine AXo.no rfl rfl rfl (beqTF rfl) ?_
  refine AXo.no rfl rfl rfl (beqTF rfl) ?_
  refine AXo.no rfl rfl rfl (beqTF rfl) ?_
  refine AXo.go (f := 0) hev (d_pickT rfl rfl rfl rfl) ?_
  refine AXo.go (f := 0) hev (d_move rfl) ?_
  refine AXo.yes (f := 0) hev rfl rfl rfl (beqTT rfl) (d_fieldAddr rfl fo26_3 rfl) ?_
  refine AXo.yes (f := 0) hev rfl rfl rfl (beqTT rfl) ((by first | exact d_loadT rfl (ld ty24 rfl rfl) | exact d_load rfl (ld ty24 rfl rfl))) ?_
  refine AXo.yes (f := 0) hev rfl rfl rfl (beqTT rfl) ((by first | exact d_lenT rfl ty24 rfl | exact d_lenR rfl ty24 rfl | exact d_lenN rfl ty24 rfl | exact d_lenG rfl ty24 rfl)) ?_
  refine AXo.yes (f := 0) hev rfl rfl rfl (beqTT rfl) (d_eqI rfl rfl) ?_
  refine AXo.yes (f := 0) hev rfl rfl rfl (beqTT rfl) (d_move rfl) ?_
  refine AXo.yes (f := 0) hev rfl rfl rfl (beqFF rfl) (d_fieldAddr rfl fo26_0 rfl) ?_
  refine AXo.yes (f := 0) hev rfl rfl rfl (beqFF rfl) ((by first | exact d_loadT rfl (ld ty22 rfl rfl) | exact d_load rfl (ld ty22 rfl rfl))) ?_
  refine AXo.yes (f := 0) hev rfl rfl rfl (beqFF rfl) (d_eqI rfl rfl) ?_
  refine AXo.yes (f := 0) hev rfl rfl rfl (beqTT rfl) (d_pickF rfl rfl rfl rfl) ?_
  refine AXo.go (f := 0) hev (d_pickT rfl rfl rfl rfl) ?_
  refine AXo.go (f := 0) hev (d_move rfl) ?_
  refine AXo.yes (f := 0) hev rfl rfl rfl (beqTT rfl) (d_fieldAddr rfl fo26_0 rfl) ?_
  refine AXo.yes (f := 0) hev rfl rfl rfl (beqTT rfl) ((by first | exact d_loadT rfl (ld ty22 rfl rfl) | exact d_load rfl (ld ty22 rfl rfl))) ?_
  refine AXo.yes (f := 0) hev rfl rfl rfl (beqTT rfl) (d_ltI rfl rfl) ?_
  refine AXo.go (f := 0) hev (d_pickT rfl rfl rfl rfl) ?_
  refine AXo.go (f := 0) hev (d_assign rfl) ?_
  refine AXo.nil ?_
  refine AX.seq ?_
  refine AX.region ?_
  refine AXo.go (f := 0) hev (d_fieldAddr rfl fo26_2 rfl) ?_
  refine AXo.go (f := 0) hev ((by first | exact d_loadT rfl (ld ty23 rfl rfl) | exact d_load rfl (ld ty23 rfl rfl))) ?_
  refine AXo.go (f := 0) hev (d_assign rfl) ?_
  refine AXo.nil ?_
  refine AX.seq ?_
  refine AX.seq ?_
  refine AX.region ?_
  refine AXo.go (f := 0) hev (d_fieldAddr rfl fo26_0 rfl) ?_
  refine AXo.go (f := 0) hev ((by first | exact d_loadT rfl (ld ty22 rfl rfl) | exact d_load rfl (ld ty22 rfl rfl))) ?_
  refine AXo.nil ?_
  refine AX.block ?_
  refine AX.seq ?_
  refine AX.region ?_
  refine AXo.go (f := 0) hev (d_eqI rfl rfl) ?_
  refine AXo.go (f := 0) hev (d_assign rfl) ?_
  refine AXo.nil ?_
  refine AX.condF rfl (by decide) ?_
  refine AX.seq ?_
  refine AX.region ?_
  refine AXo.go (f := 0) hev (d_eqI rfl rfl) ?_
  refine AXo.go (f := 0) hev (d_assign rfl) ?_
  refine AXo.nil ?_
  refine AX.condT rfl (by decide) ?_
  refine AX.seq ?_
  refine AX.region ?_
  refine AXo.go (f := 0) hev (d_move rfl) ?_
  refine AXo.go (f := 0) hev (d_move rfl) ?_
  refine AXo.yes (f := 0) hev rfl rfl rfl (beqTT rfl) (d_fieldAddr rfl fo26_3 rfl) ?_
  refine AXo.yes (f := 0) hev rfl rfl rfl (beqTT rfl) ((by first | exact d_loadT rfl (ld ty24 rfl rfl) | exact d_load rfl (ld ty24 rfl rfl))) ?_
  refine AXo.yes (f := 0) hev rfl rfl rfl (beqTT rfl) ((by first | exact d_lenT rfl ty24 rfl | exact d_lenR rfl ty24 rfl | exact d_lenN rfl ty24 rfl | exact d_lenG rfl ty24 rfl)) ?_
  refine AXo.yes (f := 0) hev rfl rfl rfl (beqTT rfl) (d_leI rfl rfl) ?_
  refine AXo.go (f := 0) hev (d_pickT rfl rfl rfl rfl) ?_
  refine AXo.go (f := 0) hev (d_move rfl) ?_
  refine AXo.yes (f := 0) hev rfl rfl rfl (beqTT rfl) (d_fieldAddr rfl fo26_3 rfl) ?_
  refine AXo.yes (f := 0) hev rfl rfl rfl (beqTT rfl) ((by first | exact d_loadT rfl (ld ty24 rfl rfl) | exact d_load rfl (ld ty24 rfl rfl))) ?_
  refine AXo.yes (f := 0) hev rfl rfl rfl (beqTT rfl) (d_callT (rh2 rfl rfl) hR) ?_
  refine AXo.go (f := 0) hev (d_pickT rfl rfl rfl rfl) ?_
  refine AXo.go (f := 0) hev (d_move rfl) ?_
  refine AXo.yes (f := 0) hev rfl rfl rfl (beqTT rfl) (d_fieldAddr rfl fo26_3 rfl) ?_
  refine AXo.yes (f := 0) hev rfl rfl rfl (beqTT rfl) ((by first | exact d_loadT rfl (ld ty24 rfl rfl) | exact d_load rfl (ld ty24 rfl rfl))) ?_
  refine AXo.yes (f := 0) hev rfl rfl rfl (beqTT rfl) (d_callT (rh2 rfl rfl) hC) ?_
  refine AXo.yes (f := 0) hev rfl rfl rfl (beqTT rfl) (d_not rfl) ?_
  refine AXo.go (f := 0) hev (d_pickT rfl rfl rfl rfl) ?_
  refine AXo.go (f := 0) hev (d_assign rfl) ?_
  refine AXo.nil ?_
  refine AX.seq ?_
  refine AX.region ?_
  refine AXo.go (f := 0) hev (d_fieldAddr rfl fo26_3 rfl) ?_
  refine AXo.go (f := 0) hev ((by first | exact d_loadT rfl (ld ty24 rfl rfl) | exact d_load rfl (ld ty24 rfl rfl))) ?_
  refine AXo.go (f := 0) hev ((by first | exact d_lenT rfl ty24 rfl | exact d_lenR rfl ty24 rfl | exact d_lenN rfl ty24 rfl | exact d_lenG rfl ty24 rfl)) ?_
  refine AXo.go (f := 0) hev (d_move rfl) ?_
  refine AXo.nil ?_
  refine AX.block ?_
  refine AX.loop (α := Bool) (fun x => match x with | false => ⟨frm 119 [(1, .ptr (.loc [0]) 0), (2, .t (.int .i64 0)), (3, .t (.bool true)), (4, .t (.sl [])), (39, .t (.int .u8 6)), (69, .t (.sl [.agg [.str [97], .int .u8 k, .str s, .sl os, .sl bs]])), (70, .t (.int .i64 1)), (71, .t (.int .i64 0))], [(.loc [0], .cells 26 [.t (.int .u8 6), .t (.str []), .t (.sl []), .t (.sl [.agg [.str [97], .int .u8 k, .str s, .sl os, .sl bs]])])], 1⟩ | true => ⟨frm 119 [(1, .ptr (.loc [0]) 0), (2, .t (.int .i64 0)), (3, .t (.bool true)), (4, .t (.sl [.agg [.int .u8 k, .str s, .sl os, .sl bs]])), (39, .t (.int .u8 6)), (69, .t (.sl [.agg [.str [97], .int .u8 k, .str s, .sl os, .sl bs]])), (70, .t (.int .i64 1)), (71, .t (.int .i64 1))], [(.loc [0], .cells 26 [.t (.int .u8 6), .t (.str []), .t (.sl []), .t (.sl [.agg [.str [97], .int .u8 k, .str s, .sl os, .sl bs]])])], 1⟩) (fun _ => True) (fun x => match x with | false => 1 | true => 0) false (Re.sq [.loc [0]] ⟨rfl, rfl, rfl, rfl, rfl, rfl, rfl, rfl, trivial⟩ ⟨⟨.loc [0], _, rfl, rfl, .inl rfl⟩, trivial⟩ (by decide) rfl rfl (by decide)) trivial (fun x _ => ?_)
  cases x
  · show AX _ _ ⟨frm 119 [(1, .ptr (.loc [0]) 0), (2, .t (.int .i64 0)), (3, .t (.bool true)), (4, .t (.sl [])), (39, .t (.int .u8 6)), (69, .t (.sl [.agg [.str [97], .int .u8 k, .str s, .sl os, .sl bs]])), (70, .t (.int .i64 1)), (71, .t (.int .i64 0))], [(.loc [0], .cells 26 [.t (.int .u8 6), .t (.str []), .t (.sl []), .t (.sl [.agg [.str [97], .int .u8 k, .str s, .sl os, .sl bs]])])], 1⟩ _
    refine AX.seq ?_
    refine AX.region ?_
    refine AXo.go (f := 0) hev (d_ltI rfl rfl) ?_
    refine AXo.nil ?_
    refine AX.seq ?_
    refine AX.condT rfl (by decide) ?_
    refine AX.skip ?_
    refine AX.seq ?_
    refine AX.block ?_
    refine AX.seq ?_
    refine AX.region ?_
    refine AXo.go (f := 0) hev (d_indexT (m := 0) rfl rfl ty24 rfl ty31 rfl rfl) ?_
    refine AXo.go (f := 0) hev ((by first | exact d_loadT rfl (ld ty31 rfl rfl) | exact d_load rfl (ld ty31 rfl rfl))) ?_
    refine AXo.go (f := 0) hev (d_alloc ty31 rfl rfl) ?_
    refine AXo.go0 (f := 0) hev (d_store rfl rfl (stt ty31 rfl rfl)) ?_
    refine AXo.nil ?_
    refine AX.draw (f := 0) orders hev ?_
    refine AXd.go rfl (d_move rfl) ?_
    refine AXd.go rfl (d_move rfl) ?_
    refine AXd.go rfl ((by first | exact d_lenT rfl ty23 rfl | exact d_lenR rfl ty23 rfl | exact d_lenN rfl ty23 rfl | exact d_lenG rfl ty23 rfl)) ?_
    refine AXd.go rfl (d_move rfl) ?_
    refine AXd.go rfl ((by first | exact d_lenT rfl ty23 rfl | exact d_lenR rfl ty23 rfl | exact d_lenN rfl ty23 rfl | exact d_lenG rfl ty23 rfl)) ?_
    refine AXd.go rfl (d_cut rfl rfl rfl ty23 rfl ty26 rfl) ?_
    refine AXd.go rfl (d_fieldAddr rfl fo31_1 rfl) ?_
    refine AXd.go rfl ((by first | exact d_loadT rfl (ld ty26 rfl rfl) | exact d_load rfl (ld ty26 rfl rfl))) ?_
    refine AXd.go rfl (d_lit1 rfl rfl ty23 rfl ty26 rfl rfl ⟨rfl, rfl, rfl⟩) ?_
    refine AXd.go rfl (d_appT app23 rfl rfl (.inr rfl) (uni_one ⟨rfl, rfl, rfl⟩) Uni.nil (by simp) (by show (0 + 1) * 72 ≤ 70368744177664; decide)) ?_
    refine AXd.go rfl (d_assign rfl) ?_
    refine AXd.nil (ex_and2 rfl rfl ?_)
    refine AX.outNormal ?_
    refine AX.region ?_
    refine AXo.go (f := 0) hev (d_add64 rfl rfl (by omega) (by omega)) ?_
    refine AXo.go (f := 0) hev (d_move rfl) ?_
    refine AXo.nil ?_
    refine ⟨.inl ⟨true, trivial, by decide⟩, rfl, ?_⟩
    refine Re.trans (Re.freeze (d := 4) (N := 2) (H' := [(.loc [0], .cells 26 [.t (.int .u8 6), .t (.str []), .t (.sl []), .t (.sl [.agg [.str [97], .int .u8 k, .str s, .sl os, .sl bs]])])]) (frz_row (es := [] ++ [.agg [.int .u8 k, .str s, .sl os, .sl bs]]) rfl (Uni.nil.append (uni_one ⟨rfl, rfl, rfl⟩)) (by show (0 : Nat) < 4; decide) rfl) (one_heap rfl (by decide)) (by decide)) ?_
    exact (Re.sq [.loc [0]] ⟨rfl, rfl, rfl, rfl, rfl, rfl, rfl, rfl, trivial⟩ ⟨⟨.loc [0], _, rfl, rfl, .inl rfl⟩, trivial⟩ (by decide) rfl rfl (by decide))
  · show AX _ _ ⟨frm 119 [(1, .ptr (.loc [0]) 0), (2, .t (.int .i64 0)), (3, .t (.bool true)), (4, .t (.sl [.agg [.int .u8 k, .str s, .sl os, .sl bs]])), (39, .t (.int .u8 6)), (69, .t (.sl [.agg [.str [97], .int .u8 k, .str s, .sl os, .sl bs]])), (70, .t (.int .i64 1)), (71, .t (.int .i64 1))], [(.loc [0], .cells 26 [.t (.int .u8 6), .t (.str []), .t (.sl []), .t (.sl [.agg [.str [97], .int .u8 k, .str s, .sl os, .sl bs]])])], 1⟩ _
    refine AX.seq ?_
    refine AX.region ?_
    refine AXo.go (f := 0) hev (d_ltI rfl rfl) ?_
    refine AXo.nil ?_
    refine AX.seq ?_
    refine AX.condF rfl (by decide) ?_
    refine AX.exit ?_
    refine AX.thenExit ?_
    refine AX.leave (e := .exit 1) (by simp) ?_
    refine AX.outHere ?_
    refine AX.outNormal ?_
    refine AX.seq ?_
    refine AX.region ?_
    refine AXo.go (f := 0) hev (d_assign rfl) ?_
    refine AXo.nil ?_
    refine AX.seq ?_
    refine AX.seq ?_
    refine AX.region ?_
    refine AXo.go (f := 0) hev (d_fieldAddr rfl fo26_0 rfl) ?_
    refine AXo.go (f := 0) hev ((by first | exact d_loadT rfl (ld ty22 rfl rfl) | exact d_load rfl (ld ty22 rfl rfl))) ?_
    refine AXo.go (f := 0) hev (d_eqI rfl rfl) ?_
    refine AXo.nil ?_
    refine AX.condF rfl (by decide) ?_
    refine AX.skip ?_
    refine AX.seq ?_
    refine AX.region ?_
    refine AXo.go (f := 0) hev (d_move rfl) ?_
    refine AXo.go (f := 0) hev (d_move rfl) ?_
    refine AXo.yes (f := 0) hev rfl rfl rfl (beqTT rfl) (d_fieldAddr rfl fo26_2 rfl) ?_
    refine AXo.yes (f := 0) hev rfl rfl rfl (beqTT rfl) ((by first | exact d_loadT rfl (ld ty23 rfl rfl) | exact d_load rfl (ld ty23 rfl rfl))) ?_
    refine AXo.yes (f := 0) hev rfl rfl rfl (beqTT rfl) ((by first | exact d_lenT rfl ty23 rfl | exact d_lenR rfl ty23 rfl | exact d_lenN rfl ty23 rfl | exact d_lenG rfl ty23 rfl)) ?_
    refine AXo.yes (f := 0) hev rfl rfl rfl (beqTT rfl) (d_move rfl) ?_
    refine AXo.yes (f := 0) hev rfl rfl rfl (beqTT rfl) (d_eqI rfl rfl) ?_
    refine AXo.go (f := 0) hev (d_pickT rfl rfl rfl rfl) ?_
    refine AXo.go (f := 0) hev (d_assign rfl) ?_
    refine AXo.nil ?_
    refine AX.seq ?_
    refine AX.seq ?_
    refine AX.region ?_
    refine AXo.go (f := 0) hev (d_move rfl) ?_
    refine AXo.go (f := 0) hev ((by first | exact d_lenT rfl ty23 rfl | exact d_lenR rfl ty23 rfl | exact d_lenN rfl ty23 rfl | exact d_lenG rfl ty23 rfl)) ?_
    refine AXo.go (f := 0) hev (d_move rfl) ?_
    refine AXo.nil ?_
    refine AX.block ?_
    refine AX.loop (α := Bool) (fun x => match x with | false => ⟨frm 119 [(1, .ptr (.loc [0]) 0), (2, .t (.int .i64 0)), (3, .t (.bool true)), (97, .t (.sl [.agg [.int .u8 k, .str s, .sl os, .sl bs]])), (98, .t (.int .i64 1)), (99, .t (.int .i64 0))], [(.loc [0], .cells 26 [.t (.int .u8 6), .t (.str []), .t (.sl []), .t (.sl [.agg [.str [97], .int .u8 k, .str s, .sl os, .sl bs]])])], 1⟩ | true => ⟨frm 119 [(1, .ptr (.loc [0]) 0), (2, .t (.int .i64 (max 0 d))), (3, .t (.bool o)), (97, .t (.sl [.agg [.int .u8 k, .str s, .sl os, .sl bs]])), (98, .t (.int .i64 1)), (99, .t (.int .i64 1))], [(.loc [0], .cells 26 [.t (.int .u8 6), .t (.str []), .t (.sl []), .t (.sl [.agg [.str [97], .int .u8 k, .str s, .sl os, .sl bs]])])], 1⟩) (fun _ => True) (fun x => match x with | false => 1 | true => 0) false (Re.sq [.loc [0]] ⟨rfl, rfl, rfl, rfl, rfl, rfl, trivial⟩ ⟨⟨.loc [0], _, rfl, rfl, .inl rfl⟩, trivial⟩ (by decide) rfl rfl (by decide)) trivial (fun x _ => ?_)
    cases x
    · show AX _ _ ⟨frm 119 [(1, .ptr (.loc [0]) 0), (2, .t (.int .i64 0)), (3, .t (.bool true)), (97, .t (.sl [.agg [.int .u8 k, .str s, .sl os, .sl bs]])), (98, .t (.int .i64 1)), (99, .t (.int .i64 0))], [(.loc [0], .cells 26 [.t (.int .u8 6), .t (.str []), .t (.sl []), .t (.sl [.agg [.str [97], .int .u8 k, .str s, .sl os, .sl bs]])])], 1⟩ _
      refine AX.seq ?_
      refine AX.region ?_
      refine AXo.go (f := 0) hev (d_ltI rfl rfl) ?_
      refine AXo.nil ?_
      refine AX.seq ?_
      refine AX.condT rfl (by decide) ?_
      refine AX.skip ?_
      refine AX.seq ?_
      refine AX.block ?_
      refine AX.seq ?_
      refine AX.region ?_
      refine AXo.go (f := 0) hev (d_indexT (m := 0) rfl rfl ty23 rfl ty26 rfl rfl) ?_
      refine AXo.go (f := 0) hev ((by first | exact d_loadT rfl (ld ty26 rfl rfl) | exact d_load rfl (ld ty26 rfl rfl))) ?_
      refine AXo.go (f := 0) hev (d_alloc ty26 rfl rfl) ?_
      refine AXo.go0 (f := 0) hev (d_store rfl rfl (stt ty26 rfl rfl)) ?_
      refine AXo.nil ?_
      refine AX.seq ?_
      refine AX.region ?_
      refine AXo.go (f := 0) hev ((by first | exact d_loadT rfl (ld ty26 rfl rfl) | exact d_load rfl (ld ty26 rfl rfl))) ?_
      refine AXo.go (f := 0) hev (d_callT (rh1 rfl) hz) ?_
      refine AXo.go (f := 0) hev (d_move rfl) ?_
      refine AXo.go (f := 0) hev ((by first | exact d_extractT rfl rfl | exact d_extract rfl rfl)) ?_
      refine AXo.go (f := 0) hev ((by first | exact d_extractT rfl rfl | exact d_extract rfl rfl)) ?_
      refine AXo.go (f := 0) hev (d_assign rfl) ?_
      refine AXo.go (f := 0) hev (d_assign rfl) ?_
      refine AXo.nil ?_
      refine AX.region ?_
      refine AXo.go (f := 0) hev (d_move rfl) ?_
      refine AXo.go (f := 0) hev (d_move rfl) ?_
      refine AXo.go (f := 0) hev (d_max rfl rfl) ?_
      refine AXo.go (f := 0) hev (d_move rfl) ?_
      refine AXo.go (f := 0) hev (d_move rfl) ?_
      refine AXo.yes (f := 0) hev rfl rfl rfl (beqTT rfl) (d_move rfl) ?_
      refine AXo.go (f := 0) hev (d_pickT rfl rfl rfl rfl) ?_
      refine AXo.go (f := 0) hev (d_assign rfl) ?_
      refine AXo.go (f := 0) hev (d_assign rfl) ?_
      refine AXo.nil ?_
      refine AX.outNormal ?_
      refine AX.region ?_
      refine AXo.go (f := 0) hev (d_add64 rfl rfl (by omega) (by omega)) ?_
      refine AXo.go (f := 0) hev (d_move rfl) ?_
      refine AXo.nil ?_
      exact ⟨.inl ⟨true, trivial, by decide⟩, rfl, (Re.sq [.loc [0]] ⟨rfl, rfl, rfl, rfl, rfl, rfl, trivial⟩ ⟨⟨.loc [0], _, rfl, rfl, .inl rfl⟩, trivial⟩ (by decide) rfl rfl (by decide))⟩
    · show AX _ _ ⟨frm 119 [(1, .ptr (.loc [0]) 0), (2, .t (.int .i64 (max 0 d))), (3, .t (.bool o)), (97, .t (.sl [.agg [.int .u8 k, .str s, .sl os, .sl bs]])), (98, .t (.int .i64 1)), (99, .t (.int .i64 1))], [(.loc [0], .cells 26 [.t (.int .u8 6), .t (.str []), .t (.sl []), .t (.sl [.agg [.str [97], .int .u8 k, .str s, .sl os, .sl bs]])])], 1⟩ _
      refine AX.seq ?_
      refine AX.region ?_
      refine AXo.go (f := 0) hev (d_ltI rfl rfl) ?_
      refine AXo.nil ?_
      refine AX.seq ?_
      refine AX.condF rfl (by decide) ?_
      refine AX.exit ?_
      refine AX.thenExit ?_
      refine AX.leave (e := .exit 3) (by simp) ?_
      refine AX.outHere ?_
      refine AX.seq ?_
      refine AX.region ?_
      refine AXo.go (f := 0) hev (d_move rfl) ?_
      refine AXo.go (f := 0) hev (d_add64 rfl rfl (by omega) (by omega)) ?_
      refine AXo.go (f := 0) hev (d_move rfl) ?_
      refine AXo.go (f := 0) hev (d_assign rfl) ?_
      refine AXo.go (f := 0) hev (d_assign rfl) ?_
      refine AXo.nil ?_
      refine AX.ret ?_
      exact ⟨(), .inl rfl⟩

def isNo (r : Option FRes) : Bool := match r with | some (.ret (.t (.bool b)) [] []) => !b | _ => false
theorem isNo_eq {r : Option FRes} (h : isNo r = true) : r = some (.ret (.t (.bool false)) [] []) := by
  unfold isNo at h
  split at h
  · rename_i b; cases b <;> simp_all
  · cases h
theorem rec_rising (m k : Int) (s : List UInt8) (os bs : List Tree) : isYes (evalF (live.cfg m) (live.ext m) 300 41 [.t (.sl [.agg [.str [97], .int .u8 k, .str s, .sl os, .sl bs]]), .t (.fn (.func 42))] []) = true := by kernel_rfl
theorem rec_none (m k : Int) (s : List UInt8) (os bs : List Tree) : isNo (evalF (live.cfg m) (live.ext m) 300 37 [.t (.sl [.agg [.str [97], .int .u8 k, .str s, .sl os, .sl bs]]), .t (.fn (.func 43))] []) = true := by kernel_rfl
end
end Go.Proofs.YtbahblehihbpkaaGreatDoor.w

namespace Go.Proofs.YtbahblehihbpkaaGreatDoor.w
open Go Go.Abs
set_option linter.unusedVariables false
set_option maxRecDepth 100000
set_option maxHeartbeats 1000000
noncomputable section
theorem bl26 {m : Int} : bld (cf m).P 26 = some ([.t (.int .u8 0), .t (.str []), .nils, .nils], [(0, 1), (1, 1), (2, 1), (3, 1)]) := by kernel_rfl
theorem bl31 {m : Int} : bld (cf m).P 31 = some ([.t (.str []), .t (.int .u8 0), .t (.str []), .nils, .nils], [(0, 1), (1, 4)]) := by kernel_rfl

theorem lawn_77 {m : Int} {ev : CallF} (hev : CallOk (cf m) ev) (k : Int) (s : List UInt8) (os bs : List Tree) (hlive : ev 5 [] [] = some (.ret (.t (.bool true)) [] [])) (h1 : ev 6 [.t (.agg [.int .u8 k, .str s, .sl os, .sl bs])] [] = some (.ret (.t (.int .i64 7)) [] []))
    (h2 : ev 6 [.t (.agg [.int .u8 5, .str [], .sl [.agg [.int .u8 k, .str s, .sl os, .sl bs]], .sl []])] [] = some (.ret (.t (.int .i64 7)) [] [])) (h3 : ev 6 [.t (.agg [.int .u8 6, .str [], .sl [], .sl [.agg [.str [97], .int .u8 k, .str s, .sl os, .sl bs]]])] [] = some (.ret (.t (.int .i64 7)) [] [])) :
    ∃ _ : Unit, CallRel (cf m) 3 [.t (.agg [.int .u8 k, .str s, .sl os, .sl bs])] [] (.ret (.t (.bool true)) [] []) := by
  refine AX.start 33 1 Tryz.func3 rfl (by decide) rfl rfl (by decide) ?_
  refine AX.seq ?_
  refine AX.region ?_
  refine AXo.go (f := 0) hev (d_box rfl rfl) ?_
  refine AXo.go (f := 0) hev (d_assign rfl) ?_
  refine AXo.nil ?_
  refine AX.seq ?_
  refine AX.seq ?_
  refine AX.region ?_
  refine AXo.go (f := 0) hev (d_callT (ts := []) rfl hlive) ?_
  refine AXo.go (f := 0) hev (d_not rfl) ?_
  refine AXo.nil ?_
  refine AX.condF rfl (by decide) ?_
  refine AX.skip ?_
  refine AX.seq ?_
  refine AX.region ?_
  refine AXo.go (f := 0) hev ((by first | exact d_loadT rfl (ld ty26 rfl rfl) | exact d_load rfl (ld ty26 rfl rfl))) ?_
  refine AXo.go (f := 0) hev (d_callT (rh1 rfl) h1) ?_
  refine AXo.go (f := 0) hev (d_assign rfl) ?_
  refine AXo.nil ?_
  refine AX.seq ?_
  refine AX.region ?_
  refine AXo.go (f := 0) hev ((by first | exact d_loadT rfl (ld ty26 rfl rfl) | exact d_load rfl (ld ty26 rfl rfl))) ?_
  refine AXo.go (f := 0) hev (d_lit1 rfl rfl ty23 rfl ty26 rfl rfl ⟨rfl, rfl, rfl⟩) ?_
  refine AXo.go (f := 0) hev (d_build rfl bl26 rfl rfl) ?_
  refine AXo.go (f := 0) hev (d_callF rfl rfl h2) ?_
  refine AXo.go (f := 0) hev (d_assign rfl) ?_
  refine AXo.nil ?_
  refine AX.seq ?_
  refine AX.region ?_
  refine AXo.go (f := 0) hev ((by first | exact d_loadT rfl (ld ty26 rfl rfl) | exact d_load rfl (ld ty26 rfl rfl))) ?_
  refine AXo.go (f := 0) hev (d_build rfl bl31 rfl rfl) ?_
  refine AXo.go (f := 0) hev (d_lit1 rfl rfl ty24 rfl ty31 rfl rfl ⟨rfl, rfl, rfl⟩) ?_
  refine AXo.go (f := 0) hev (d_build rfl bl26 rfl rfl) ?_
  refine AXo.go (f := 0) hev (d_callF rfl rfl h3) ?_
  refine AXo.go (f := 0) hev (d_assign rfl) ?_
  refine AXo.nil ?_
  refine AX.seq ?_
  refine AX.seq ?_
  refine AX.region ?_
  refine AXo.go (f := 0) hev (d_move rfl) ?_
  refine AXo.go (f := 0) hev (d_move rfl) ?_
  refine AXo.go (f := 0) hev (d_neI rfl rfl) ?_
  refine AXo.nil ?_
  refine AX.condF rfl (by decide) ?_
  refine AX.skip ?_
  refine AX.seq ?_
  refine AX.seq ?_
  refine AX.region ?_
  refine AXo.go (f := 0) hev (d_move rfl) ?_
  refine AXo.go (f := 0) hev (d_neI rfl rfl) ?_
  refine AXo.nil ?_
  refine AX.condT rfl (by decide) ?_
  refine AX.seq ?_
  refine AX.region ?_
  refine AXo.go (f := 0) hev (d_move rfl) ?_
  refine AXo.go (f := 0) hev (d_move rfl) ?_
  refine AXo.go (f := 0) hev (d_eqI rfl rfl) ?_
  refine AXo.go (f := 0) hev (d_assign rfl) ?_
  refine AXo.nil ?_
  refine AX.ret ?_
  refine AX.thenRet ?_
  exact ⟨(), .inl rfl⟩

theorem lawn_44 {m : Int} {ev : CallF} (hev : CallOk (cf m) ev) (k : Int) (s : List UInt8) (os bs : List Tree) (hlive : ev 5 [] [] = some (.ret (.t (.bool true)) [] [])) (h1 : ev 6 [.t (.agg [.int .u8 k, .str s, .sl os, .sl bs])] [] = some (.ret (.t (.int .i64 4)) [] []))
    (h2 : ev 6 [.t (.agg [.int .u8 5, .str [], .sl [.agg [.int .u8 k, .str s, .sl os, .sl bs]], .sl []])] [] = some (.ret (.t (.int .i64 4)) [] [])) (h3 : ev 6 [.t (.agg [.int .u8 6, .str [], .sl [], .sl [.agg [.str [97], .int .u8 k, .str s, .sl os, .sl bs]]])] [] = some (.ret (.t (.int .i64 4)) [] [])) :
    ∃ _ : Unit, CallRel (cf m) 3 [.t (.agg [.int .u8 k, .str s, .sl os, .sl bs])] [] (.ret (.t (.bool true)) [] []) := by
  refine AX.start 33 1 Tryz.func3 rfl (by decide) rfl rfl (by decide) ?_
  refine AX.seq ?_
  refine AX.region ?_
  refine AXo.go (f := 0) hev (d_box rfl rfl) ?_
  refine AXo.go (f := 0) hev (d_assign rfl) ?_
  refine AXo.nil ?_
  refine AX.seq ?_
  refine AX.seq ?_
  refine AX.region ?_
  refine AXo.go (f := 0) hev (d_callT (ts := []) rfl hlive) ?_
  refine AXo.go (f := 0) hev (d_not rfl) ?_
  refine AXo.nil ?_
  refine AX.condF rfl (by decide) ?_
  refine AX.skip ?_
  refine AX.seq ?_
  refine AX.region ?_
  refine AXo.go (f := 0) hev ((by first | exact d_loadT rfl (ld ty26 rfl rfl) | exact d_load rfl (ld ty26 rfl rfl))) ?_
  refine AXo.go (f := 0) hev (d_callT (rh1 rfl) h1) ?_
  refine AXo.go (f := 0) hev (d_assign rfl) ?_
  refine AXo.nil ?_
  refine AX.seq ?_
  refine AX.region ?_
  refine AXo.go (f := 0) hev ((by first | exact d_loadT rfl (ld ty26 rfl rfl) | exact d_load rfl (ld ty26 rfl rfl))) ?_
  refine AXo.go (f := 0) hev (d_lit1 rfl rfl ty23 rfl ty26 rfl rfl ⟨rfl, rfl, rfl⟩) ?_
  refine AXo.go (f := 0) hev (d_build rfl bl26 rfl rfl) ?_
  refine AXo.go (f := 0) hev (d_callF rfl rfl h2) ?_
  refine AXo.go (f := 0) hev (d_assign rfl) ?_
  refine AXo.nil ?_
  refine AX.seq ?_
  refine AX.region ?_
  refine AXo.go (f := 0) hev ((by first | exact d_loadT rfl (ld ty26 rfl rfl) | exact d_load rfl (ld ty26 rfl rfl))) ?_
  refine AXo.go (f := 0) hev (d_build rfl bl31 rfl rfl) ?_
  refine AXo.go (f := 0) hev (d_lit1 rfl rfl ty24 rfl ty31 rfl rfl ⟨rfl, rfl, rfl⟩) ?_
  refine AXo.go (f := 0) hev (d_build rfl bl26 rfl rfl) ?_
  refine AXo.go (f := 0) hev (d_callF rfl rfl h3) ?_
  refine AXo.go (f := 0) hev (d_assign rfl) ?_
  refine AXo.nil ?_
  refine AX.seq ?_
  refine AX.seq ?_
  refine AX.region ?_
  refine AXo.go (f := 0) hev (d_move rfl) ?_
  refine AXo.go (f := 0) hev (d_move rfl) ?_
  refine AXo.go (f := 0) hev (d_neI rfl rfl) ?_
  refine AXo.nil ?_
  refine AX.condF rfl (by decide) ?_
  refine AX.skip ?_
  refine AX.seq ?_
  refine AX.seq ?_
  refine AX.region ?_
  refine AXo.go (f := 0) hev (d_move rfl) ?_
  refine AXo.go (f := 0) hev (d_neI rfl rfl) ?_
  refine AXo.nil ?_
  refine AX.condT rfl (by decide) ?_
  refine AX.seq ?_
  refine AX.region ?_
  refine AXo.go (f := 0) hev (d_move rfl) ?_
  refine AXo.go (f := 0) hev (d_move rfl) ?_
  refine AXo.go (f := 0) hev (d_eqI rfl rfl) ?_
  refine AXo.go (f := 0) hev (d_assign rfl) ?_
  refine AXo.nil ?_
  refine AX.ret ?_
  refine AX.thenRet ?_
  exact ⟨(), .inl rfl⟩

theorem lawn_00 {m : Int} {ev : CallF} (hev : CallOk (cf m) ev) (k : Int) (s : List UInt8) (os bs : List Tree) (hlive : ev 5 [] [] = some (.ret (.t (.bool true)) [] [])) (h1 : ev 6 [.t (.agg [.int .u8 k, .str s, .sl os, .sl bs])] [] = some (.ret (.t (.int .i64 0)) [] []))
    (h2 : ev 6 [.t (.agg [.int .u8 5, .str [], .sl [.agg [.int .u8 k, .str s, .sl os, .sl bs]], .sl []])] [] = some (.ret (.t (.int .i64 0)) [] [])) (h3 : ev 6 [.t (.agg [.int .u8 6, .str [], .sl [], .sl [.agg [.str [97], .int .u8 k, .str s, .sl os, .sl bs]]])] [] = some (.ret (.t (.int .i64 0)) [] [])) :
    ∃ _ : Unit, CallRel (cf m) 3 [.t (.agg [.int .u8 k, .str s, .sl os, .sl bs])] [] (.ret (.t (.bool true)) [] []) := by
  refine AX.start 33 1 Tryz.func3 rfl (by decide) rfl rfl (by decide) ?_
  refine AX.seq ?_
  refine AX.region ?_
  refine AXo.go (f := 0) hev (d_box rfl rfl) ?_
  refine AXo.go (f := 0) hev (d_assign rfl) ?_
  refine AXo.nil ?_
  refine AX.seq ?_
  refine AX.seq ?_
  refine AX.region ?_
  refine AXo.go (f := 0) hev (d_callT (ts := []) rfl hlive) ?_
  refine AXo.go (f := 0) hev (d_not rfl) ?_
  refine AXo.nil ?_
  refine AX.condF rfl (by decide) ?_
  refine AX.skip ?_
  refine AX.seq ?_
  refine AX.region ?_
  refine AXo.go (f := 0) hev ((by first | exact d_loadT rfl (ld ty26 rfl rfl) | exact d_load rfl (ld ty26 rfl rfl))) ?_
  refine AXo.go (f := 0) hev (d_callT (rh1 rfl) h1) ?_
  refine AXo.go (f := 0) hev (d_assign rfl) ?_
  refine AXo.nil ?_
  refine AX.seq ?_
  refine AX.region ?_
  refine AXo.go (f := 0) hev ((by first | exact d_loadT rfl (ld ty26 rfl rfl) | exact d_load rfl (ld ty26 rfl rfl))) ?_
  refine AXo.go (f := 0) hev (d_lit1 rfl rfl ty23 rfl ty26 rfl rfl ⟨rfl, rfl, rfl⟩) ?_
  refine AXo.go (f := 0) hev (d_build rfl bl26 rfl rfl) ?_
  refine AXo.go (f := 0) hev (d_callF rfl rfl h2) ?_
  refine AXo.go (f := 0) hev (d_assign rfl) ?_
  refine AXo.nil ?_
  refine AX.seq ?_
  refine AX.region ?_
  refine AXo.go (f := 0) hev ((by first | exact d_loadT rfl (ld ty26 rfl rfl) | exact d_load rfl (ld ty26 rfl rfl))) ?_
  refine AXo.go (f := 0) hev (d_build rfl bl31 rfl rfl) ?_
  refine AXo.go (f := 0) hev (d_lit1 rfl rfl ty24 rfl ty31 rfl rfl ⟨rfl, rfl, rfl⟩) ?_
  refine AXo.go (f := 0) hev (d_build rfl bl26 rfl rfl) ?_
  refine AXo.go (f := 0) hev (d_callF rfl rfl h3) ?_
  refine AXo.go (f := 0) hev (d_assign rfl) ?_
  refine AXo.nil ?_
  refine AX.seq ?_
  refine AX.seq ?_
  refine AX.region ?_
  refine AXo.go (f := 0) hev (d_move rfl) ?_
  refine AXo.go (f := 0) hev (d_move rfl) ?_
  refine AXo.go (f := 0) hev (d_neI rfl rfl) ?_
  refine AXo.nil ?_
  refine AX.condF rfl (by decide) ?_
  refine AX.skip ?_
  refine AX.seq ?_
  refine AX.seq ?_
  refine AX.region ?_
  refine AXo.go (f := 0) hev (d_move rfl) ?_
  refine AXo.go (f := 0) hev (d_neI rfl rfl) ?_
  refine AXo.nil ?_
  refine AX.condF rfl (by decide) ?_
  refine AX.skip ?_
  refine AX.seq ?_
  refine AX.region ?_
  refine AXo.go (f := 0) hev (d_move rfl) ?_
  refine AXo.go (f := 0) hev (d_eqI rfl rfl) ?_
  refine AXo.go (f := 0) hev (d_move rfl) ?_
  refine AXo.no rfl rfl rfl (beqTF rfl) ?_
  refine AXo.no rfl rfl rfl (beqTF rfl) ?_
  refine AXo.go (f := 0) hev (d_pickT rfl rfl rfl rfl) ?_
  refine AXo.go (f := 0) hev (d_assign rfl) ?_
  refine AXo.nil ?_
  refine AX.ret ?_
  exact ⟨(), .inl rfl⟩

theorem lawn_04 {m : Int} {ev : CallF} (hev : CallOk (cf m) ev) (k : Int) (s : List UInt8) (os bs : List Tree) (hlive : ev 5 [] [] = some (.ret (.t (.bool true)) [] [])) (h1 : ev 6 [.t (.agg [.int .u8 k, .str s, .sl os, .sl bs])] [] = some (.ret (.t (.int .i64 0)) [] []))
    (h2 : ev 6 [.t (.agg [.int .u8 5, .str [], .sl [.agg [.int .u8 k, .str s, .sl os, .sl bs]], .sl []])] [] = some (.ret (.t (.int .i64 4)) [] [])) (h3 : ev 6 [.t (.agg [.int .u8 6, .str [], .sl [], .sl [.agg [.str [97], .int .u8 k, .str s, .sl os, .sl bs]]])] [] = some (.ret (.t (.int .i64 4)) [] [])) :
    ∃ _ : Unit, CallRel (cf m) 3 [.t (.agg [.int .u8 k, .str s, .sl os, .sl bs])] [] (.ret (.t (.bool true)) [] []) := by
  refine AX.start 33 1 Tryz.func3 rfl (by decide) rfl rfl (by decide) ?_
  refine AX.seq ?_
  refine AX.region ?_
  refine AXo.go (f := 0) hev (d_box rfl rfl) ?_
  refine AXo.go (f := 0) hev (d_assign rfl) ?_
  refine AXo.nil ?_
  refine AX.seq ?_
  refine AX.seq ?_
  refine AX.region ?_
  refine AXo.go (f := 0) hev (d_callT (ts := []) rfl hlive) ?_
  refine AXo.go (f := 0) hev (d_not rfl) ?_
  refine AXo.nil ?_
  refine AX.condF rfl (by decide) ?_
  refine AX.skip ?_
  refine AX.seq ?_
  refine AX.region ?_
  refine AXo.go (f := 0) hev ((by first | exact d_loadT rfl (ld ty26 rfl rfl) | exact d_load rfl (ld ty26 rfl rfl))) ?_
  refine AXo.go (f := 0) hev (d_callT (rh1 rfl) h1) ?_
  refine AXo.go (f := 0) hev (d_assign rfl) ?_
  refine AXo.nil ?_
  refine AX.seq ?_
  refine AX.region ?_
  refine AXo.go (f := 0) hev ((by first | exact d_loadT rfl (ld ty26 rfl rfl) | exact d_load rfl (ld ty26 rfl rfl))) ?_
  refine AXo.go (f := 0) hev (d_lit1 rfl rfl ty23 rfl ty26 rfl rfl ⟨rfl, rfl, rfl⟩) ?_
  refine AXo.go (f := 0) hev (d_build rfl bl26 rfl rfl) ?_
  refine AXo.go (f := 0) hev (d_callF rfl rfl h2) ?_
  refine AXo.go (f := 0) hev (d_assign rfl) ?_
  refine AXo.nil ?_
  refine AX.seq ?_
  refine AX.region ?_
  refine AXo.go (f := 0) hev ((by first | exact d_loadT rfl (ld ty26 rfl rfl) | exact d_load rfl (ld ty26 rfl rfl))) ?_
  refine AXo.go (f := 0) hev (d_build rfl bl31 rfl rfl) ?_
  refine AXo.go (f := 0) hev (d_lit1 rfl rfl ty24 rfl ty31 rfl rfl ⟨rfl, rfl, rfl⟩) ?_
  refine AXo.go (f := 0) hev (d_build rfl bl26 rfl rfl) ?_
  refine AXo.go (f := 0) hev (d_callF rfl rfl h3) ?_
  refine AXo.go (f := 0) hev (d_assign rfl) ?_
  refine AXo.nil ?_
  refine AX.seq ?_
  refine AX.seq ?_
  refine AX.region ?_
  refine AXo.go (f := 0) hev (d_move rfl) ?_
  refine AXo.go (f := 0) hev (d_move rfl) ?_
  refine AXo.go (f := 0) hev (d_neI rfl rfl) ?_
  refine AXo.nil ?_
  refine AX.condF rfl (by decide) ?_
  refine AX.skip ?_
  refine AX.seq ?_
  refine AX.seq ?_
  refine AX.region ?_
  refine AXo.go (f := 0) hev (d_move rfl) ?_
  refine AXo.go (f := 0) hev (d_neI rfl rfl) ?_
  refine AXo.nil ?_
  refine AX.condF rfl (by decide) ?_
  refine AX.skip ?_
  refine AX.seq ?_
  refine AX.region ?_
  refine AXo.go (f := 0) hev (d_move rfl) ?_
  refine AXo.go (f := 0) hev (d_eqI rfl rfl) ?_
  refine AXo.go (f := 0) hev (d_move rfl) ?_
  refine AXo.yes (f := 0) hev rfl rfl rfl (beqFF rfl) (d_move rfl) ?_
  refine AXo.yes (f := 0) hev rfl rfl rfl (beqFF rfl) (d_eqI rfl rfl) ?_
  refine AXo.go (f := 0) hev (d_pickF rfl rfl rfl rfl) ?_
  refine AXo.go (f := 0) hev (d_assign rfl) ?_
  refine AXo.nil ?_
  refine AX.ret ?_
  exact ⟨(), .inl rfl⟩
end
end Go.Proofs.YtbahblehihbpkaaGreatDoor.w
