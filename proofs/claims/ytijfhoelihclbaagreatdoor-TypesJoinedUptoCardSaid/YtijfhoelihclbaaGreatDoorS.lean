/- More of it. -/
import Derived.Test.YtijfhoelihclbaaGreatDoorP
import Derived.Test.YtijfhoelihclbaaGreatDoorQ
import Derived.Test.YtijfhoelihclbaaGreatDoorR
namespace Go.Proofs.YtijfhoelihclbaaGreatDoor.w
open Go Go.Abs
set_option linter.unusedVariables false
set_option maxRecDepth 100000
set_option maxHeartbeats 1000000
noncomputable section



theorem choose_if {α β : Type} [Inhabited β] {P : α → Prop} {Q : α → β → Prop} (h : ∀ a, P a → ∃ b, Q a b) : ∃ f : α → β, ∀ a, P a → Q a (f a) :=
  Classical.axiomOfChoice (r := fun a b => P a → Q a b) fun a => by
    by_cases hp : P a
    · obtain ⟨b, hb⟩ := h a hp
      exact ⟨b, fun _ => hb⟩
    · exact ⟨default, fun h => absurd h hp⟩
theorem pure1 {C : Cfg} {β : Type} [Inhabited β] {g : FuncId} {P : Tree → Prop} (mk : β → Tree) (h : ∀ x, P x → ∃ r : β, CallRel C g [.t x] [] (.ret (.t (mk r)) [] [])) : ∃ f : Tree → β, ∀ x, P x → CallRel C g [.t x] [] (.ret (.t (mk (f x))) [] []) := choose_if h
theorem pure2 {C : Cfg} {β : Type} [Inhabited β] {g : FuncId} {P : Tree → Tree → Prop} (mk : β → Tree) (h : ∀ x y, P x y → ∃ r : β, CallRel C g [.t x, .t y] [] (.ret (.t (mk r)) [] [])) :
    ∃ f : Tree → Tree → β, ∀ x y, P x y → CallRel C g [.t x, .t y] [] (.ret (.t (mk (f x y))) [] []) := by
  obtain ⟨f, hf⟩ := choose_if (α := Tree × Tree) (P := fun p => P p.1 p.2) (Q := fun p r => CallRel C g [.t p.1, .t p.2] [] (.ret (.t (mk r)) [] [])) fun p hp => h p.1 p.2 hp
  exact ⟨fun x y => f (x, y), fun x y hp => hf (x, y) hp⟩

def PI (x : Tree) : Prop := ∃ n, x = .int .u8 n
def PS (x : Tree) : Prop := ∃ s, x = .str s
def PA (e : Tree) : Prop := ∃ nm k s o a, e = .agg [.str nm, .int .u8 k, .str s, .sl o, .sl a]
def t1 {β : Type} (mk : β → Tree) (P : Tree → Prop) (f : Tree → β) : List TV → List AObj → Option FRes := ct1 P fun x => .ret (.t (mk (f x))) [] []
def t2 {β : Type} (mk : β → Tree) (P : Tree → Tree → Prop) (f : Tree → Tree → β) : List TV → List AObj → Option FRes := ct2 P fun x y => .ret (.t (mk (f x y))) [] []
theorem t1_ok {C : Cfg} {β : Type} {g : FuncId} {mk : β → Tree} {P : Tree → Prop} {f : Tree → β} (h : ∀ x, P x → CallRel C g [.t x] [] (.ret (.t (mk (f x))) [] [])) : FunOk C g (t1 mk P f) := ct1_ok h
theorem t2_ok {C : Cfg} {β : Type} {g : FuncId} {mk : β → Tree} {P : Tree → Tree → Prop} {f : Tree → Tree → β} (h : ∀ x y, P x y → CallRel C g [.t x, .t y] [] (.ret (.t (mk (f x y))) [] [])) : FunOk C g (t2 mk P f) := ct2_ok h
theorem t1_at {β : Type} {g : FuncId} {mk : β → Tree} {P : Tree → Prop} {f : Tree → β} {ev : CallF} {x : Tree} (h : P x) : oneEv g (t1 mk P f) ev g [.t x] [] = some (.ret (.t (mk (f x))) [] []) := ct1_at h
theorem t2_at {β : Type} {g : FuncId} {mk : β → Tree} {P : Tree → Tree → Prop} {f : Tree → Tree → β} {ev : CallF} {x y : Tree} (h : P x y) : oneEv g (t2 mk P f) ev g [.t x, .t y] [] = some (.ret (.t (mk (f x y))) [] []) := ct2_at h

theorem name1_pure (m : Int) : ∃ f : Tree → Bool, ∀ x, PI x → CallRel (cf m) 141 [.t x] [] (.ret (.t (.bool (f x))) [] []) := by
  obtain ⟨fd, hd⟩ := pure1 (C := cf m) (g := 139) (P := PI) Tree.bool (fun x ⟨n, e⟩ => e ▸ digit_at noEv_ok n)
  obtain ⟨fl, hl⟩ := pure1 (C := cf m) (g := 142) (P := PI) Tree.bool (fun x ⟨n, e⟩ => e ▸ letter_at noEv_ok n)
  refine pure1 (P := PI) Tree.bool fun x ⟨n, e⟩ => e ▸ name1_at (oneEv_ok (t1_ok hl) (oneEv_ok (t1_ok hd) noEv_ok)) (fun n => fl (.int .u8 n)) (fun n => fd (.int .u8 n)) (fun n => t1_at ⟨n, rfl⟩) (fun n => ev_there rfl (t1_at ⟨n, rfl⟩)) n

def bytesT (s : List UInt8) : Tree := .sl (s.map fun b => .int .u8 b.toNat)
theorem cfB_pure (m : Int) : ∃ f : Tree → Tree → Bool, ∀ x y, ((∃ s : List UInt8, s.length ≤ 64 ∧ x = bytesT s) ∧ y = .fn (.func 141)) → CallRel (cf m) 140 [.t x, .t y] [] (.ret (.t (.bool (f x y))) [] []) := by
  obtain ⟨f1, h1⟩ := name1_pure m
  obtain ⟨fi, hi⟩ := pure2 (C := cf m) (g := 181) (P := fun x y => (∃ s : List UInt8, s.length ≤ 64 ∧ x = bytesT s) ∧ y = .fn (.func 141)) (Tree.int .i64) (fun x y ⟨⟨s, hs, e⟩, e2⟩ => by
    subst e; subst e2
    have hform : ∀ e ∈ s.map (fun b : UInt8 => Tree.int .u8 b.toNat), ∃ n, e = .int .u8 n := fun e he => by obtain ⟨b, _, rfl⟩ := List.mem_map.1 he; exact ⟨_, rfl⟩
    exact ixB_at (oneEv_ok (t1_ok h1) noEv_ok) _ (by rw [List.length_map]; omega) hform 141 f1 (fun e he => t1_at (hform e he)))
  exact pure2 Tree.bool fun x y hp => cfB_at (oneEv_ok (t2_ok hi) noEv_ok) x y (fi x y) (t2_at hp)

theorem ctS_pure (m : Int) : ∃ f : Tree → Tree → Bool, ∀ x y, (x = .sl (words2.map .str) ∧ PS y) → CallRel (cf m) 69 [.t x, .t y] [] (.ret (.t (.bool (f x y))) [] []) := by
  obtain ⟨fi, hi⟩ := pure2 (C := cf m) (g := 108) (P := fun x y => x = .sl (words2.map .str) ∧ PS y) (Tree.int .i64) (fun x y ⟨e, s, e2⟩ => by
    subst e; subst e2
    exact idS_at noEv_ok _ (by decide) (fun e he => by obtain ⟨b, _, rfl⟩ := List.mem_map.1 he; exact ⟨_, rfl⟩) s)
  exact pure2 Tree.bool fun x y hp => ctS_at (oneEv_ok (t2_ok hi) noEv_ok) x y (fi x y) (t2_at hp)

theorem name_pure (m : Int) : ∃ f : Tree → Bool, ∀ x, PS x → CallRel (cf m) 107 [.t x] [] (.ret (.t (.bool (f x))) [] []) := by
  obtain ⟨fd, hd⟩ := pure1 (C := cf m) (g := 139) (P := PI) Tree.bool (fun x ⟨n, e⟩ => e ▸ digit_at noEv_ok n)
  obtain ⟨fb, hb⟩ := cfB_pure m
  obtain ⟨fc, hc⟩ := ctS_pure m
  have hw : FunOk (cf m) 70 (extTab wordsTab noEv) := fun args objs r h => live.sumWords m noEv noEv_ok args objs r h
  refine pure1 (P := PS) Tree.bool fun x ⟨s, e⟩ => e ▸ name_at (ev := oneEv 70 (extTab wordsTab noEv) (oneEv 139 (t1 .bool PI fd) (oneEv 69 (t2 .bool (fun x y => x = .sl (words2.map .str) ∧ PS y) fc) (oneEv 140 (t2 .bool (fun x y => (∃ s : List UInt8, s.length ≤ 64 ∧ x = bytesT s) ∧ y = .fn (.func 141)) fb) noEv))))
    (oneEv_ok hw (oneEv_ok (t1_ok hd) (oneEv_ok (t2_ok hc) (oneEv_ok (t2_ok hb) noEv_ok)))) (fun n => fd (.int .u8 n)) (fun s => fc (.sl (words2.map .str)) (.str s)) (fun s => fb (bytesT s) (.fn (.func 141))) rfl
    (fun n => ev_there rfl (t1_at ⟨n, rfl⟩)) (fun s => ev_there rfl (ev_there rfl (t2_at ⟨rfl, s, rfl⟩))) (fun s hs => ev_there rfl (ev_there rfl (ev_there rfl (t2_at (x := bytesT s) ⟨⟨s, hs, rfl⟩, rfl⟩)))) s

theorem tn_pure (m : Int) : ∃ f : Tree → Bool, ∀ x, PS x → CallRel (cf m) 68 [.t x] [] (.ret (.t (.bool (f x))) [] []) := by
  obtain ⟨fn, hn⟩ := name_pure m
  obtain ⟨f1, h1⟩ := pure1 (C := cf m) (g := 106) (P := PS) Tree.bool (fun x ⟨s, e⟩ => e ▸ typeName1_at (oneEv_ok (t1_ok hn) noEv_ok) (fun s => fn (.str s)) (fun s => t1_at ⟨s, rfl⟩) s)
  obtain ⟨pc, hpc⟩ := choose_if (α := List UInt8) (β := List (List UInt8)) (P := fun s => s.length ≤ 64) (Q := fun s l => l.length ≤ s.length + 1 ∧ CallRel (cf m) 105 [.t (.str s), .t (.str [58, 58])] [] (.ret (.t (.sl (l.map .str))) [] [])) fun s hs => split_at s [58, 58] (by omega) (by decide)
  obtain ⟨fi, hi⟩ := pure2 (C := cf m) (g := 112) (P := fun x y => (∃ s : List UInt8, s.length ≤ 64 ∧ x = .sl ((pc s).map .str)) ∧ y = .fn (.func 106)) (Tree.int .i64) (fun x y ⟨⟨s, hs, e⟩, e2⟩ => by
    subst e; subst e2
    have hform : ∀ e ∈ (pc s).map Tree.str, ∃ u, e = .str u := fun e he => by obtain ⟨b, _, rfl⟩ := List.mem_map.1 he; exact ⟨_, rfl⟩
    exact ixS_at (oneEv_ok (t1_ok h1) noEv_ok) _ (by rw [List.length_map]; have := (hpc s hs).1; omega) hform 106 f1 (fun e he => t1_at (hform e he)))
  obtain ⟨fc, hc⟩ := pure2 (C := cf m) (g := 77) (P := fun x y => (∃ s : List UInt8, s.length ≤ 64 ∧ x = .sl ((pc s).map .str)) ∧ y = .fn (.func 106)) Tree.bool fun x y hp => cfS_at (oneEv_ok (t2_ok hi) noEv_ok) x y (fi x y) (t2_at hp)
  have hsp : FunOk (cf m) 105 (ct2 (fun x y => (∃ s : List UInt8, s.length ≤ 64 ∧ x = .str s) ∧ y = .str [58, 58]) fun x _ => match x with | .str s => .ret (.t (.sl ((pc s).map .str))) [] [] | _ => default) :=
    ct2_ok fun x y hx => by obtain ⟨⟨s, hs, rfl⟩, rfl⟩ := hx; exact (hpc s hs).2
  exact pure1 (P := PS) Tree.bool fun x ⟨s, e⟩ => e ▸ typeName_at (oneEv_ok hsp (oneEv_ok (t2_ok hc) noEv_ok)) pc (fun s => fc (.sl ((pc s).map .str)) (.fn (.func 106))) (fun s hs => ct2_at (x := .str s) (y := .str [58, 58]) ⟨⟨s, hs, rfl⟩, rfl⟩) (fun s hs => ev_there rfl (t2_at ⟨⟨s, hs, rfl⟩, rfl⟩)) s

theorem label_pure (m : Int) : ∃ f : Tree → Bool, ∀ x, PS x → CallRel (cf m) 83 [.t x] [] (.ret (.t (.bool (f x))) [] []) := by
  obtain ⟨fw, hw⟩ := pure1 (C := cf m) (g := 73) (P := fun x => ∃ s : List UInt8, 8 ≤ s.length ∧ x = .str s) (Tree.int .u64) (fun x ⟨s, hs, e⟩ => by
    subst e
    match s, hs with
    | b0 :: b1 :: b2 :: b3 :: b4 :: b5 :: b6 :: b7 :: r, _ => exact word_at noEv_ok b0 b1 b2 b3 b4 b5 b6 b7 r)
  obtain ⟨fv, hv⟩ := pure1 (C := cf m) (g := 29) (P := PS) Tree.bool (fun x ⟨s, e⟩ => e ▸ valid_at _ (oneEv_ok (t1_ok hw) noEv_ok) (fun s => fw (.str s)) (fun s hs => t1_at ⟨s, hs, rfl⟩) s)
  exact pure1 (P := PS) Tree.bool fun x ⟨s, e⟩ => e ▸ label_at (oneEv_ok (t1_ok hv) noEv_ok) (fun s => fv (.str s)) (fun s => t1_at ⟨s, rfl⟩) s

def PL (x : Tree) : Prop := ∃ l, x = .sl l ∧ l.length ≤ 4194304 ∧ ∀ e ∈ l, PA e
theorem rising_pure (m : Int) : ∃ f : Tree → Tree → Bool, ∀ x y, (PL x ∧ y = .fn (.func 80)) → CallRel (cf m) 79 [.t x, .t y] [] (.ret (.t (.bool (f x y))) [] []) := by
  obtain ⟨fn, hn⟩ := pure1 (C := cf m) (g := 80) (P := PA) Tree.str (fun x ⟨nm, k, s, o, a, e⟩ => e ▸ nameOf_at noEv_ok nm s k o a)
  exact pure2 Tree.bool fun x y ⟨⟨l, e, hl, hf⟩, e2⟩ => by
    subst e; subst e2
    exact rising_at (oneEv_ok (t1_ok hn) noEv_ok) l hl hf 80 fn (fun e he => t1_at (hf e he))
theorem cfA_pure (m : Int) : ∃ f : Tree → Tree → Bool, ∀ x y, (PL x ∧ y = .fn (.func 82)) → CallRel (cf m) 81 [.t x, .t y] [] (.ret (.t (.bool (f x y))) [] []) := by
  obtain ⟨fb, hb⟩ := label_pure m
  obtain ⟨f1, h1⟩ := pure1 (C := cf m) (g := 82) (P := PA) Tree.bool (fun x ⟨nm, k, s, o, a, e⟩ => e ▸ size1_at (oneEv_ok (t1_ok hb) noEv_ok) (fun s => fb (.str s)) (fun s => t1_at ⟨s, rfl⟩) nm s k o a)
  obtain ⟨fi, hi⟩ := pure2 (C := cf m) (g := 99) (P := fun x y => PL x ∧ y = .fn (.func 82)) (Tree.int .i64) fun x y ⟨⟨l, e, hl, hf⟩, e2⟩ => by
    subst e; subst e2
    exact ixA_at (oneEv_ok (t1_ok h1) noEv_ok) l hl hf 82 f1 (fun e he => t1_at (hf e he))
  exact pure2 Tree.bool fun x y hp => cfA_at (oneEv_ok (t2_ok hi) noEv_ok) x y (fi x y) (t2_at hp)

end
end Go.Proofs.YtijfhoelihclbaaGreatDoor.w
