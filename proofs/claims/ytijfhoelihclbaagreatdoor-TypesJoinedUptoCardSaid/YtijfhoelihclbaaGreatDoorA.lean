/- The abstract interpreter: trees and abstract values, the heap of a call, the operations on them. Program-independent. -/
import Derived.WalkKit
import Derived.Lib.Strings
namespace Go.Abs
open Go

/-- A name of a mutable object, as one call sees it: the objects it was handed, and those it made. -/
inductive Nm where
  | arg (i : Nat)
  | loc (p : List Nat)
  deriving DecidableEq, Repr, Inhabited

/-- Data that no one writes any more, up to what no one can see (a nil slice is an empty one, a capacity is not told). -/
inductive Tree where
  | bool (b : Bool)
  | int (k : IntKind) (n : Int)
  | str (s : List UInt8)
  | sl (es : List Tree)
  | agg (cs : List Tree)
  | tup (vs : List Tree)
  | nilptr
  | nilmap
  | nilfn
  | fn (f : Fn)
  | nilif
  | iface (t : TypeId) (v : Tree)
  deriving Inhabited

inductive TV where
  | t (x : Tree)
  | nils                                   -- the nil slice
  | tsl (es : List Tree)                   -- a slice whose capacity is its length
  | ref (k : Nm) (off len : Nat)           -- a slice of an array that may be written
  | agg (cs : List TV)
  | tup (vs : List TV)
  | ptr (k : Nm) (off : Nat)
  | aptr (k : Nm) (n off : Nat)            -- into an array, while it has n cells
  | tptr (cs : List Tree) (off : Nat)      -- into cells that no one writes
  | map (k : Nm)
  | fn (f : Fn) (first captured : List TV)
  | iface (t : TypeId) (v : TV)
  | any                                    -- nothing known
  deriving Inhabited

inductive AObj where
  | cells (ty : TypeId) (cs : List TV)
  | arr (g : TypeId × Bool) (esz : Nat) (fz : Bool) (cs : List TV)
  | map (es : List (TV × TV × Nat)) (clock : Nat)
  | dead
  deriving Inhabited

abbrev Heap := List (Nm × AObj)

def Heap.get (H : Heap) (k : Nm) : Option AObj :=
  match H with
  | [] => none
  | (k', o) :: r => if k' = k then some o else Heap.get r k

/-- one object turned, or laid -/
def Heap.put (H : Heap) (k : Nm) (o : AObj) : Heap :=
  match H with
  | [] => [(k, o)]
  | (k', o') :: r => if k' = k then (k, o) :: r else (k', o') :: Heap.put r k o

def Heap.puts (H : Heap) (u : List (Nm × AObj)) : Heap := u.foldl (fun h p => h.put p.1 p.2) H

def Tree.cells : Tree → List Tree
  | .agg cs => cs
  | x => [x]

def TV.cells : TV → List TV
  | .t (.agg cs) => cs.map .t
  | .agg cs => cs
  | v => [v]

/-- one cell holds it -/
def Tree.leaf : Tree → Bool
  | .agg _ => false
  | .tup _ => false
  | _ => true

def TV.leaf : TV → Bool
  | .t x => x.leaf
  | .any => false
  | .agg _ => false
  | .tup _ => false
  | _ => true

def isAggT : TV → Bool
  | .t (.agg _) => true
  | .agg _ => true
  | _ => false

def allT : List TV → Option (List Tree)
  | [] => some []
  | .t x :: r => match allT r with
    | some xs => some (x :: xs)
    | none => none
  | _ :: _ => none

def mkAgg (cs : List TV) : TV :=
  match allT cs with
  | some ts => .t (.agg ts)
  | none => .agg cs

def mkTup (cs : List TV) : TV :=
  match allT cs with
  | some ts => .t (.tup ts)
  | none => .tup cs

def undefT : TV := .t (.tup [])

/-- the flat cells of a row of elements -/
def flat (es : List Tree) : List Tree := es.flatMap Tree.cells

/-! ### Constants -/
def leafOf : Value → Option TV
  | .bool b => some (.t (.bool b))
  | .int k n => some (.t (.int k n))
  | .string s => some (.t (.str s.data.toList))
  | .slice none 0 0 => some .nils
  | .pointer none => some (.t .nilptr)
  | .map none => some (.t .nilmap)
  | .nilFunc => some (.t .nilfn)
  | .nilIface => some (.t .nilif)
  | .func f fs cs => if fs.isEmpty && cs.isEmpty then some (.t (.fn f)) else none
  | _ => none

def leavesOf : List Value → Option (List TV)
  | [] => some []
  | v :: r => match leafOf v, leavesOf r with
    | some x, some xs => some (x :: xs)
    | _, _ => none

def valOf : Value → Option TV
  | .agg cs => match leavesOf cs.toList with
    | some xs => some (mkAgg xs)
    | none => none
  | .tuple cs => match leavesOf cs.toList with
    | some xs => some (mkTup xs)
    | none => none
  | v => leafOf v

/-! ### Back: data that has just one value -/
def leafV : TV → Option Value
  | .t (.bool b) => some (.bool b)
  | .t (.int k n) => some (.int k n)
  | .t (.str s) => some (.string ⟨s.toArray⟩)
  | .nils => some (.slice none 0 0)
  | .t .nilptr => some (.pointer none)
  | .t .nilmap => some (.map none)
  | .t .nilfn => some .nilFunc
  | .t .nilif => some .nilIface
  | _ => none

def leavesV : List TV → Option (List Value)
  | [] => some []
  | v :: r => match leafV v, leavesV r with
    | some x, some xs => some (x :: xs)
    | _, _ => none

def flatV : TV → Option Value
  | .t (.agg cs) => match leavesV (cs.map .t) with
    | some vs => some (.agg vs.toArray)
    | none => none
  | .agg cs => match leavesV cs with
    | some vs => some (.agg vs.toArray)
    | none => none
  | v => leafV v

def dataV : TV → Option Value
  | .t (.iface t x) => match flatV (.t x) with
    | some v => some (.iface t v)
    | none => none
  | .iface t x => match flatV x with
    | some v => some (.iface t v)
    | none => none
  | v => flatV v

/-- a run that asks the program alone -/
def pureRun {α : Type} (P : Program) : Sem α → Option α
  | .pure a => some a
  | .program k => pureRun P (k P)
  | _ => none

/-! ### What a type is -/
structure TI where
  size : Nat
  bytes : Nat
  agg : Bool
  zero : Option TV
  desc : TypeDesc

def tyOf0 (P : Program) (t : TypeId) : Option TI :=
  match P.info? t, P.underlying t with
  | some i, some d => some { size := i.size, bytes := i.bytes, agg := (match d with | .struct _ | .array _ _ => true | _ => false), zero := i.zero.bind valOf, desc := d }
  | _, _ => none

/-- a program with tables of its types and functions -/
structure Prg where
  prog : Program
  ty : TypeId → Option TI
  fn : FuncId → Option Func
  tyOk : ∀ t i, ty t = some i → tyOf0 prog t = some i
  fnOk : ∀ f g, fn f = some g → prog.funcs[f]? = some g

instance : Coe Prg Program := ⟨Prg.prog⟩

def tyOf (P : Prg) (t : TypeId) : Option TI := P.ty t

/-! ### Reading and writing -/
def partT (agg : Bool) (size : Nat) (cs : List TV) (off : Nat) : Option TV :=
  if agg then (if off + size ≤ cs.length then some (mkAgg ((cs.drop off).take size)) else none) else cs[off]?

def cellsAt (H : Heap) : TV → Option (List TV × Nat)
  | .ptr k off => match H.get k with
    | some (.cells _ cs) => some (cs, off)
    | _ => none
  | .aptr k n off => match H.get k with
    | some (.arr _ _ _ cs) => if cs.length = n then some (cs, off) else none
    | _ => none
  | .tptr cs off => some (cs.map .t, off)
  | _ => none

def loadT (P : Prg) (H : Heap) (t : TypeId) (a : TV) : Option TV :=
  match tyOf P t, cellsAt H a with
  | some ti, some (cs, off) => partT ti.agg ti.size cs off
  | _, _ => none

def setRange (cs : List TV) (off : Nat) (vs : List TV) : List TV := cs.take off ++ vs ++ cs.drop (off + vs.length)

def storeT (P : Prg) (H : Heap) (t : TypeId) (a x : TV) : Option (List (Nm × AObj)) :=
  match tyOf P t with
  | none => none
  | some ti =>
    if x.cells.length = ti.size ∧ x.cells.all TV.leaf = true then
      match a with
      | .ptr k off => match H.get k with
        | some (.cells ty cs) => if off + ti.size ≤ cs.length then some [(k, .cells ty (setRange cs off x.cells))] else none
        | _ => none
      | .aptr k n off => match H.get k with
        | some (.arr g esz false cs) => if cs.length = n ∧ off + ti.size ≤ cs.length then some [(k, .arr g esz false (setRange cs off x.cells))] else none
        | _ => none
      | _ => none
    else none

def ptrAdd (H : Heap) (a : TV) (n : Nat) : Option TV :=
  match a with
  | .ptr k o => some (.ptr k (o + n))
  | .aptr k m o => match H.get k with
    | some (.arr _ _ _ cs) => if cs.length = m then some (.aptr k m (o + n)) else none
    | _ => none
  | .tptr cs o => some (.tptr cs (o + n))
  | _ => none

/-- the parts of a literal, laid over its zero cells -/
def fillT (place : Nat → Option (Nat × Nat)) (cells : List TV) : List (Nat × TV) → Option (List TV)
  | [] => some cells
  | (i, v) :: rest =>
    match place i with
    | none => none
    | some (off, size) => if v.cells.length = size ∧ off + size ≤ cells.length ∧ v.cells.all TV.leaf = true then fillT place (setRange cells off v.cells) rest else none

def fieldPlaces (P : Prg) (fs : List Field) : Option (List (Nat × Nat)) :=
  match fs with
  | [] => some []
  | f :: r => match tyOf P f.type, fieldPlaces P r with
    | some ti, some ps => some ((f.offset, ti.size) :: ps)
    | _, _ => none

def buildT (P : Prg) (t : TypeId) (parts : List (Nat × TV)) : Option TV :=
  match tyOf P t with
  | none => none
  | some ti =>
    match ti.zero, ti.desc with
    | some z, .struct fs => match fieldPlaces P fs.toList with
      | some ps => match fillT (fun i => ps[i]?) z.cells parts with
        | some cs => some (mkAgg cs)
        | none => none
      | none => none
    | some z, .array _ elem => match tyOf P elem with
      | some te => match fillT (fun i => some (i * te.size, te.size)) z.cells parts with
        | some cs => some (mkAgg cs)
        | none => none
      | none => none
    | _, _ => none

/-- cells cut into elements -/
def chunk (agg : Bool) (size : Nat) : Nat → List Tree → Option (List Tree)
  | 0, cs => if cs.isEmpty then some [] else none
  | n + 1, cs =>
    if size ≤ cs.length then
      match chunk agg size n (cs.drop size) with
      | some r => if agg then some (.agg (cs.take size) :: r) else match cs with
        | c :: _ => if size = 1 ∧ c.leaf = true then some (c :: r) else none
        | [] => none
      | none => none
    else none

def reps (n : Nat) (z : List TV) : List TV := match n with
  | 0 => []
  | n + 1 => z ++ reps n z

def toIndex : TV → Option Nat
  | .t (.int _ n) => if 0 ≤ n then some n.toNat else none
  | _ => none

end Go.Abs

namespace Go.Abs
open Go

/-- Frozen cells: block, offset. -/
abbrev Froz := Nat → Nat → Option Value

inductive VT (F : Froz) : Tree → Value → Prop
  | bool (b) : VT F (.bool b) (.bool b)
  | int (k n) : VT F (.int k n) (.int k n)
  | str (s) : VT F (.str s) (.string ⟨s.toArray⟩)
  | sl0 (a cap) : VT F (.sl []) (.slice a 0 cap)
  | sl (esz es b o cap) (vals : Nat → Value) (hne : es ≠ []) (hc : es.length ≤ cap)
      (hu : ∀ e ∈ es, e.cells.length = esz) (hF : ∀ j c, (flat es)[j]? = some c → F b (o + j) = some (vals j))
      (hv : ∀ j c, (flat es)[j]? = some c → VT F c (vals j)) : VT F (.sl es) (.slice (some ⟨b, o, none⟩) es.length cap)
  | agg (cs) (vs : List Value) (hl : vs.length = cs.length) (h : ∀ (j : Nat) c v, cs[j]? = some c → vs[j]? = some v → VT F c v) : VT F (.agg cs) (.agg vs.toArray)
  | tup (cs) (vs : List Value) (hl : vs.length = cs.length) (h : ∀ (j : Nat) c v, cs[j]? = some c → vs[j]? = some v → VT F c v) : VT F (.tup cs) (.tuple vs.toArray)
  | nilptr : VT F .nilptr (.pointer none)
  | nilmap : VT F .nilmap (.map none)
  | nilfn : VT F .nilfn .nilFunc
  | fn (f) : VT F (.fn f) (.func f #[] #[])
  | nilif : VT F .nilif .nilIface
  | iface (t x v) (h : VT F x v) : VT F (.iface t x) (.iface t v)

theorem VT.mono {F F' : Froz} (hF : ∀ b o v, F b o = some v → F' b o = some v) {x : Tree} {v : Value} (h : VT F x v) : VT F' x v := by
  induction h with
  | bool => exact .bool _
  | int => exact .int _ _
  | str => exact .str _
  | sl0 a c => exact .sl0 a c
  | sl e es b o cap vals hne hc hu hf hv ih => exact .sl e es b o cap vals hne hc hu (fun j c h => hF _ _ _ (hf j c h)) ih
  | agg cs vs hl h ih => exact .agg cs vs hl ih
  | tup cs vs hl h ih => exact .tup cs vs hl ih
  | nilptr => exact .nilptr
  | nilmap => exact .nilmap
  | nilfn => exact .nilfn
  | fn => exact .fn _
  | nilif => exact .nilif
  | iface t x v h ih => exact .iface t x v ih

/-- What the proof knows of the world beside it: frozen cells; where each name's block is; of an array its length in cells, its element's size, its capacity in elements; which names are taken. -/
structure Gh where
  F : Froz
  mu : Nm → Nat
  arr : Nm → Option (Nat × Nat × Nat)
  dom : Nm → Prop

/-- one cell holds it -/
def one : Value → Bool
  | .agg _ => false
  | .tuple _ => false
  | _ => true

inductive VR (G : Gh) : TV → Value → Prop
  | t (x v) (h : VT G.F x v) : VR G (.t x) v
  | nils : VR G .nils (.slice none 0 0)
  | tsl (es a) (h : VT G.F (.sl es) (.slice a es.length es.length)) : VR G (.tsl es) (.slice a es.length es.length)
  | ref (k off len n esz cap v) (hd : G.dom k) (ha : G.arr k = some (n, esz, cap)) (hle : (off + len) * esz ≤ n) (ho : ∃ a c, v = .slice a len c)
      (hv : (off + len) * esz = n → ∃ a, v = .slice a len (cap - off) ∧ (off < cap → a = some ⟨G.mu k, off * esz, none⟩)) : VR G (.ref k off len) v
  | agg (cs) (vs : List Value) (hl : vs.length = cs.length) (h : ∀ (j : Nat) c v, cs[j]? = some c → vs[j]? = some v → VR G c v) : VR G (.agg cs) (.agg vs.toArray)
  | tup (cs) (vs : List Value) (hl : vs.length = cs.length) (h : ∀ (j : Nat) c v, cs[j]? = some c → vs[j]? = some v → VR G c v) : VR G (.tup cs) (.tuple vs.toArray)
  | ptr (k off) (hd : G.dom k) (hn : G.arr k = none) : VR G (.ptr k off) (.pointer (some ⟨G.mu k, off, none⟩))
  | aptr (k n off n' esz cap v) (hd : G.dom k) (ha : G.arr k = some (n', esz, cap)) (hle : n ≤ n') (ho : ∃ ad, v = .pointer (some ad)) (hv : n = n' → v = .pointer (some ⟨G.mu k, off, none⟩)) : VR G (.aptr k n off) v
  | tptr (cs off b o) (vals : Nat → Value) (hF : ∀ j c, cs[j]? = some c → G.F b (o + j) = some (vals j)) (hv : ∀ j c, cs[j]? = some c → VT G.F c (vals j)) :
      VR G (.tptr cs off) (.pointer (some ⟨b, o + off, none⟩))
  | map (k) (hd : G.dom k) (hn : G.arr k = none) : VR G (.map k) (.map (some (G.mu k)))
  | fn (f fs cs) (vs ws : List Value) (hl : vs.length = fs.length) (h : ∀ (j : Nat) c v, fs[j]? = some c → vs[j]? = some v → VR G c v)
      (hl' : ws.length = cs.length) (h' : ∀ (j : Nat) c v, cs[j]? = some c → ws[j]? = some v → VR G c v) : VR G (.fn f fs cs) (.func f vs.toArray ws.toArray)
  | iface (t x v) (h : VR G x v) : VR G (.iface t x) (.iface t v)
  | any (v) : VR G .any v

/-- one ghost behind another -/
structure Gh.le (G G' : Gh) : Prop where
  F : ∀ b o v, G.F b o = some v → G'.F b o = some v
  dom : ∀ k, G.dom k → G'.dom k
  plain : ∀ k, G.dom k → G.arr k = none → G'.arr k = none ∧ G'.mu k = G.mu k
  arr : ∀ k n e c, G.dom k → G.arr k = some (n, e, c) → ∃ n' c', G'.arr k = some (n', e, c') ∧ n ≤ n' ∧ (n = n' → c' = c ∧ G'.mu k = G.mu k)

theorem Gh.le.refl (G : Gh) : G.le G := ⟨fun _ _ _ h => h, fun _ h => h, fun _ _ h => ⟨h, rfl⟩, fun _ n _ c _ h => ⟨n, c, h, Nat.le_refl _, fun _ => ⟨rfl, rfl⟩⟩⟩

theorem Gh.le.trans {A B C : Gh} (h : A.le B) (k : B.le C) : A.le C := by
  refine ⟨fun b o v x => k.F _ _ _ (h.F _ _ _ x), fun x d => k.dom _ (h.dom _ d), fun x d a => ?_, fun x n e c d a => ?_⟩
  · obtain ⟨a1, m1⟩ := h.plain x d a
    obtain ⟨a2, m2⟩ := k.plain x (h.dom _ d) a1
    exact ⟨a2, m2.trans m1⟩
  · obtain ⟨n1, c1, a1, l1, e1⟩ := h.arr x n e c d a
    obtain ⟨n2, c2, a2, l2, e2⟩ := k.arr x n1 e c1 (h.dom _ d) a1
    refine ⟨n2, c2, a2, Nat.le_trans l1 l2, fun e => ?_⟩
    obtain ⟨p1, q1⟩ := e1 (by omega)
    obtain ⟨p2, q2⟩ := e2 (by omega)
    exact ⟨p2.trans p1, q2.trans q1⟩

theorem VR.mono {G G' : Gh} (hG : G.le G') {x : TV} {v : Value} (h : VR G x v) : VR G' x v := by
  induction h with
  | t x v h => exact .t x v (h.mono hG.F)
  | nils => exact .nils
  | tsl es a h => exact .tsl es a (h.mono hG.F)
  | ref k off len n esz cap v hd ha hle ho hv =>
    obtain ⟨n', c', a', l', e'⟩ := hG.arr k n esz cap hd ha
    refine .ref k off len n' esz c' v (hG.dom _ hd) a' (Nat.le_trans hle l') ho fun hh => ?_
    obtain ⟨p, q⟩ := e' (by omega)
    obtain ⟨a, hva, hb⟩ := hv (by omega)
    rw [p, q]
    exact ⟨a, hva, hb⟩
  | agg cs vs hl h ih => exact .agg cs vs hl ih
  | tup cs vs hl h ih => exact .tup cs vs hl ih
  | ptr k off hd hn =>
    obtain ⟨a, m⟩ := hG.plain k hd hn
    rw [← m]
    exact .ptr k off (hG.dom _ hd) a
  | aptr k n off n' esz cap v hd ha hle ho hv =>
    obtain ⟨n2, c', a', l', e'⟩ := hG.arr k n' esz cap hd ha
    refine .aptr k n off n2 esz c' v (hG.dom _ hd) a' (Nat.le_trans hle l') ho fun hh => ?_
    obtain ⟨p, q⟩ := e' (by omega)
    rw [hv (by omega), q]
  | tptr cs off b o vals hF hv => exact .tptr cs off b o vals (fun j c h => hG.F _ _ _ (hF j c h)) (fun j c h => (hv j c h).mono hG.F)
  | map k hd hn =>
    obtain ⟨a, m⟩ := hG.plain k hd hn
    rw [← m]
    exact .map k (hG.dom _ hd) a
  | fn f fs cs vs ws hl h hl' h' ih ih' => exact .fn f fs cs vs ws hl ih hl' ih'
  | iface t x v h ih => exact .iface t x v ih
  | any v => exact .any v

/-- lists, place by place -/
def VRs (G : Gh) (cs : List TV) (vs : List Value) : Prop := vs.length = cs.length ∧ ∀ (j : Nat) c v, cs[j]? = some c → vs[j]? = some v → VR G c v

theorem VRs.mono {G G' : Gh} (hG : G.le G') {cs : List TV} {vs : List Value} (h : VRs G cs vs) : VRs G' cs vs := ⟨h.1, fun j c v a b => (h.2 j c v a b).mono hG⟩

theorem VRs.nil (G : Gh) : VRs G [] [] := ⟨rfl, by simp⟩
theorem VRs.cons {G : Gh} {c : TV} {v : Value} {cs : List TV} {vs : List Value} (h : VR G c v) (hs : VRs G cs vs) : VRs G (c :: cs) (v :: vs) := by
  refine ⟨by simp [hs.1], fun j d u hd hu => ?_⟩
  cases j with
  | zero => simp at hd hu; subst hd; subst hu; exact h
  | succ j => simp at hd hu; exact hs.2 j d u hd hu

theorem VRs.uncons {G : Gh} {c : TV} {cs : List TV} {vs : List Value} (h : VRs G (c :: cs) vs) : ∃ v vs', vs = v :: vs' ∧ VR G c v ∧ VRs G cs vs' := by
  obtain ⟨hl, hp⟩ := h
  cases vs with
  | nil => simp at hl
  | cons v vs' =>
    refine ⟨v, vs', rfl, hp 0 c v rfl rfl, by simpa using hl, fun j d u hd hu => hp (j + 1) d u (by simpa using hd) (by simpa using hu)⟩

theorem VRs.at {G : Gh} {cs : List TV} {vs : List Value} (h : VRs G cs vs) {j : Nat} {c : TV} (hc : cs[j]? = some c) : ∃ v, vs[j]? = some v ∧ VR G c v := by
  have hj : j < cs.length := (List.getElem?_eq_some_iff.1 hc).1
  have hj' : j < vs.length := by rw [h.1]; exact hj
  exact ⟨vs[j], List.getElem?_eq_getElem hj', h.2 j c _ hc (List.getElem?_eq_getElem hj')⟩

theorem VRs.append {G : Gh} {cs ds : List TV} {vs ws : List Value} (h : VRs G cs vs) (k : VRs G ds ws) : VRs G (cs ++ ds) (vs ++ ws) := by
  refine ⟨by simp [h.1, k.1], fun j c v hc hv => ?_⟩
  by_cases hj : j < cs.length
  · rw [List.getElem?_append_left hj] at hc
    rw [List.getElem?_append_left (by rw [h.1]; exact hj)] at hv
    exact h.2 j c v hc hv
  · rw [List.getElem?_append_right (by omega)] at hc
    rw [List.getElem?_append_right (by rw [h.1]; omega), h.1] at hv
    exact k.2 _ c v hc hv

theorem VRs.drop {G : Gh} {cs : List TV} {vs : List Value} (h : VRs G cs vs) (n : Nat) : VRs G (cs.drop n) (vs.drop n) :=
  ⟨by simp [h.1], fun j c v hc hv => by rw [List.getElem?_drop] at hc hv; exact h.2 _ c v hc hv⟩

theorem VRs.take {G : Gh} {cs : List TV} {vs : List Value} (h : VRs G cs vs) (n : Nat) : VRs G (cs.take n) (vs.take n) :=
  ⟨by simp [h.1], fun j c v hc hv => by
    rw [List.getElem?_take] at hc hv
    split at hc
    · rename_i hlt; rw [if_pos hlt] at hv; exact h.2 _ c v hc hv
    · simp at hc⟩

end Go.Abs

noncomputable section
namespace Go.Abs
open Go

/-! ### Freezing: an array's cells become a tree; nil and tight slices become slices. -/
def frzs (g : TV → Option (Tree × List Nm)) : List TV → Option (List Tree × List Nm)
  | [] => some ([], [])
  | v :: r => match g v, frzs g r with
    | some (x, ks), some (xs, ks') => some (x :: xs, ks ++ ks')
    | _, _ => none

/-- the tree that a value is, if it is data; the arrays that it froze -/
def frz (H : Heap) : Nat → TV → Option (Tree × List Nm)
  | _, .t x => some (x, [])
  | _, .nils => some (.sl [], [])
  | _, .tsl es => some (.sl es, [])
  | 0, _ => none
  | n + 1, .ref k off len => match H.get k with
    | some (.arr g esz _ cs) =>
      if 0 < esz ∧ (off + len) * esz = cs.length then
        match frzs (frz H n) ((cs.drop (off * esz)).take (len * esz)) with
        | some (ts, ks) => match chunk g.2 esz len ts with
          | some es => some (.sl es, k :: ks)
          | none => none
        | none => none
      else none
    | _ => none
  | n + 1, .agg cs => match frzs (frz H n) cs with
    | some (ts, ks) => some (.agg ts, ks)
    | none => none
  | n + 1, .tup cs => match frzs (frz H n) cs with
    | some (ts, ks) => some (.tup ts, ks)
    | none => none
  | n + 1, .iface t v => match frz H n v with
    | some (x, ks) => some (.iface t x, ks)
    | none => none
  | _ + 1, .fn f [] [] => some (.fn f, [])
  | _ + 1, _ => none

def frzFuel : Nat := 24

/-- the arrays, marked as frozen -/
def Heap.freeze (H : Heap) : List Nm → Heap
  | [] => H
  | k :: ks => match H.get k with
    | some (.arr g esz _ cs) => Heap.freeze (H.put k (.arr g esz true cs)) ks
    | _ => Heap.freeze H ks

/-! ### Scalars -/
def bytesLessT : List UInt8 → List UInt8 → Bool
  | _, [] => false
  | [], _ :: _ => true
  | a :: x, b :: y => a < b || (a == b && bytesLessT x y)

def maxStr : Nat := 4611686018427387904

def strT (op : BinOp) (x y : List UInt8) : Option TV :=
  match op with
  | .add => if x.length + y.length ≤ maxStr then some (.t (.str (x ++ y))) else none
  | .eql => some (.t (.bool (x == y)))
  | .neq => some (.t (.bool (!(x == y))))
  | .lss => some (.t (.bool (bytesLessT x y)))
  | .leq => some (.t (.bool (bytesLessT x y || x == y)))
  | .gtr => some (.t (.bool (!(bytesLessT x y || x == y))))
  | .geq => some (.t (.bool (!(bytesLessT x y))))
  | _ => none

/-- x == nil, where one side is the nil of a type of slices, maps, functions, pointers, interfaces -/
def nilEq (d : TypeDesc) (a b : TV) : Option Bool :=
  match d, a, b with
  | .slice _, .nils, .nils => some true
  | .slice _, .t (.sl (_ :: _)), .nils => some false
  | .slice _, .tsl (_ :: _), .nils => some false
  | .slice _, .ref _ _ _, .nils => none
  | .map _ _, .t .nilmap, .t .nilmap => some true
  | .map _ _, .map _, .t .nilmap => some false
  | .func _ _ _, .t .nilfn, .t .nilfn => some true
  | .func _ _ _, .fn _ _ _, .t .nilfn => some false
  | .func _ _ _, .t (.fn _), .t .nilfn => some false
  | .pointer _, .t .nilptr, .t .nilptr => some true
  | .pointer _, .ptr _ _, .t .nilptr => some false
  | .pointer _, .tptr _ _, .t .nilptr => some false
  | _, _, _ => none

/-- an operator on data -/
def dataBin (P : Prg) (op : BinOp) (t : TypeId) (x y : Operand) (a b : TV) : Option TV :=
  match dataV a, dataV b with
  | some u, some v => match pureRun P (do eqGuard op t x y u v; binOp op t u v) with
    | some r => valOf r
    | none => none
  | _, _ => none

def isNil : TV → Bool
  | .nils => true
  | .t .nilmap => true
  | .t .nilfn => true
  | .t .nilptr => true
  | _ => false

/-- integers, without the model's run -/
def intT (op : BinOp) (k : IntKind) (a b : Int) : Option TV :=
  match op with
  | .add => some (.t (.int k (k.wrap (a + b))))
  | .sub => some (.t (.int k (k.wrap (a - b))))
  | .mul => some (.t (.int k (k.wrap (a * b))))
  | .quo => if b = 0 then none else some (.t (.int k (k.wrap (a.tdiv b))))
  | .rem => if b = 0 then none else some (.t (.int k (a.tmod b)))
  | .eql => some (.t (.bool (a == b)))
  | .neq => some (.t (.bool (a != b)))
  | .lss => some (.t (.bool (decide (a < b))))
  | .leq => some (.t (.bool (decide (a ≤ b))))
  | .gtr => some (.t (.bool (decide (a > b))))
  | .geq => some (.t (.bool (decide (a ≥ b))))
  | _ => none

def binT (P : Prg) (op : BinOp) (t : TypeId) (x y : Operand) (a b : TV) : Option TV :=
  match a, b with
  | .t (.str s), .t (.str u) => strT op s u
  | .t (.int k n), .t (.int k' m) => if k = k' then (match intT op k n m with | some v => some v | none => dataBin P op t x y (.t (.int k n)) (.t (.int k' m))) else dataBin P op t x y (.t (.int k n)) (.t (.int k' m))
  | a, b =>
    if isNil b then
      match op, tyOf P t with
      | .eql, some ti => (nilEq ti.desc a b).map fun r => .t (.bool r)
      | .neq, some ti => (nilEq ti.desc a b).map fun r => .t (.bool (!r))
      | _, _ => none
    else dataBin P op t x y a b

def unT (P : Prg) (op : UnOp) (a : TV) : Option TV :=
  match dataV a with
  | some u => match pureRun P (Op.unary op u) with
    | some r => valOf r
    | none => none
  | none => none

/-! ### Slices -/
def lenT (H : Heap) : TV → Option Nat
  | .t (.str s) => some s.length
  | .t (.sl es) => some es.length
  | .nils => some 0
  | .tsl es => some es.length
  | .ref _ _ len => some len
  | .t .nilmap => some 0
  | .map k => match H.get k with
    | some (.map es _) => some es.length
    | _ => none
  | _ => none

/-- the length of a slice of an array, at its end -/
def refOk (H : Heap) (k : Nm) (off len : Nat) : Option ((TypeId × Bool) × Nat × Bool × List TV) :=
  match H.get k with
  | some (.arr g esz fz cs) => if 0 < esz ∧ (off + len) * esz = cs.length then some (g, esz, fz, cs) else none
  | _ => none

def indexAddrT (P : Prg) (H : Heap) (t : TypeId) (x i : TV) : Option TV :=
  match tyOf P t, toIndex i with
  | some ti, some i =>
    match ti.desc, x with
    | .slice elem, .t (.sl es) => match tyOf P elem, es[i]? with
      | some te, some e => if e.cells.length = te.size then some (.tptr e.cells 0) else none
      | _, _ => none
    | .slice elem, .tsl es => match tyOf P elem, es[i]? with
      | some te, some e => if e.cells.length = te.size then some (.tptr e.cells 0) else none
      | _, _ => none
    | .slice elem, .ref k off len => match tyOf P elem, refOk H k off len with
      | some te, some (_, esz, _, cs) => if te.size = esz ∧ i < len then some (.aptr k cs.length ((off + i) * esz)) else none
      | _, _ => none
    | .array len elem, x => match tyOf P elem with
      | some te => if i < len then ptrAdd H x (i * te.size) else none
      | none => none
    | _, _ => none
  | _, _ => none

def indexT (P : Prg) (t : TypeId) (x i : TV) : Option TV :=
  match tyOf P t, toIndex i with
  | some ti, some i =>
    match ti.desc, x with
    | .string, .t (.str s) => match s[i]? with
      | some b => some (.t (.int .u8 b.toNat))
      | none => none
    | .array len elem, x => match tyOf P elem with
      | some te => if i < len ∧ te.size ≠ 0 ∧ isAggT x = true then partT te.agg te.size x.cells (i * te.size) else none
      | none => none
    | _, _ => none
  | _, _ => none

def optIndex (o : Option TV) (d : Nat) : Option Nat :=
  match o with
  | none => some d
  | some v => toIndex v

/-- the elements are of the size that the type says -/
def headOk (size : Nat) : List Tree → Bool
  | [] => true
  | e :: _ => e.cells.length == size

/-- a piece of a tree's elements -/
def cutT (tight : Bool) (es : List Tree) (l h : Nat) : TV := if tight then .tsl ((es.take h).drop l) else .t (.sl ((es.take h).drop l))

/-- x[lo:hi:max], and the arrays that it froze -/
def sliceT (P : Prg) (H : Heap) (t : TypeId) (x : TV) (lo hi mx : Option TV) : Option (TV × List Nm) :=
  match tyOf P t with
  | none => none
  | some ti =>
    match ti.desc with
    | .string => match x with
      | .t (.str s) => match optIndex lo 0, optIndex hi s.length, mx with
        | some l, some h, none => if l ≤ h ∧ h ≤ s.length then some (.t (.str ((s.take h).drop l)), []) else none
        | _, _, _ => none
      | _ => none
    | .slice elem => match tyOf P elem, lenT H x with
      | some te, some n =>
        match optIndex lo 0, optIndex hi n, optIndex mx n, (mx.isNone || hi.isSome) with
        | some l, some h, some m, true =>
          if l ≤ h ∧ h ≤ m ∧ m ≤ n then
            match x with
            | .nils => some (.nils, [])
            | .t (.sl es) => if headOk te.size es = true then some (cutT (mx.isSome && m == h) es l h, []) else none
            | .tsl es => if headOk te.size es = true then some (cutT ((mx.isSome && m == h) || (mx.isNone && h == n)) es l h, []) else none
            | .ref k off len =>
              if h = len ∧ mx.isNone = true then (match refOk H k off len with
                | some (_, esz, _, _) => if esz = te.size then some (.ref k (off + l) (h - l), []) else none
                | none => none)
              else match frz H frzFuel (.ref k off len) with
                | some (.sl es, ks) => if headOk te.size es = true then some (cutT (mx.isSome && m == h) es l h, ks) else none
                | _ => none
            | _ => none
          else none
        | _, _, _, _ => none
      | _, _ => none
    | _ => none

/-- the cells of what is appended, or copied: how many elements, which cells -/
def srcCells (H : Heap) (g : Bool) (esz : Nat) : TV → Option (Nat × List TV)
  | .nils => some (0, [])
  | .t (.sl es) => if headOk esz es = true then some (es.length, (flat es).map .t) else none
  | .tsl es => if headOk esz es = true then some (es.length, (flat es).map .t) else none
  | .ref k off len => match refOk H k off len with
    | some (_, e, _, cs) => if e = esz then some (len, cs.drop (off * esz)) else none
    | none => none
  | .t (.str s) => if esz = 1 ∧ g = false then some (s.length, s.map fun b => .t (.int .u8 b.toNat)) else none
  | _ => none

def maxBytes : Nat := 70368744177664

/-- append(s, x...): the slice, and what is written -/
def appendT (P : Prg) (nm : Nm) (H : Heap) (st xt : TypeId) (s x : TV) : Option (TV × List (Nm × AObj)) :=
  match tyOf P st, tyOf P xt with
  | some ti, some tx =>
    match ti.desc, (match tx.desc with | .slice _ => true | .string => true | _ => false) with
    | .slice elem, true => match tyOf P elem with
      | some te => match te.zero with
        | none => none
        | some z =>
          if te.size = 0 ∨ z.cells.length ≠ te.size ∨ te.bytes = 0 then none else
          match srcCells H te.agg te.size x with
          | some (m, cs) =>
            if m = 0 then (match s with
              | .nils => some (.nils, [])
              | .t (.sl es) => some (.t (.sl es), [])
              | .tsl es => some (.tsl es, [])
              | .ref k off len => if (refOk H k off len).isSome = true then some (.ref k off len, []) else none
              | _ => none)
            else if cs.all TV.leaf = true then
              match s with
              | .nils => if m * te.bytes ≤ maxBytes then some (.ref nm 0 m, [(nm, .arr (elem, te.agg) te.size false cs)]) else none
              | .tsl es => match srcCells H te.agg te.size (.tsl es) with
                | some (n, old) => if (n + m) * te.bytes ≤ maxBytes then some (.ref nm 0 (n + m), [(nm, .arr (elem, te.agg) te.size false (old ++ cs))]) else none
                | none => none
              | .ref k 0 len => match refOk H k 0 len with
                | some (g, e, fz, old) => if e = te.size ∧ g.1 = elem ∧ (len + m) * te.bytes ≤ maxBytes then some (.ref k 0 (len + m), [(k, .arr g e fz (old ++ cs))]) else none
                | none => none
              | _ => none
            else none
          | none => none
      | none => none
    | _, _ => none
  | _, _ => none

def copyT (P : Prg) (H : Heap) (dt : TypeId) (d x : TV) : Option (TV × List (Nm × AObj)) :=
  match tyOf P dt with
  | some ti => match ti.desc with
    | .slice elem => match tyOf P elem with
      | some te => match d, srcCells H te.agg te.size x with
        | .nils, some _ => some (.t (.int .i64 0), [])
        | .ref k off len, some (m, cs) => match refOk H k off len with
          | some (g, e, false, old) => if e = te.size ∧ cs.all TV.leaf = true then some (.t (.int .i64 ((min m len : Nat) : Int)), [(k, .arr g e false (setRange old (off * e) (cs.take ((min m len) * e))))]) else none
          | _ => none
        | _, _ => none
      | none => none
    | _ => none
  | none => none

def makeSliceT (P : Prg) (nm : Nm) (t : TypeId) (len cap : TV) : Option (TV × List (Nm × AObj)) :=
  match tyOf P t, toIndex len, toIndex cap with
  | some ti, some l, some c => match ti.desc with
    | .slice elem => match tyOf P elem with
      | some te => match te.zero with
        | some z => if l ≤ c ∧ c * te.bytes ≤ maxBytes ∧ c ≤ maxBytes ∧ 0 < te.size ∧ z.cells.length = te.size ∧ z.cells.all TV.leaf = true then some (.ref nm 0 l, [(nm, .arr (elem, te.agg) te.size false (reps l z.cells))]) else none
        | none => none
      | none => none
    | _ => none
  | _, _, _ => none

/-- a slice's literal: data alone is a tight slice, unless an array is asked for -/
def buildSliceT (P : Prg) (asArr : Bool) (nm : Nm) (t : TypeId) (len : Nat) (parts : List (Nat × TV)) : Option (TV × List (Nm × AObj)) :=
  match tyOf P t with
  | some ti => match ti.desc with
    | .slice elem => match tyOf P elem with
      | some te => match te.zero with
        | some z =>
          if 0 < te.size ∧ len * te.size ≤ 16777216 ∧ z.cells.length = te.size ∧ z.cells.all TV.leaf = true then
            match fillT (fun i => some (i * te.size, te.size)) (reps len z.cells) parts with
            | some cs => match asArr, (allT cs).bind (chunk te.agg te.size len) with
              | false, some es => some (.tsl es, [])
              | _, _ => some (.ref nm 0 len, [(nm, .arr (elem, te.agg) te.size false cs)])
            | none => none
          else none
        | none => none
      | none => none
    | _ => none
  | none => none

/-! ### Maps -/
def keyEq (P : Prg) (kt : TypeId) (d : TypeDesc) (k k' : TV) : Option Bool :=
  match dataV k, dataV k' with
  | some u, some u' =>
    match d with
    | .struct _ => match u, u' with
      | .agg _, .agg _ => pureRun P (Op.equal kt u u')
      | _, _ => none
    | d => Instr.sameNow d u u'
  | _, _ => none

/-- where a key is, what it has, and its stamp -/
def findK (P : Prg) (kt : TypeId) (d : TypeDesc) (k : TV) : List (TV × TV × Nat) → Nat → Option (Option (Nat × TV × Nat))
  | [], _ => some none
  | (k', v, b) :: r, i => match keyEq P kt d k k' with
    | some true => match dataV k, dataV k' with
      | some u, some u' => if Instr.sameBits 10000 u' u = true then some (some (i, v, b)) else none
      | _, _ => none
    | some false => findK P kt d k r (i + 1)
    | none => none

def keyOk (P : Prg) (empty : Bool) (kt : TypeId) (k : TV) : Bool :=
  match dataV k with
  | some u => (pureRun P (Instr.checkKey empty 10000 kt u)).isSome
  | none => false

def mapOf (H : Heap) : TV → Option (List (TV × TV × Nat) × Nat)
  | .map k => match H.get k with
    | some (.map es c) => some (es, c)
    | _ => none
  | _ => none

def lookupT (P : Prg) (H : Heap) (t : TypeId) (x k : TV) (ok : Bool) : Option TV :=
  match tyOf P t with
  | some ti => match ti.desc with
    | .map kt et => match tyOf P kt, tyOf P et, (match x with | .t .nilmap => some ([], 0) | x => mapOf H x) with
      | some tk, some te, some (es, _) =>
        if keyOk P es.isEmpty kt k = true then
          match findK P kt tk.desc k es 0, te.zero with
          | some (some (_, v, _)), _ => some (if ok then mkTup [v, .t (.bool true)] else v)
          | some none, some z => some (if ok then mkTup [z, .t (.bool false)] else z)
          | _, _ => none
        else none
      | _, _, _ => none
    | _ => none
  | none => none

def mapUpdateT (P : Prg) (H : Heap) (t : TypeId) (x k v : TV) : Option (List (Nm × AObj)) :=
  match tyOf P t, x with
  | some ti, .map m => match ti.desc, H.get m with
    | .map kt _, some (.map es c) => match tyOf P kt with
      | some tk =>
        if keyOk P false kt k = true then
          match findK P kt tk.desc k es 0 with
          | some (some (i, _, b)) => some [(m, .map (es.set i (k, v, b)) c)]
          | some none => some [(m, .map (es ++ [(k, v, c)]) (c + 1))]
          | none => none
        else none
      | none => none
    | _, _ => none
  | _, _ => none

def mapEntryT (P : Prg) (H : Heap) (t : TypeId) (x k : TV) : Option (TV × List (Nm × AObj)) :=
  match tyOf P t, x with
  | some ti, .map m => match ti.desc, H.get m with
    | .map kt et, some (.map es c) => match tyOf P kt, tyOf P et with
      | some tk, some te =>
        if keyOk P false kt k = true then
          match findK P kt tk.desc k es 0, te.zero with
          | some (some (i, v, b)), _ => some (mkTup [v, .t (.int .i64 b)], [(m, .map (es.set i (k, v, b)) c)])
          | some none, some z => some (mkTup [z, .t (.int .i64 c)], [(m, .map (es ++ [(k, z, c)]) (c + 1))])
          | _, _ => none
        else none
      | _, _ => none
    | _, _ => none
  | _, _ => none

def stampAt : List (TV × TV × Nat) → Int → Nat → Option Nat
  | [], _, _ => none
  | (_, _, b) :: r, n, i => if (b : Int) = n then some i else stampAt r n (i + 1)

def entryStoreT (H : Heap) (x s v : TV) : Option (List (Nm × AObj)) :=
  match x, s with
  | .map m, .t (.int _ n) => match H.get m with
    | some (.map es c) => match stampAt es n 0 with
      | some i => match es[i]? with
        | some (k, _, b) => some [(m, .map (es.set i (k, v, b)) c)]
        | none => none
      | none => none
    | _ => none
  | _, _ => none

/-! ### Conversions -/
def bytesOf : List TV → Option (List UInt8)
  | [] => some []
  | .t (.int .u8 n) :: r => match bytesOf r with
    | some bs => some (UInt8.ofNat n.toNat :: bs)
    | none => none
  | _ :: _ => none

def convertT (P : Prg) (asArr : Bool) (nm : Nm) (H : Heap) (src dst : TypeId) (x : TV) : Option (TV × List (Nm × AObj)) :=
  match tyOf P src, tyOf P dst with
  | some ts, some td =>
    match ts.desc, td.desc, x with
    | .string, .string, .t (.str s) => some (.t (.str s), [])
    | .string, .slice e, .t (.str s) => match tyOf P e with
      | some te => match te.desc with
        | .int .u8 => if asArr then some (.ref nm 0 s.length, [(nm, .arr (e, false) 1 false (s.map fun b => .t (.int .u8 b.toNat)))]) else some (.t (.sl (s.map fun b => .int .u8 b.toNat)), [])
        | _ => none
      | none => none
    | .slice e, .string, x => match tyOf P e with
      | some te => match te.desc, srcCells H false 1 x with
        | .int .u8, some (_, cs) => match bytesOf cs with
          | some bs => (match x with | .t (.str _) => none | _ => some (.t (.str bs), []))
          | none => none
        | _, _ => none
      | none => none
    | .int _, .int _, .t (.int k n) => match pureRun P (convert src dst (.int k n)) with
      | some r => (valOf r).map fun v => (v, [])
      | none => none
    | _, _, _ => none
  | _, _ => none

def assertT (P : Prg) (x : TV) (asserted : TypeId) (ok : Bool) : Option TV :=
  match tyOf P asserted with
  | some ta => match ta.desc, (match x with | .iface t v => some (t, v) | .t (.iface t v) => some (t, .t v) | _ => none) with
    | .interface _, _ => none
    | _, some (t, v) =>
      if t = asserted then some (if ok then mkTup [v, .t (.bool true)] else v)
      else if ok then ta.zero.map fun z => mkTup [z, .t (.bool false)] else none
    | _, none => none
  | none => none

def extractT : TV → Nat → Option TV
  | .tup vs, i => vs[i]?
  | .t (.tup vs), i => vs[i]?.map .t
  | _, _ => none

def mkFn (f : Fn) (first captured : List TV) : TV := if first.isEmpty ∧ captured.isEmpty then .t (.fn f) else .fn f first captured

def nilOk : TV → Bool
  | .ptr _ _ => true
  | .aptr _ _ _ => true
  | .tptr _ _ => true
  | .t (.fn (.func _)) => true
  | .fn (.func _) _ _ => true
  | _ => false

/-- the arrays that are frozen, as writes -/
def frozenU (H : Heap) (ks : List Nm) : List (Nm × AObj) := ks.filterMap fun k => match H.get k with
  | some (.arr g e _ cs) => some (k, .arr g e true cs)
  | _ => none

/-! ### An operation that is no call of a function of the program -/
structure Cfg where
  P : Prg
  /-- what a package-level variable holds that no one writes -/
  glob : Nat → Option (List Tree)
  /-- whether a slice's literal in a function's slot is an array that may be written -/
  asArr : FuncId → Tmp → Bool

/-- a place of a list, by the bare recursor (the kernel is quicker so) -/
def getS (l : List TV) : Nat → TV :=
  List.rec (motive := fun _ => Nat → TV) (fun _ => undefT) (fun x _ ih n => Nat.rec (motive := fun _ => TV) x (fun m _ => ih m) n) l

theorem getS_eq : ∀ (l : List TV) (t : Nat), getS l t = l.getD t undefT := by
  intro l
  induction l with
  | nil => intro t; rfl
  | cons x r ih =>
    intro t
    cases t with
    | zero => rfl
    | succ t => exact (ih t).trans (by simp)

def rhoT (C : Cfg) (slots : List TV) : Operand → Option TV
  | .tmp t => some (getS slots t)
  | .const v => valOf v
  | .global g => match C.glob g with
    | some cs => some (.tptr cs 0)
    | none => none
  | .func f => some (.t (.fn (.func f)))

def rhosT (C : Cfg) (slots : List TV) : List Operand → Option (List TV)
  | [] => some []
  | x :: r => match rhoT C slots x, rhosT C slots r with
    | some v, some vs => some (v :: vs)
    | _, _ => none

def partsT (C : Cfg) (slots : List TV) : List (Nat × Operand) → Option (List (Nat × TV))
  | [] => some []
  | (i, x) :: r => match rhoT C slots x, partsT C slots r with
    | some v, some vs => some ((i, v) :: vs)
    | _, _ => none

def optT (C : Cfg) (slots : List TV) : Option Operand → Option (Option TV)
  | none => some none
  | some x => (rhoT C slots x).map some

def noU (v : Option TV) : Option (TV × List (Nm × AObj)) := v.map fun x => (x, [])
def unitU (u : Option (List (Nm × AObj))) : Option (TV × List (Nm × AObj)) := u.map fun x => (undefT, x)

def minmaxT.minmaxInts (k : IntKind) : List TV → Option (List Int)
  | [] => some []
  | .t (.int k' y) :: r => match minmaxT.minmaxInts k r with
    | some ys => if k' = k then some (y :: ys) else none
    | none => none
  | _ :: _ => none

def minmaxT (mx : Bool) : List TV → Option TV
  | .t (.int k x) :: r => match minmaxT.minmaxInts k r with
    | some ys => some (.t (.int k (ys.foldl (fun x y => if mx then (if y > x then y else x) else (if y < x then y else x)) x)))
    | none => none
  | _ => none

def builtinT (C : Cfg) (nm : Nm) (H : Heap) (b : Builtin) (ats : List TypeId) (args : List TV) : Option (TV × List (Nm × AObj)) :=
  match b, ats, args with
  | .len, [t], [x] => match tyOf C.P t with
    | some ti => match ti.desc with
      | .array n _ => some (.t (.int .i64 n), [])
      | .string => (match x with | .t (.str s) => some (.t (.int .i64 s.length), []) | _ => none)
      | .slice _ => (match x with | .t (.str _) => none | .t .nilmap => none | .map _ => none | x => (lenT H x).map fun n => (.t (.int .i64 n), []))
      | .map _ _ => (match x with | .t .nilmap => some (.t (.int .i64 0), []) | .map k => (lenT H (.map k)).map fun n => (.t (.int .i64 n), []) | _ => none)
      | _ => none
    | none => none
  | .append, [s, t], [x, y] => appendT C.P nm H s t x y
  | .copy, [s, _], [x, y] => copyT C.P H s x y
  | .min, _, xs => noU (minmaxT false xs)
  | .max, _, xs => noU (minmaxT true xs)
  | _, _, _ => none

def evalOp (C : Cfg) (f : FuncId) (nm : Nm) (H : Heap) (slots : List TV) (o : Oper) : Option (TV × List (Nm × AObj)) :=
  let ρ := rhoT C slots
  match o.op with
  | .move x => noU (ρ x)
  | .assign x => noU (ρ x)
  | .pick c a b => match ρ c, ρ a, ρ b with
    | some (.t (.bool c)), some a, some b => some (if c then a else b, [])
    | _, _, _ => none
  | .alloc elem => match tyOf C.P elem with
    | some ti => match ti.zero with
      | some z => if z.cells.all TV.leaf = true then some (.ptr nm 0, [(nm, .cells elem z.cells)]) else none
      | none => none
    | none => none
  | .box elem x => match ρ x with
    | some v => if v.cells.all TV.leaf = true then some (.ptr nm 0, [(nm, .cells elem v.cells)]) else none
    | none => none
  | .build t parts => match partsT C slots parts.toList with
    | some ps => noU (buildT C.P t ps)
    | none => none
  | .buildSlice t len parts => match partsT C slots parts.toList with
    | some ps => buildSliceT C.P (o.dst.any (C.asArr f)) nm t len ps
    | none => none
  | .load t a => match ρ a with
    | some a => noU (loadT C.P H t a)
    | none => none
  | .store t a x => match ρ a, ρ x with
    | some a, some x => unitU (storeT C.P H t a x)
    | _, _ => none
  | .nilCheck x => match ρ x with
    | some v => if nilOk v = true then some (v, []) else none
    | none => none
  | .binOp op t x y _ => match ρ x, ρ y with
    | some a, some b => noU (binT C.P op t x y a b)
    | _, _ => none
  | .unOp op _ x => match ρ x with
    | some a => noU (unT C.P op a)
    | none => none
  | .convert s d x => match ρ x with
    | some a => convertT C.P (o.dst.any (C.asArr f)) nm H s d a
    | none => none
  | .makeInterface t x => match ρ x, tyOf C.P t with
    | some v, some ti => match ti.desc with
      | .interface _ => none
      | _ => some ((match v with | .t x => .t (.iface t x) | v => .iface t v), [])
    | _, _ => none
  | .makeFunc fn first captured => match rhosT C slots first.toList, rhosT C slots captured.toList with
    | some fs, some cs => some (mkFn fn fs cs, [])
    | _, _ => none
  | .makeMap t r => match optT C slots r, tyOf C.P t with
    | some none, some _ => some (.map nm, [(nm, .map [] 0)])
    | _, _ => none
  | .makeSlice t l c => match ρ l, ρ c with
    | some l, some c => makeSliceT C.P nm t l c
    | _, _ => none
  | .slice t x lo hi mx => match ρ x, optT C slots lo, optT C slots hi, optT C slots mx with
    | some v, some l, some h, some m => match sliceT C.P H t v l h m with
      | some (r, ks) => some (r, frozenU H ks)
      | none => none
    | _, _, _, _ => none
  | .fieldAddr s x i => match ρ x, tyOf C.P s with
    | some a, some ti => match ti.desc with
      | .struct fs => match fs[i]? with
        | some fd => match tyOf C.P fd.type with
          | some tf => if tf.size = 0 then none else noU (ptrAdd H a fd.offset)
          | none => none
        | none => none
      | _ => none
    | _, _ => none
  | .field t x i => match ρ x, tyOf C.P t with
    | some v, some ti => match ti.desc with
      | .struct fs => match fs[i]? with
        | some fd => match tyOf C.P fd.type with
          | some tf => if isAggT v = true then noU (partT tf.agg tf.size v.cells fd.offset) else none
          | none => none
        | none => none
      | _ => none
    | _, _ => none
  | .indexAddr t x i => match ρ x, ρ i with
    | some v, some j => noU (indexAddrT C.P H t v j)
    | _, _ => none
  | .index t x i => match ρ x, ρ i with
    | some v, some j => noU (indexT C.P t v j)
    | _, _ => none
  | .lookup t x k ok => match ρ x, ρ k with
    | some v, some j => noU (lookupT C.P H t v j ok)
    | _, _ => none
  | .mapUpdate t m k x => match ρ m, ρ k, ρ x with
    | some m, some k, some x => unitU (mapUpdateT C.P H t m k x)
    | _, _, _ => none
  | .insert t m k x => match ρ m, ρ k, ρ x with
    | some m, some k, some x => unitU (mapUpdateT C.P H t m k x)
    | _, _, _ => none
  | .mapEntry t m k => match ρ m, ρ k with
    | some m, some k => mapEntryT C.P H t m k
    | _, _ => none
  | .entryStore _ m s x => match ρ m, ρ s, ρ x with
    | some m, some s, some x => unitU (entryStoreT H m s x)
    | _, _, _ => none
  | .typeAssert x _ asserted ok => match ρ x with
    | some v => noU (assertT C.P v asserted ok)
    | none => none
  | .extract t i => match ρ t with
    | some v => noU (extractT v i)
    | none => none
  | .call { callee := .builtin b, args, argTypes } => match rhosT C slots args.toList with
    | some vs => builtinT C nm H b argTypes.toList vs
    | none => none
  | _ => none

end Go.Abs
end

noncomputable section
namespace Go.Abs
open Go

/-! ### Names -/
mutual
def TV.names : TV → List Nm
  | .t _ => []
  | .any => []
  | .nils => []
  | .tsl _ => []
  | .tptr _ _ => []
  | .ref k _ _ => [k]
  | .ptr k _ => [k]
  | .aptr k _ _ => [k]
  | .map k => [k]
  | .agg cs => TV.namesL cs
  | .tup cs => TV.namesL cs
  | .fn _ fs cs => TV.namesL fs ++ TV.namesL cs
  | .iface _ v => v.names
def TV.namesL : List TV → List Nm
  | [] => []
  | v :: r => v.names ++ TV.namesL r
end

def namesE : List (TV × TV × Nat) → List Nm
  | [] => []
  | (k, v, _) :: r => k.names ++ v.names ++ namesE r

def AObj.names : AObj → List Nm
  | .cells _ cs => TV.namesL cs
  | .arr _ _ _ cs => TV.namesL cs
  | .map es _ => namesE es
  | .dead => []

/-- all that can be come to, in the order in which it is met -/
def reach (H : Heap) : Nat → List Nm → List Nm → Option (List Nm)
  | _, done, [] => some done
  | 0, _, _ => none
  | n + 1, done, k :: todo =>
    if k ∈ done then reach H n done todo
    else match H.get k with
      | some o => reach H n (done ++ [k]) (todo ++ o.names)
      | none => none

def reachFuel : Nat := 4000

def idxOf (k : Nm) : List Nm → Nat → Option Nat
  | [], _ => none
  | k' :: r, i => if k' = k then some i else idxOf k r (i + 1)

mutual
/-- other names -/
def TV.rn (σ : Nm → Option Nm) : TV → Option TV
  | .t x => some (.t x)
  | .any => some .any
  | .nils => some .nils
  | .tsl es => some (.tsl es)
  | .tptr cs o => some (.tptr cs o)
  | .ref k o l => (σ k).map fun k => .ref k o l
  | .ptr k o => (σ k).map fun k => .ptr k o
  | .aptr k n o => (σ k).map fun k => .aptr k n o
  | .map k => (σ k).map .map
  | .agg cs => (TV.rnL σ cs).map .agg
  | .tup cs => (TV.rnL σ cs).map .tup
  | .fn f fs cs => match TV.rnL σ fs, TV.rnL σ cs with
    | some fs, some cs => some (.fn f fs cs)
    | _, _ => none
  | .iface ty v => (v.rn σ).map (.iface ty)
def TV.rnL (σ : Nm → Option Nm) : List TV → Option (List TV)
  | [] => some []
  | v :: r => match v.rn σ, TV.rnL σ r with
    | some v, some r => some (v :: r)
    | _, _ => none
end

def rnE (σ : Nm → Option Nm) : List (TV × TV × Nat) → Option (List (TV × TV × Nat))
  | [] => some []
  | (k, v, b) :: r => match k.rn σ, v.rn σ, rnE σ r with
    | some k, some v, some r => some ((k, v, b) :: r)
    | _, _, _ => none

def AObj.rn (σ : Nm → Option Nm) : AObj → Option AObj
  | .cells ty cs => (TV.rnL σ cs).map (.cells ty)
  | .arr g e fz cs => (TV.rnL σ cs).map (.arr g e fz)
  | .map es c => (rnE σ es).map (.map · c)
  | .dead => some .dead

def Nm.isLoc : Nm → Bool
  | .loc _ => true
  | .arg _ => false

/-! ### What a call comes to -/
inductive FRes where
  | ret (v : TV) (objs : List AObj) (news : Heap)
  | panic (v : TV) (objs : List (Option AObj))
  deriving Inhabited

abbrev CallF := FuncId → List TV → List AObj → Option FRes

structure St where
  slots : List TV
  H : Heap
  tick : Nat
  deriving Inhabited

inductive AExit where
  | normal
  | exit (id : Nat)
  | ret
  | panic (v : TV)
  deriving Inhabited

/-- a place of a list written, by the bare recursor -/
def setS (v : TV) (l : List TV) : Nat → List TV :=
  List.rec (motive := fun _ => Nat → List TV) (fun _ => []) (fun x xs ih n => Nat.rec (motive := fun _ => List TV) (v :: xs) (fun m _ => x :: ih m) n) l

theorem setS_eq (v : TV) : ∀ (l : List TV) (t : Nat), setS v l t = l.set t v := by
  intro l
  induction l with
  | nil => intro t; rfl
  | cons x r ih =>
    intro t
    cases t with
    | zero => rfl
    | succ t => exact congrArg (x :: ·) (ih t)

def putSlot (slots : List TV) (dst : Option Tmp) (v : TV) : List TV :=
  match dst with
  | some d => setS v slots d
  | none => slots

/-- arguments as data, where they are -/
def frzArgs (H : Heap) : List TV → List TV × List Nm
  | [] => ([], [])
  | v :: r =>
    let (vs, ks) := frzArgs H r
    match frz H frzFuel v with
    | some (x, k) => (TV.t x :: vs, k ++ ks)
    | none => (v :: vs, ks)

def sIn (S : List Nm) (k : Nm) : Option Nm := (idxOf k S 0).map .arg
def sOut (S : List Nm) (t : Nat) : Nm → Option Nm
  | .arg i => S[i]?
  | .loc p => some (.loc (t :: p))

def objsIn (H : Heap) (S : List Nm) : List Nm → Option (List AObj)
  | [] => some []
  | k :: r => match H.get k, objsIn H S r with
    | some o, some os => (o.rn (sIn S)).map (· :: os)
    | _, _ => none

def objsOut (S : List Nm) (t : Nat) : List Nm → List AObj → Option Heap
  | [], [] => some []
  | k :: r, o :: os => match o.rn (sOut S t), objsOut S t r os with
    | some o, some h => some ((k, o) :: h)
    | _, _ => none
  | _, _ => none

def newsOut (S : List Nm) (t : Nat) : Heap → Option Heap
  | [] => some []
  | (k, o) :: r => match sOut S t k, o.rn (sOut S t), newsOut S t r with
    | some k, some o, some h => some ((k, o) :: h)
    | _, _, _ => none

/-- of a call that panicked: what is known, and what is not any more -/
def objsPan (S : List Nm) (t : Nat) : List Nm → List (Option AObj) → Option (Heap × List Nm)
  | [], [] => some ([], [])
  | k :: r, some o :: os => match o.rn (sOut S t), objsPan S t r os with
    | some o, some (h, ks) => some ((k, o) :: h, ks)
    | _, _ => none
  | k :: r, none :: os => match objsPan S t r os with
    | some (h, ks) => some (h, k :: ks)
    | none => none
  | _, _ => none

def Heap.hide (H : Heap) (ks : List Nm) : Heap := H.filter fun p => !(ks.contains p.1)

/-- what an operation gives, what it writes -/
inductive ORes where
  | val (v : TV) (u : Heap)
  | panic (v : TV) (u : Heap) (lost : List Nm)

/-- a call of a function: what it comes to -/
def callT (ev : CallF) (H : Heap) (g : FuncId) (args : List TV) (t : Nat) : Option ORes :=
  let (args, ks) := frzArgs H args
  let H1 := H.puts (frozenU H ks)
  match reach H1 reachFuel [] (TV.namesL args) with
  | none => none
  | some S =>
    if S.Nodup then
      match TV.rnL (sIn S) args, objsIn H1 S S with
      | some as, some os =>
        match ev g as os with
        | some (.ret v os' news) => match v.rn (sOut S t), objsOut S t S os', newsOut S t news with
          | some v, some h, some h' => some (.val v ((frozenU H ks).filter (fun p => !(S.contains p.1)) ++ h ++ h'))
          | _, _, _ => none
        | some (.panic v os') => match v.rn (sOut S t), objsPan S t S os' with
          | some v, some (h, lost) => some (.panic v ((frozenU H ks).filter (fun p => !(S.contains p.1)) ++ h) lost)
          | _, _ => none
        | none => none
      | _, _ => none
    else none

/-- whom a call calls -/
def calleeT (C : Cfg) (slots : List TV) (c : Call) : Option (FuncId × List TV) :=
  match c.callee with
  | .value fo => match rhoT C slots fo, rhosT C slots c.args.toList with
    | some (.t (.fn (.func g))), some as => some (g, as)
    | some (.fn (.func g) fs cs), some as => some (g, fs ++ as ++ cs)
    | _, _ => none
  | _ => none

/-- is the operation wanted? -/
def wantedT (ops : Array Oper) (slots : List TV) (o : Oper) : Option Bool :=
  match o.guard with
  | none => some true
  | some (j, want) => match (ops[j]?).bind (·.dst) with
    | none => some false
    | some d => match slots[d]? with
      | some (.t (.bool b)) => some (b == want)
      | some (.t (.tup [])) => some false
      | none => some false
      | _ => none

def panicOf : TV → Option TV
  | .iface t v => some (.iface t v)
  | .t (.iface t v) => some (.t (.iface t v))
  | _ => none

/-- one operation: what it gives, what it writes -/
def execT (C : Cfg) (ev : CallF) (f : FuncId) (H : Heap) (slots : List TV) (t : Nat) (o : Oper) : Option ORes :=
  match o.op with
  | .panic x => match (rhoT C slots x).bind panicOf with
    | some v => some (.panic v [] [])
    | none => none
  | .call { callee := .value fo, args, argTypes } => match calleeT C slots { callee := .value fo, args, argTypes } with
    | some (g, as) => callT ev H g as t
    | none => none
  | _ => match evalOp C f (.loc [t]) H slots o with
    | some (v, u) => some (.val v u)
    | none => none

/-! ### Regions in the text's order -/
def opsS (C : Cfg) (ev : CallF) (f : FuncId) (ops : Array Oper) : List Oper → St → Option (AExit × St)
  | [], st => some (.normal, st)
  | o :: r, st =>
    match wantedT ops st.slots o with
    | none => none
    | some false => opsS C ev f ops r { st with slots := putSlot st.slots o.dst undefT, tick := st.tick + 1 }
    | some true => match execT C ev f st.H st.slots st.tick o with
      | none => none
      | some (.val v u) => opsS C ev f ops r { slots := putSlot st.slots o.dst v, H := st.H.puts u, tick := st.tick + 1 }
      | some (.panic v u l) => some (.panic v, { st with H := (st.H.hide l).puts u, tick := st.tick + 1 })

/-! ### Regions that draw their order -/
/-- the objects that an operation looks at -/
def fpT (C : Cfg) (H : Heap) (slots : List TV) (o : Oper) : Option (List Nm) :=
  match o.op with
  | .move _ | .assign _ | .pick .. | .alloc _ | .box .. | .build .. | .buildSlice .. | .nilCheck _ | .makeInterface .. | .makeFunc .. | .makeMap .. | .makeSlice .. | .field .. | .extract .. | .typeAssert .. | .panic _ | .unOp .. | .binOp .. | .index .. => some []
  | .fieldAddr _ x _ => match rhoT C slots x with
    | some (.aptr k _ _) => some [k]
    | _ => some []
  | .store _ p _ => match rhoT C slots p with
    | some v => some v.names
    | none => none
  | .call { callee := .value fo, args, argTypes } => match calleeT C slots { callee := .value fo, args, argTypes } with
    | some (_, as) => reach H reachFuel [] (TV.namesL as)
    | none => none
  | op => match rhosT C slots op.operands.toList with
    | some vs => some (TV.namesL vs)
    | none => none

/-- what came of one operation -/
inductive RRes where
  | skipped
  | unwanted
  | val (v : TV) (u : Heap)
  | panic (v : TV) (u : Heap) (lost : List Nm)

structure Rec where
  fp : List Nm
  res : RRes

def RRes.keys : RRes → List Nm
  | .val _ u => u.map (·.1)
  | .panic _ u l => u.map (·.1) ++ l
  | _ => []

structure DSt where
  slots : List TV
  H : Heap

def DSt.after (s : DSt) (o : Oper) : RRes → DSt
  | .skipped => s
  | .unwanted => { s with slots := putSlot s.slots o.dst undefT }
  | .val v u => { slots := putSlot s.slots o.dst v, H := s.H.puts u }
  | .panic .. => s

def panAfter (i : Nat) (pan : Option Nat) : RRes → Option Nat
  | .panic .. => some i
  | _ => pan

/-- which ones are bound to be ahead of each -/
def befs (ops : List Oper) (acc : List Nat) : List Nat :=
  match ops with
  | [] => acc
  | o :: r => befs r (acc ++ [o.after.toList.foldl (fun s e => if Region.binds .any e then s ||| 2 ^ e.on ||| acc.getD e.on 0 else s) 0])

def backOk : Nat → List Oper → Bool
  | _, [] => true
  | i, o :: r => o.after.toList.all (fun e => !Region.binds .any e || decide (e.on < i)) && backOk (i + 1) r

def isBefore (bs : List Nat) (i j : Nat) : Bool := (bs.getD j 0).testBit i

def maskS (L : List Nat) : Nat → List TV → List TV
  | _, [] => []
  | i, v :: r => (if L.contains i then v else undefT) :: maskS L (i + 1) r

def pickH (H : Heap) (fp : List Nm) : Heap := fp.filterMap fun k => (H.get k).map (k, ·)

def opD (C : Cfg) (ev : CallF) (f : FuncId) (ops : Array Oper) (bs : List Nat) (t0 i : Nat) (o : Oper) (s : DSt) (pan : Option Nat) : Option Rec :=
  match (match pan with | some j => isBefore bs j i | none => false) with
  | true => some ⟨[], .skipped⟩
  | false =>
    match wantedT ops (maskS (o.looksAt ops) 0 s.slots) o with
    | none => none
    | some false => some ⟨[], .unwanted⟩
    | some true =>
      match fpT C s.H s.slots o with
      | none => none
      | some fp =>
        match execT C ev f (pickH s.H fp) (maskS (o.looksAt ops) 0 s.slots) (t0 + i) o with
        | none => none
        | some (.val v u) => if pan.isSome = true && !u.isEmpty then none else some ⟨fp, .val v u⟩
        | some (.panic v u l) => match pan with
          | some _ => none
          | none => some ⟨fp, .panic v u l⟩

def opsD (C : Cfg) (ev : CallF) (f : FuncId) (ops : Array Oper) (bs : List Nat) (t0 : Nat) : Nat → List Oper → DSt → Option Nat → Option (List Rec)
  | _, [], _, _ => some []
  | i, o :: r, s, pan => match opD C ev f ops bs t0 i o s pan with
    | none => none
    | some rec => match opsD C ev f ops bs t0 (i + 1) r (s.after o rec.res) (panAfter i pan rec.res) with
      | some rs => some (rec :: rs)
      | none => none

def apartN (a b : List Nm) : Bool := a.all fun k => !(b.contains k)

def slotsApart (ops : Array Oper) (x y : Oper) : Bool :=
  (match x.dst with
    | some d => !((y.looksAt ops).contains d) && y.dst != some d
    | none => true) &&
  (match y.dst with
    | some d => !((x.looksAt ops).contains d)
    | none => true)

/-- these two may change places -/
def apart2 (ops : Array Oper) (x y : Oper) (rx ry : Rec) : Bool :=
  slotsApart ops x y && apartN rx.res.keys ry.fp && apartN rx.res.keys ry.res.keys && apartN ry.res.keys rx.fp

/-- of one: whatever has no order with it may change places with it -/
def freeOne (ops : Array Oper) (b : Nat) (j : Oper) (rj : Rec) : Nat → List Oper → List Rec → Bool
  | i, x :: xs, r :: rs => (b.testBit i || apart2 ops x j r rj) && freeOne ops b j rj (i + 1) xs rs
  | _, _, _ => true

/-- whatever has no order may change places -/
def freeOrder (ops : Array Oper) (l : List Oper) (recs : List Rec) : List Nat → List Oper → List Rec → Nat → Bool
  | b :: bs, o :: os, r :: rs, n => freeOne ops b o r 0 (l.take n) (recs.take n) && freeOrder ops l recs bs os rs (n + 1)
  | _, _, _, _ => true

/-- the one that panics -/
def panicAt : Nat → List Rec → Option (Nat × TV × Heap × List Nm)
  | _, [] => none
  | i, r :: rs => match r.res with
    | .panic v u l => some (i, v, u, l)
    | _ => panicAt (i + 1) rs

/-- what those write that may be ahead of a panic, or not -/
def lostAt (b : Nat) : Nat → List Rec → List Nm
  | _, [] => []
  | i, r :: rs => (if b.testBit i then [] else r.res.keys) ++ lostAt b (i + 1) rs

def foldD : List Oper → List Rec → DSt → DSt
  | o :: os, r :: rs, s => foldD os rs (s.after o r.res)
  | _, _, s => s

def regionD (C : Cfg) (ev : CallF) (f : FuncId) (ops : Array Oper) (st : St) : Option (AExit × St) :=
  let l := ops.toList
  let bs := befs l []
  match opsD C ev f ops bs st.tick 0 l { slots := st.slots, H := st.H } none with
  | none => none
  | some recs =>
    if freeOrder ops l recs bs l recs 0 = true ∧ backOk 0 l = true then
      let s := foldD l recs { slots := st.slots, H := st.H }
      match panicAt 0 recs with
      | none => some (.normal, { slots := s.slots, H := s.H, tick := st.tick + ops.size })
      | some (j, v, u, lost) =>
        some (.panic v, { slots := st.slots, H := (s.H.hide (lost ++ lostAt (bs.getD j 0) 0 (recs.take j))).puts u, tick := st.tick + ops.size })
    else none

/-! ### Code -/
def iterC (body : St → Option (AExit × St)) : Nat → St → Option (AExit × St)
  | 0, _ => none
  | n + 1, st => match body st with
    | some (.normal, st') => iterC body n st'
    | r => r

def evalCode (C : Cfg) (ev : CallF) (f : FuncId) (fuel : Nat) : Code → St → Option (AExit × St)
  | .skip, st => some (.normal, st)
  | .label _, st => some (.normal, st)
  | .region _ ops draw, st => if draw then regionD C ev f ops st else opsS C ev f ops ops.toList st
  | .seq a b, st => match evalCode C ev f fuel a st with
    | some (.normal, st') => evalCode C ev f fuel b st'
    | r => r
  | .cond c a b, st => match rhoT C st.slots c with
    | some (.t (.bool true)) => evalCode C ev f fuel a st
    | some (.t (.bool false)) => evalCode C ev f fuel b st
    | _ => none
  | .block id body, st => match evalCode C ev f fuel body st with
    | some (.exit id', st') => if id' = id then some (.normal, st') else some (.exit id', st')
    | r => r
  | .loop body, st => iterC (evalCode C ev f fuel body) fuel st
  | .exit id, st => some (.exit id, st)
  | .ret, st => some (.ret, st)
  | _, _ => none

/-! ### Functions -/
def resultT (C : Cfg) (st : St) : List ResultVar → Option (List TV)
  | [] => some []
  | .tmp t :: r => match resultT C st r with
    | some vs => some (st.slots.getD t undefT :: vs)
    | none => none
  | .cell a t :: r => match loadT C.P st.H t (st.slots.getD a undefT), resultT C st r with
    | some v, some vs => some (v :: vs)
    | _, _ => none

def oneOr : List TV → TV
  | [v] => v
  | vs => mkTup vs

def argHeap : Nat → List AObj → Heap
  | _, [] => []
  | i, o :: r => (.arg i, o) :: argHeap (i + 1) r

def objsAt (H : Heap) : Nat → Nat → Option (List AObj)
  | _, 0 => some []
  | i, n + 1 => match H.get (.arg i), objsAt H (i + 1) n with
    | some o, some os => some (o :: os)
    | _, _ => none

def objsAtP (H : Heap) : Nat → Nat → List (Option AObj)
  | _, 0 => []
  | i, n + 1 => (match H.get (.arg i) with
      | some o => if o.names.any Nm.isLoc then none else some o
      | none => none) :: objsAtP H (i + 1) n

def newsAt (H : Heap) : List Nm → Option Heap
  | [] => some []
  | k :: r => match newsAt H r with
    | some h => if k.isLoc then (H.get k).map fun o => (k, o) :: h else some h
    | none => none

def finish (C : Cfg) (fn : Func) (n : Nat) (st : St) : Option FRes :=
  match resultT C st fn.results.toList with
  | none => none
  | some vs =>
    let v0 := oneOr vs
    let (v, ks) := match frz st.H frzFuel v0 with
      | some (x, ks) => (TV.t x, ks)
      | none => (v0, [])
    let H := st.H.puts (frozenU st.H ks)
    match objsAt H 0 n with
    | none => none
    | some os => match reach H reachFuel [] (v.names ++ os.flatMap AObj.names) with
      | none => none
      | some R => (newsAt H R).map fun h => .ret v os h

def runFn (C : Cfg) (ev : CallF) (fuel : Nat) (f : FuncId) (args : List TV) (objs : List AObj) : Option FRes :=
  match C.P.fn f with
  | none => none
  | some fn => match fn.body with
    | none => none
    | some body =>
      if fn.name = "runtime.NumGoroutine" then none else
      match evalCode C ev f fuel body { slots := args ++ List.replicate (fn.ntmps - args.length) undefT, H := argHeap 0 objs, tick := 0 } with
      | some (.normal, st) => finish C fn objs.length st
      | some (.ret, st) => finish C fn objs.length st
      | some (.panic v, st) => if v.names.any Nm.isLoc then none else some (.panic v (objsAtP st.H 0 objs.length))
      | _ => none

/-- functions that are told by a summary -/
abbrev Ext := FuncId → Option (CallF → List TV → List AObj → Option FRes)

def evalN (C : Cfg) (X : Ext) : Nat → CallF
  | 0, _, _, _ => none
  | n + 1, f, args, objs => match X f with
    | some s => s (evalN C X n) args objs
    | none => runFn C (evalN C X n) n f args objs

end Go.Abs
end

namespace Go.Abs
open Go

/-- trees, place by place -/
def VTs (F : Froz) (cs : List Tree) (vs : List Value) : Prop := vs.length = cs.length ∧ ∀ (j : Nat) c v, cs[j]? = some c → vs[j]? = some v → VT F c v

theorem VTs.toVRs {G : Gh} {cs : List Tree} {vs : List Value} (h : VTs G.F cs vs) : VRs G (cs.map .t) vs := by
  refine ⟨by simp [h.1], fun j c v hc hv => ?_⟩
  rw [List.getElem?_map] at hc
  cases hx : cs[j]? with
  | none => rw [hx] at hc; simp at hc
  | some x => rw [hx] at hc; simp at hc; subst hc; exact .t x v (h.2 j x v hx hv)

theorem VR.tree {G : Gh} {x : Tree} {v : Value} (h : VR G (.t x) v) : VT G.F x v := by cases h; assumption

theorem VRs.toVTs {G : Gh} {cs : List Tree} {vs : List Value} (h : VRs G (cs.map .t) vs) : VTs G.F cs vs := by
  refine ⟨by have := h.1; simpa using this, fun j c v hc hv => ?_⟩
  exact (h.2 j (.t c) v (by rw [List.getElem?_map, hc]; rfl) hv).tree

theorem allT_some {cs : List TV} {ts : List Tree} (h : allT cs = some ts) : cs = ts.map .t := by
  induction cs generalizing ts with
  | nil => simp [allT] at h; subst h; rfl
  | cons c r ih =>
    cases c <;> simp only [allT] at h <;> try (simp at h; done)
    rename_i x
    cases hr : allT r with
    | none => rw [hr] at h; simp at h
    | some xs => rw [hr] at h; simp at h; subst h; simp [ih hr]

theorem VTs.agg {F : Froz} {cs : List Tree} {vs : List Value} (h : VTs F cs vs) : VT F (.agg cs) (.agg vs.toArray) := .agg cs vs h.1 h.2
theorem VTs.tup {F : Froz} {cs : List Tree} {vs : List Value} (h : VTs F cs vs) : VT F (.tup cs) (.tuple vs.toArray) := .tup cs vs h.1 h.2

theorem mkAgg_VR {G : Gh} {cs : List TV} {vs : List Value} (h : VRs G cs vs) : VR G (mkAgg cs) (.agg vs.toArray) := by
  unfold mkAgg
  cases ha : allT cs with
  | none => exact .agg cs vs h.1 h.2
  | some ts => have := allT_some ha; subst this; exact .t _ _ h.toVTs.agg

theorem mkTup_VR {G : Gh} {cs : List TV} {vs : List Value} (h : VRs G cs vs) : VR G (mkTup cs) (.tuple vs.toArray) := by
  unfold mkTup
  cases ha : allT cs with
  | none => exact .tup cs vs h.1 h.2
  | some ts => have := allT_some ha; subst this; exact .t _ _ h.toVTs.tup

theorem VT.leaf {F : Froz} {x : Tree} {v : Value} (h : VT F x v) (hx : x.leaf = true) : one v = true := by
  cases h <;> simp_all [Tree.leaf, one]

theorem VR.leaf {G : Gh} {x : TV} {v : Value} (h : VR G x v) (hx : x.leaf = true) : one v = true := by
  cases h with
  | t x v h => exact h.leaf hx
  | ref k off len n esz cap v hd ha hle ho hv => obtain ⟨_, _, rfl⟩ := ho; rfl
  | aptr k n off n' esz cap v hd ha hle ho hv => obtain ⟨_, rfl⟩ := ho; rfl
  | _ => simp_all [TV.leaf, one]

theorem one_cells {v : Value} (h : one v = true) : v.cells = #[v] := by cases v <;> simp_all [one, Value.cells]

theorem not_agg_cells {v : Value} (h : ∀ a, v ≠ .agg a) : v.cells = #[v] := by cases v <;> simp_all [Value.cells]

theorem VRs.one {G : Gh} {x : TV} {v : Value} (h : VR G x v) : VRs G [x] [v] := VRs.cons h (VRs.nil G)

/-- the cells of a value, as values -/
theorem VR.cells {G : Gh} {x : TV} {v : Value} (h : VR G x v) (hx : x ≠ .any) : VRs G x.cells v.cells.toList := by
  cases h with
  | any => exact absurd rfl hx
  | t x v h =>
    cases h with
    | agg cs vs hl h => exact VTs.toVRs ⟨hl, h⟩
    | tup cs vs hl h => exact VRs.one (.t _ _ (.tup cs vs hl h))
    | bool => exact VRs.one (.t _ _ (.bool _))
    | int => exact VRs.one (.t _ _ (.int _ _))
    | str => exact VRs.one (.t _ _ (.str _))
    | sl0 => exact VRs.one (.t _ _ (.sl0 _ _))
    | sl e es b o cap vals h1 h2 h3 h4 h5 => exact VRs.one (.t _ _ (.sl e es b o cap vals h1 h2 h3 h4 h5))
    | nilptr => exact VRs.one (.t _ _ .nilptr)
    | nilmap => exact VRs.one (.t _ _ .nilmap)
    | nilfn => exact VRs.one (.t _ _ .nilfn)
    | fn => exact VRs.one (.t _ _ (.fn _))
    | nilif => exact VRs.one (.t _ _ .nilif)
    | iface t x v h => exact VRs.one (.t _ _ (.iface t x v h))
  | nils => exact VRs.one .nils
  | tsl es a h => exact VRs.one (.tsl es a h)
  | ref k off len n esz cap v hd ha hle ho hv => rw [one_cells (by obtain ⟨_, _, rfl⟩ := ho; rfl)]; exact VRs.one (.ref k off len n esz cap v hd ha hle ho hv)
  | agg cs vs hl h => exact ⟨hl, h⟩
  | tup cs vs hl h => exact VRs.one (.tup cs vs hl h)
  | ptr k off hd hn => exact VRs.one (.ptr k off hd hn)
  | aptr k n off n' esz cap v hd ha hle ho hv => rw [one_cells (by obtain ⟨_, rfl⟩ := ho; rfl)]; exact VRs.one (.aptr k n off n' esz cap v hd ha hle ho hv)
  | tptr cs off b o vals hF hv => exact VRs.one (.tptr cs off b o vals hF hv)
  | map k hd hn => exact VRs.one (.map k hd hn)
  | fn f fs cs vs ws hl h hl' h' => exact VRs.one (.fn f fs cs vs ws hl h hl' h')
  | iface t x v h => exact VRs.one (.iface t x v h)

theorem VTs.nil (F : Froz) : VTs F [] [] := ⟨rfl, by simp⟩
theorem VTs.cons {F : Froz} {c : Tree} {v : Value} {cs : List Tree} {vs : List Value} (h : VT F c v) (hs : VTs F cs vs) : VTs F (c :: cs) (v :: vs) := by
  refine ⟨by simp [hs.1], fun j d u hd hu => ?_⟩
  cases j with
  | zero => simp at hd hu; subst hd; subst hu; exact h
  | succ j => simp at hd hu; exact hs.2 j d u hd hu

theorem VT.cells {F : Froz} {x : Tree} {v : Value} (h : VT F x v) : VTs F x.cells v.cells.toList := by
  cases h <;> first
    | (rename_i cs vs hl h; exact ⟨hl, h⟩)
    | exact VTs.cons (by first | assumption | (constructor; done) | (constructor <;> assumption)) (VTs.nil F)

/-! ### Constants -/
theorem leafOf_VR {G : Gh} {v : Value} {x : TV} (h : leafOf v = some x) : VR G x v := by
  unfold leafOf at h
  split at h <;> simp at h <;> (try subst h)
  · exact .t _ _ (.bool _)
  · exact .t _ _ (.int _ _)
  · rename_i s
    have : (Value.string s) = .string ⟨s.data.toList.toArray⟩ := by simp
    rw [this]; exact .t _ _ (.str _)
  · exact .nils
  · exact .t _ _ .nilptr
  · exact .t _ _ .nilmap
  · exact .t _ _ .nilfn
  · exact .t _ _ .nilif
  · obtain ⟨⟨h1, h2⟩, h3⟩ := h
    subst h3; subst h1; subst h2
    exact .t _ _ (.fn _)

theorem leavesOf_VRs {G : Gh} {vs : List Value} {xs : List TV} (h : leavesOf vs = some xs) : VRs G xs vs := by
  induction vs generalizing xs with
  | nil => simp [leavesOf] at h; subst h; exact VRs.nil G
  | cons v r ih =>
    simp only [leavesOf] at h
    cases h1 : leafOf v <;> cases h2 : leavesOf r <;> simp [h1, h2] at h
    subst h
    exact VRs.cons (leafOf_VR h1) (ih h2)

theorem valOf_VR {G : Gh} {v : Value} {x : TV} (h : valOf v = some x) : VR G x v := by
  unfold valOf at h
  split at h
  · rename_i cs
    cases h1 : leavesOf cs.toList <;> simp [h1] at h
    subst h
    have := mkAgg_VR (leavesOf_VRs (G := G) h1)
    simpa using this
  · rename_i cs
    cases h1 : leavesOf cs.toList <;> simp [h1] at h
    subst h
    have := mkTup_VR (leavesOf_VRs (G := G) h1)
    simpa using this
  · exact leafOf_VR h

/-! ### Data has one value -/
theorem leafV_eq {G : Gh} {x : TV} {u v : Value} (h : leafV x = some u) (hr : VR G x v) : v = u := by
  cases hr with
  | t x v ht => cases ht <;> simp [leafV] at h <;> exact h
  | nils => simp [leafV] at h; exact h
  | _ => simp [leafV] at h

theorem leavesV_eq {G : Gh} {xs : List TV} {us vs : List Value} (h : leavesV xs = some us) (hr : VRs G xs vs) : vs = us := by
  induction xs generalizing us vs with
  | nil => simp [leavesV] at h; subst h; have := hr.1; simpa using this
  | cons x r ih =>
    obtain ⟨v, vs', rfl, h1, h2⟩ := hr.uncons
    simp only [leavesV] at h
    cases h3 : leafV x <;> cases h4 : leavesV r <;> simp [h3, h4] at h
    subst h
    rw [leafV_eq h3 h1, ih h4 h2]

theorem flatV_eq {G : Gh} {x : TV} {u v : Value} (h : flatV x = some u) (hr : VR G x v) : v = u := by
  unfold flatV at h
  split at h
  · rename_i cs
    cases h1 : leavesV (cs.map .t) <;> simp [h1] at h
    subst h
    cases hr with | t _ _ ht => cases ht with | agg _ vs hl hh =>
      rw [leavesV_eq h1 (VTs.toVRs (G := G) ⟨hl, hh⟩)]
  · rename_i cs
    cases h1 : leavesV cs <;> simp [h1] at h
    subst h
    cases hr with | agg _ vs hl hh => rw [leavesV_eq h1 ⟨hl, hh⟩]
  · exact leafV_eq h hr

theorem dataV_eq {G : Gh} {x : TV} {u v : Value} (h : dataV x = some u) (hr : VR G x v) : v = u := by
  unfold dataV at h
  split at h
  · rename_i t x
    cases h1 : flatV (.t x) <;> simp [h1] at h
    subst h
    cases hr with | t _ _ ht => cases ht with | iface _ _ w hw => rw [flatV_eq (G := G) h1 (.t _ _ hw)]
  · rename_i t x
    cases h1 : flatV x <;> simp [h1] at h
    subst h
    cases hr with | iface _ _ w hw => rw [flatV_eq h1 hw]
  · exact flatV_eq h hr

/-! ### Runs that ask the program alone -/
theorem pureRun_run {α : Type} {P : Program} {s : Sem α} {a : α} (h : pureRun P s = some a) (w : World) : s.run P w = .ok a w := by
  induction s with
  | pure x => simp [pureRun] at h; subst h; rfl
  | program k ih => simp only [pureRun] at h; exact ih P h
  | _ => simp [pureRun] at h

end Go.Abs

namespace Go.Abs
open Go

/-- no cell of the block is frozen -/
def thawed (vs : Array Value) (fr : Nat × Nat) : Prop := ∀ o, o < vs.size → ¬ (fr.1 ≤ o ∧ o < fr.2)

def MR (G : Gh) : List (TV × TV × Nat) → List MapEntry → Prop
  | [], [] => True
  | (k, v, b) :: r, e :: es => VR G k e.key ∧ VR G v e.val ∧ e.born = b ∧ MR G r es
  | _, _ => False

/-- an object, in the world -/
def OR (G : Gh) (w : World) (k : Nm) : AObj → Prop
  | .cells ty0 cs => G.arr k = none ∧ ∃ vs ty fr, w.heap[G.mu k]? = some (.cells vs ty fr) ∧ (thawed vs fr ∧ ty = ty0) ∧ VRs G cs vs.toList ∧ ∀ o, G.F (G.mu k) o = none
  | .arr g esz fz cs => 0 < esz ∧ ∃ cap vs ty fr, G.arr k = some (cs.length, esz, cap) ∧ w.heap[G.mu k]? = some (.cells vs ty fr) ∧ (thawed vs fr ∧ ty = g.1) ∧ vs.size = cap * esz ∧ cs.length ≤ vs.size ∧
      VRs G cs (vs.toList.take cs.length) ∧ ∀ o, (fz = false ∨ cs.length ≤ o) → G.F (G.mu k) o = none
  | .map es c => G.arr k = none ∧ ∃ ents, w.heap[G.mu k]? = some (.map ents c) ∧ MR G es ents.toList ∧ ∀ o, G.F (G.mu k) o = none
  | .dead => True

structure WF (G : Gh) (w : World) : Prop where
  F : ∀ b o v, G.F b o = some v → ∃ vs ty fr, w.heap[b]? = some (.cells vs ty fr) ∧ vs[o]? = some v
  inj : ∀ k k', G.dom k → G.dom k' → G.mu k = G.mu k' → k = k'
  lt : ∀ k, G.dom k → G.mu k < w.heap.size

def HR (G : Gh) (w : World) (H : Heap) : Prop := ∀ k o, H.get k = some o → G.dom k ∧ OR G w k o

/-- one world behind another: the objects of W may be written, those of N are new -/
structure Step (W N : Nm → Prop) (G : Gh) (w : World) (G' : Gh) (w' : World) : Prop where
  le : G.le G'
  wf : WF G' w'
  same : ∀ k, G.dom k → ¬ W k → G'.mu k = G.mu k ∧ G'.arr k = G.arr k
  blocks : ∀ b, b < w.heap.size → (∀ k, W k → G.dom k → G.mu k ≠ b) → w'.heap[b]? = w.heap[b]? ∧ ∀ o, G'.F b o = G.F b o
  news : ∀ k, G'.dom k → G.dom k ∨ N k
  fresh : ∀ k, G'.dom k → (G.dom k ∧ G'.mu k = G.mu k) ∨ w.heap.size ≤ G'.mu k
  size : w.heap.size ≤ w'.heap.size
  os : w'.os = w.os
  tape : w'.tape = w.tape
  output : w'.output = w.output

theorem Step.refl {G : Gh} {w : World} (hw : WF G w) (W N : Nm → Prop) : Step W N G w G w :=
  ⟨.refl G, hw, fun _ _ _ => ⟨rfl, rfl⟩, fun _ _ _ => ⟨rfl, fun _ => rfl⟩, fun _ h => .inl h, fun _ h => .inl ⟨h, rfl⟩, Nat.le_refl _, rfl, rfl, rfl⟩

theorem Step.mono {W N W' N' : Nm → Prop} {G G' : Gh} {w w' : World} (h : Step W N G w G' w') (hW : ∀ k, G.dom k → W k → W' k) (hN : ∀ k, N k → N' k) : Step W' N' G w G' w' :=
  ⟨h.le, h.wf, fun k d n => h.same k d (fun x => n (hW k d x)), fun b hb hn => h.blocks b hb (fun k hk d => hn k (hW k d hk) d), fun k d => (h.news k d).imp id (hN k), h.fresh, h.size, h.os, h.tape, h.output⟩

theorem Step.trans {W N W' N' : Nm → Prop} {A B C : Gh} {u v w : World} (h : Step W N A u B v) (k : Step W' N' B v C w) :
    Step (fun x => W x ∨ W' x) (fun x => N x ∨ N' x) A u C w := by
  refine ⟨h.le.trans k.le, k.wf, fun x d n => ?_, fun b hb hn => ?_, fun x d => ?_, fun x d => ?_, Nat.le_trans h.size k.size, k.os.trans h.os, k.tape.trans h.tape, k.output.trans h.output⟩
  · obtain ⟨a1, a2⟩ := h.same x d (fun y => n (.inl y))
    obtain ⟨b1, b2⟩ := k.same x (h.le.dom _ d) (fun y => n (.inr y))
    exact ⟨b1.trans a1, b2.trans a2⟩
  · obtain ⟨a1, a2⟩ := h.blocks b hb (fun x hx d => hn x (.inl hx) d)
    obtain ⟨b1, b2⟩ := k.blocks b (Nat.lt_of_lt_of_le hb h.size) (fun x hx d => by
      rcases h.fresh x d with ⟨d0, e⟩ | e
      · rw [e]; exact hn x (.inr hx) d0
      · omega)
    exact ⟨b1.trans a1, fun o => (b2 o).trans (a2 o)⟩
  · rcases k.news x d with d | d
    · exact (h.news x d).imp id .inl
    · exact .inr (.inr d)
  · rcases k.fresh x d with ⟨d1, e1⟩ | e1
    · rcases h.fresh x d1 with ⟨d0, e0⟩ | e0
      · exact .inl ⟨d0, e1.trans e0⟩
      · exact .inr (by rw [e1]; exact e0)
    · exact .inr (Nat.le_trans h.size e1)

theorem MR.mono {G G' : Gh} (hG : G.le G') {es : List (TV × TV × Nat)} {ents : List MapEntry} (h : MR G es ents) : MR G' es ents := by
  induction es generalizing ents with
  | nil => cases ents <;> simp_all [MR]
  | cons e r ih =>
    obtain ⟨k, v, b⟩ := e
    cases ents with
    | nil => simp [MR] at h
    | cons x xs =>
      simp only [MR] at h ⊢
      exact ⟨h.1.mono hG, h.2.1.mono hG, h.2.2.1, ih h.2.2.2⟩

/-- an object that no one writes stays -/
theorem Step.keeps {W N : Nm → Prop} {G G' : Gh} {w w' : World} (h : Step W N G w G' w') (hw : WF G w) {k : Nm} (hk : G.dom k) (hn : ¬ W k) {o : AObj} (ho : OR G w k o) : OR G' w' k o := by
  obtain ⟨em, ea⟩ := h.same k hk hn
  obtain ⟨hb, hF⟩ := h.blocks (G.mu k) (hw.lt k hk) (fun x hx dx e => hn (by rw [← hw.inj x k dx hk e]; exact hx))
  cases o with
  | cells ty0 cs =>
    obtain ⟨ha, vs, ty, fr, hh, ht, hv, hf⟩ := ho
    exact ⟨by rw [ea]; exact ha, vs, ty, fr, by rw [em, hb]; exact hh, ht, hv.mono h.le, fun o => by rw [em, hF]; exact hf o⟩
  | arr g esz fz cs =>
    obtain ⟨he, cap, vs, ty, fr, ha, hh, ht, hs, hl, hv, hf⟩ := ho
    exact ⟨he, cap, vs, ty, fr, by rw [ea]; exact ha, by rw [em, hb]; exact hh, ht, hs, hl, hv.mono h.le, fun o ho => by rw [em, hF]; exact hf o ho⟩
  | map es c =>
    obtain ⟨ha, ents, hh, hv, hf⟩ := ho
    exact ⟨by rw [ea]; exact ha, ents, by rw [em, hb]; exact hh, hv.mono h.le, fun o => by rw [em, hF]; exact hf o⟩
  | dead => trivial

/-! ### The heap as a list -/
theorem Heap.get_put (H : Heap) (k k' : Nm) (o : AObj) : (H.put k o).get k' = if k = k' then some o else H.get k' := by
  induction H with
  | nil => simp only [Heap.put, Heap.get]
  | cons p r ih =>
    obtain ⟨k0, o0⟩ := p
    simp only [Heap.put]
    by_cases h : k0 = k
    · subst h
      simp only [if_true, Heap.get]
      split <;> rfl
    · simp only [if_neg h, Heap.get, ih]
      by_cases h2 : k0 = k'
      · subst h2
        rw [if_pos rfl, if_neg (fun e => h e.symm), if_pos rfl]
      · rw [if_neg h2, if_neg h2]

theorem Heap.get_puts (H : Heap) (u : List (Nm × AObj)) (k : Nm) (o : AObj) (h : (H.puts u).get k = some o) :
    (k, o) ∈ u ∨ (H.get k = some o ∧ k ∉ u.map (·.1)) := by
  unfold Heap.puts at h
  induction u generalizing H with
  | nil => exact .inr ⟨h, by simp⟩
  | cons p r ih =>
    simp only [List.foldl_cons] at h
    rcases ih (H.put p.1 p.2) h with h | ⟨h, hn⟩
    · exact .inl (List.mem_cons_of_mem _ h)
    · rw [Heap.get_put] at h
      split at h
      · rename_i e; simp at h; subst h; subst e; exact .inl List.mem_cons_self
      · rename_i e; exact .inr ⟨h, by simp only [List.map_cons, List.mem_cons, not_or]; exact ⟨fun x => e x.symm, hn⟩⟩

theorem Heap.get_filter (H : Heap) (q : Nm → Bool) (k : Nm) : Heap.get (H.filter fun p => q p.1) k = if q k = true then H.get k else none := by
  induction H with
  | nil => simp [Heap.get]
  | cons p r ih =>
    obtain ⟨k0, o0⟩ := p
    simp only [List.filter_cons]
    by_cases h : q k0 = true
    · simp only [h, if_true, Heap.get, ih]
      by_cases e : k0 = k
      · subst e; simp [h]
      · simp [e]
    · simp only [h, Heap.get]
      by_cases e : k0 = k
      · subst e; simp [ih, h]
      · simp [e, ih]

theorem Heap.get_hide (H : Heap) (ks : List Nm) (k : Nm) : (H.hide ks).get k = if k ∈ ks then none else H.get k := by
  unfold Heap.hide
  rw [Heap.get_filter H (fun k => !(ks.contains k)) k]
  by_cases h : k ∈ ks <;> simp [h]

/-- what is written, and what is not -/
theorem HR.puts {W N : Nm → Prop} {G G' : Gh} {w w' : World} {H : Heap} {u : List (Nm × AObj)} (h : Step W N G w G' w') (hw : WF G w) (hH : HR G w H)
    (hu : ∀ k o, (k, o) ∈ u → G'.dom k ∧ OR G' w' k o) (hW : ∀ k, G.dom k → W k → k ∈ u.map (·.1)) : HR G' w' (H.puts u) := by
  intro k o hk
  rcases Heap.get_puts H u k o hk with h1 | ⟨h1, hn⟩
  · exact hu k o h1
  · obtain ⟨d, ho⟩ := hH k o h1
    exact ⟨h.le.dom _ d, h.keeps hw d (fun x => hn (hW k d x)) ho⟩

end Go.Abs

namespace Go.Abs
open Go

theorem run_bind_ok {α β : Type} {P : Program} {s : Sem α} {f : α → Sem β} {w w' : World} {a : α} (h : s.run P w = .ok a w') : (s.bind f).run P w = (f a).run P w' := by
  induction s generalizing w with
  | pure x => simp [Sem.run] at h; obtain ⟨rfl, rfl⟩ := h; rfl
  | load m x k ih =>
    simp only [Sem.bind, Sem.run] at h ⊢
    split at h
    · exact ih _ h
    · split at h
      · exact ih _ h
      · simp at h
  | store m x v k ih =>
    cases v <;> simp only [Sem.bind, Sem.run] at h ⊢ <;> first
      | (simp at h; done)
      | (split at h
         · split at h
           · simp at h
           · rename_i hf; rw [if_neg hf]; exact ih h
         · split at h
           · exact ih h
           · simp at h)
  | new o k ih => exact ih _ h
  | shape r k ih => exact ih _ h
  | freeze x n k ih => exact ih h
  | frozen x k ih => exact ih _ h
  | getObj r k ih =>
    simp only [Sem.bind, Sem.run] at h ⊢
    split at h
    · simp at h
    · exact ih _ h
    · simp at h
  | setObj r o k ih =>
    simp only [Sem.bind, Sem.run] at h ⊢
    split at h
    · simp at h
    · exact ih h
    · simp at h
  | choose q k ih =>
    simp only [Sem.bind, Sem.run] at h ⊢
    split at h
    · rename_i hf; rw [if_pos hf]; exact ih _ h
    · rename_i hf; rw [if_neg hf]; exact ih _ h
  | sys c k ih => exact ih _ h
  | program k ih => exact ih _ h
  | mark m k ih => exact ih h
  | halt x => simp [Sem.run] at h

/-- the same, as 'do' writes it -/
theorem run_do {α β : Type} {P : Program} {s : Sem α} {f : α → Sem β} {w w' : World} {a : α} (h : s.run P w = .ok a w') : (s >>= f).run P w = (f a).run P w' := run_bind_ok h

theorem add_none (b o n : Nat) : (Addr.add ⟨b, o, none⟩ n) = ⟨b, o + n, none⟩ := by
  unfold Addr.add
  split
  · rename_i h; subst h; rfl
  · rfl

theorem cell_of {w : World} {b : Nat} {vs : Array Value} {ty : TypeId} {fr : Nat × Nat} (h : w.heap[b]? = some (.cells vs ty fr)) (o : Nat) : w.cell? ⟨b, o, none⟩ = vs[o]? := by
  simp [World.cell?, h]

theorem frozen_of {w : World} {b : Nat} {vs : Array Value} {ty : TypeId} {fr : Nat × Nat} (h : w.heap[b]? = some (.cells vs ty fr)) (o : Nat) : w.frozen? ⟨b, o, none⟩ = (decide (fr.1 ≤ o) && decide (o < fr.2)) := by
  simp [World.frozen?, h]

theorem load_run {P : Program} {w : World} {a : Addr} {v : Value} (h : w.cell? a = some v) : (load a).run P w = .ok v w := by
  simp [load, Sem.run, h]

theorem loadCellsFrom_run {P : Program} {w : World} {b o : Nat} (vs : List Value) : ∀ (i : Nat) (acc : Array Value), (∀ j v, vs[j]? = some v → w.cell? ⟨b, o + i + j, none⟩ = some v) →
    (loadCellsFrom ⟨b, o, none⟩ i vs.length acc).run P w = .ok (acc ++ vs.toArray) w := by
  induction vs with
  | nil => intro i acc _; simp [loadCellsFrom]
  | cons v r ih =>
    intro i acc h
    simp only [List.length_cons, loadCellsFrom, add_none]
    rw [run_do (load_run (by simpa using h 0 v rfl))]
    rw [ih (i + 1) (acc.push v) (fun j u hu => by have := h (j + 1) u (by simpa using hu); rw [← this]; congr 2; omega)]
    simp

theorem loadCells_run {P : Program} {w : World} {b o : Nat} (vs : List Value) (h : ∀ j v, vs[j]? = some v → w.cell? ⟨b, o + j, none⟩ = some v) :
    (loadCells ⟨b, o, none⟩ vs.length).run P w = .ok vs.toArray w := by
  unfold loadCells
  have := loadCellsFrom_run (P := P) vs 0 #[] (by simpa using h)
  simpa using this

/-- a block with other cells -/
def World.withCells (w : World) (b : Nat) (vs : Array Value) (ty : TypeId) (fr : Nat × Nat) : World := { w with heap := w.heap.setIfInBounds b (.cells vs ty fr) }

theorem heap_modify_cells {w : World} {b : Nat} {vs : Array Value} {ty : TypeId} {fr : Nat × Nat} (h : w.heap[b]? = some (.cells vs ty fr)) (o : Nat) (v : Value) :
    w.setCell ⟨b, o, none⟩ v = World.withCells w b (vs.setIfInBounds o v) ty fr := by
  unfold World.setCell World.withCells
  congr 1
  apply Array.ext_getElem?
  intro i
  rw [Array.getElem?_modify, Array.getElem?_setIfInBounds]
  by_cases e : b = i
  · subst e
    have hb : b < w.heap.size := (Array.getElem?_eq_some_iff.1 h).1
    rw [h]; simp [hb]
  · simp [e]

theorem withCells_heap {w : World} {b : Nat} (hb : b < w.heap.size) (vs : Array Value) (ty : TypeId) (fr : Nat × Nat) : (World.withCells w b vs ty fr).heap[b]? = some (.cells vs ty fr) := by
  simp [World.withCells, hb]

theorem withCells_other {w : World} {b c : Nat} (h : b ≠ c) (vs : Array Value) (ty : TypeId) (fr : Nat × Nat) : (World.withCells w b vs ty fr).heap[c]? = w.heap[c]? := by
  simp [World.withCells, Array.getElem?_setIfInBounds, h]

theorem withCells_twice (w : World) (b : Nat) (vs us : Array Value) (ty ty' : TypeId) (fr fr' : Nat × Nat) : World.withCells (World.withCells w b vs ty fr) b us ty' fr' = World.withCells w b us ty' fr' := by
  simp [World.withCells]

theorem withCells_self {w : World} {b : Nat} {vs : Array Value} {ty : TypeId} {fr : Nat × Nat} (h : w.heap[b]? = some (.cells vs ty fr)) : World.withCells w b vs ty fr = w := by
  unfold World.withCells
  have : w.heap.setIfInBounds b (.cells vs ty fr) = w.heap := by
    apply Array.ext_getElem?
    intro i
    rw [Array.getElem?_setIfInBounds]
    by_cases e : b = i
    · subst e
      obtain ⟨hb, he⟩ := Array.getElem?_eq_some_iff.1 h
      simp [hb, he]
    · simp [e]
  rw [this]

theorem withCells_size (w : World) (b : Nat) (vs : Array Value) (ty : TypeId) (fr : Nat × Nat) : (World.withCells w b vs ty fr).heap.size = w.heap.size := by
  simp [World.withCells]

/-- cells laid over a row from a place on -/
def over (vs : List Value) (o : Nat) (xs : List Value) : List Value := vs.take o ++ xs ++ vs.drop (o + xs.length)

theorem over_nil (vs : List Value) (o : Nat) : over vs o [] = vs := by simp [over]

theorem over_cons {vs : List Value} {o : Nat} {x : Value} {xs : List Value} (h : o + (x :: xs).length ≤ vs.length) : over (vs.set o x) (o + 1) xs = over vs o (x :: xs) := by
  unfold over
  simp only [List.length_cons] at h
  apply List.ext_getElem?
  intro i
  simp only [List.getElem?_append, List.length_append, List.length_take, List.length_set, List.getElem?_take, List.getElem?_drop, List.getElem?_set, List.length_cons]
  have e1 : min (o + 1) vs.length = o + 1 := by omega
  have e2 : min o vs.length = o := by omega
  rw [e1, e2]
  by_cases c1 : i < o
  · simp [show i < o + 1 + xs.length by omega, show i < o + 1 by omega, show i < o + (xs.length + 1) by omega, c1, show ¬ o = i by omega]
  · by_cases c2 : i = o
    · subst c2
      simp [show i < i + 1 + xs.length by omega, show i < vs.length by omega]
    · by_cases c3 : i < o + 1 + xs.length
      · simp [c3, show ¬ i < o + 1 by omega, show i < o + (xs.length + 1) by omega, c1]
        rw [show i - o = (i - (o + 1)) + 1 by omega]; simp
      · simp [c3, show ¬ i < o + (xs.length + 1) by omega]
        rw [if_neg (by omega)]
        congr 1; omega

theorem store_run {P : Program} {w : World} {a : Addr} {u v : Value} (ho : one v = true) (h : w.cell? a = some u) (hf : w.frozen? a = false) : (store a v).run P w = .ok () (w.setCell a v) := by
  cases v <;> simp_all [store, Sem.run, one]

theorem storeCells_run {P : Program} {b o : Nat} {ty : TypeId} {fr : Nat × Nat} (xs : List Value) : ∀ (w : World) (i : Nat) (vs : List Value), (∀ x ∈ xs, one x = true) → w.heap[b]? = some (.cells vs.toArray ty fr) → thawed vs.toArray fr →
    o + i + xs.length ≤ vs.length → (storeCells ⟨b, o, none⟩ xs i).run P w = .ok () (World.withCells w b (over vs (o + i) xs).toArray ty fr) := by
  induction xs with
  | nil =>
    intro w i vs _ h _ _
    simp only [storeCells, over_nil]
    rw [withCells_self h]; rfl
  | cons x r ih =>
    intro w i vs ho h ht hl
    have hl' : o + i < vs.length := by simp at hl; omega
    simp only [storeCells, add_none]
    have hc : w.cell? ⟨b, o + i, none⟩ = some vs[o + i] := by rw [cell_of h]; simp [hl']
    have hf : w.frozen? ⟨b, o + i, none⟩ = false := by
      rw [frozen_of h]
      have := ht (o + i) (by simpa using hl')
      simp only [Bool.and_eq_false_iff, decide_eq_false_iff_not]
      by_cases h1 : fr.1 ≤ o + i
      · right; exact fun h2 => this ⟨h1, h2⟩
      · left; exact h1
    rw [run_do (store_run (ho x List.mem_cons_self) hc hf), heap_modify_cells h]
    have hb : b < w.heap.size := (Array.getElem?_eq_some_iff.1 h).1
    have hset : vs.toArray.setIfInBounds (o + i) x = (vs.set (o + i) x).toArray := by simp
    rw [hset, ih _ (i + 1) (vs.set (o + i) x) (fun y hy => ho y (List.mem_cons_of_mem _ hy)) (withCells_heap hb _ _ _) (by simpa [thawed] using ht) (by simp at hl ⊢; omega)]
    rw [withCells_twice, ← Nat.add_assoc, over_cons (by simpa [Nat.add_assoc] using hl)]

theorem newRow_run {P : Program} {w : World} (elem : TypeId) (cells : Array Value) : (newRow elem cells).run P w = .ok ⟨w.heap.size, 0, none⟩ { w with heap := w.heap.push (.cells cells elem) } := by
  rfl

/-! ### Types -/
theorem tyOf_info {P : Prg} {t : TypeId} {ti : TI} (h : tyOf P t = some ti) :
    ∃ i, P.prog.info? t = some i ∧ P.prog.underlying t = some ti.desc ∧ i.size = ti.size ∧ i.bytes = ti.bytes ∧ i.zero.bind valOf = ti.zero ∧ ti.agg = (match ti.desc with | .struct _ | .array _ _ => true | _ => false) := by
  have h := P.tyOk _ _ h
  unfold tyOf0 at h
  cases h1 : P.prog.info? t <;> cases h2 : P.prog.underlying t <;> simp [h1, h2] at h
  subst h
  exact ⟨_, rfl, rfl, rfl, rfl, rfl, rfl⟩

theorem underlying_run {P : Program} {t : TypeId} {d : TypeDesc} (h : P.underlying t = some d) (w : World) : (underlying t).run P w = .ok d w := by
  unfold underlying program
  simp only [bind, Sem.bind, Sem.run, h]
  rfl

theorem typeInfo_run {P : Program} {t : TypeId} {i : TypeInfo} (h : P.info? t = some i) (w : World) : (typeInfo t).run P w = .ok i w := by
  unfold typeInfo program
  simp only [bind, Sem.bind, Sem.run, h]
  rfl

theorem sizeOf_run {P : Prg} {t : TypeId} {ti : TI} (h : tyOf P t = some ti) (w : World) : (sizeOf t).run P w = .ok ti.size w := by
  obtain ⟨i, hi, _, hs, _⟩ := tyOf_info h
  unfold sizeOf
  rw [run_do (typeInfo_run hi w), hs]; rfl

theorem isAgg_run {P : Prg} {t : TypeId} {ti : TI} (h : tyOf P t = some ti) (w : World) : (isAgg t).run P w = .ok ti.agg w := by
  obtain ⟨i, hi, hu, _, _, _, ha⟩ := tyOf_info h
  unfold isAgg
  rw [run_do (underlying_run hu w), ha]
  cases ti.desc <;> rfl

theorem zeroValue_run {P : Prg} {t : TypeId} {ti : TI} {z : TV} (h : tyOf P t = some ti) (hz : ti.zero = some z) (w : World) (G : Gh) : ∃ v, (zeroValue t).run P w = .ok v w ∧ VR G z v := by
  obtain ⟨i, hi, _, _, _, h0, _⟩ := tyOf_info h
  rw [hz] at h0
  cases hv : i.zero with
  | none => rw [hv] at h0; simp at h0
  | some v =>
    rw [hv] at h0
    simp only [Option.bind_some] at h0
    refine ⟨v, ?_, valOf_VR h0⟩
    unfold zeroValue
    rw [run_do (typeInfo_run hi w), hv]; rfl

theorem leafOf_ne {v : Value} {x : TV} (h : leafOf v = some x) : x ≠ .any := by
  rintro rfl
  unfold leafOf at h
  split at h <;> simp at h

theorem mkAgg_ne (l : List TV) : mkAgg l ≠ .any := by
  unfold mkAgg
  split <;> simp

theorem mkTup_ne (l : List TV) : mkTup l ≠ .any := by
  unfold mkTup
  split <;> simp

theorem valOf_ne {v : Value} {x : TV} (h : valOf v = some x) : x ≠ .any := by
  unfold valOf at h
  split at h
  · split at h <;> simp at h
    subst h
    exact mkAgg_ne _
  · split at h <;> simp at h
    subst h
    exact mkTup_ne _
  · exact leafOf_ne h

theorem zero_ne {P : Prg} {t : TypeId} {ti : TI} {z : TV} (h : tyOf P t = some ti) (hz : ti.zero = some z) : z ≠ .any := by
  obtain ⟨i, hi, _, _, _, h0, _⟩ := tyOf_info h
  rw [hz] at h0
  cases hv : i.zero with
  | none => rw [hv] at h0; simp at h0
  | some v =>
    rw [hv] at h0
    simp only [Option.bind_some] at h0
    exact valOf_ne h0

theorem leaf_ne {x : TV} (h : x.cells.all TV.leaf = true) : x ≠ .any := by
  rintro rfl
  simp [TV.cells, TV.leaf] at h

end Go.Abs

namespace Go.Abs
open Go

/-- what package-level variables hold -/
def GlobR (C : Cfg) (G : Gh) : Prop := ∀ g cs, C.glob g = some cs → ∃ vals : Nat → Value, (∀ (j : Nat) c, cs[j]? = some c → G.F g (0 + j) = some (vals j)) ∧ ∀ (j : Nat) c, cs[j]? = some c → VT G.F c (vals j)

theorem GlobR.mono {C : Cfg} {G G' : Gh} (h : GlobR C G) (hG : G.le G') : GlobR C G' := fun g cs hg =>
  let ⟨vals, h1, h2⟩ := h g cs hg
  ⟨vals, fun j c hc => hG.F _ _ _ (h1 j c hc), fun j c hc => (h2 j c hc).mono hG.F⟩

/-- the slots -/
def SR (G : Gh) (slots : List TV) (a : Act) : Prop := VRs G slots a.tmps.toList

theorem undef_VR (G : Gh) : VR G undefT undef := .t _ _ (.tup [] [] rfl (by simp))

theorem SR.getD {G : Gh} {slots : List TV} {a : Act} (h : SR G slots a) (t : Nat) : VR G (slots.getD t undefT) (a.tmps.getD t undef) := by
  by_cases ht : t < slots.length
  · have ht' : t < a.tmps.size := by have := h.1; simp at this; omega
    have e1 : slots[t]? = some slots[t] := List.getElem?_eq_getElem ht
    have e2 : a.tmps.toList[t]? = some a.tmps[t] := by simp [ht']
    have := h.2 t _ _ e1 e2
    simpa [List.getD, e1, ht'] using this
  · have ht' : ¬ t < a.tmps.size := by have := h.1; simp at this; omega
    have e1 : slots[t]? = none := List.getElem?_eq_none (by omega)
    simpa [List.getD, e1, ht'] using undef_VR G

theorem rho_VR {C : Cfg} {G : Gh} {slots : List TV} {a : Act} (hs : SR G slots a) (hg : GlobR C G) {x : Operand} {v : TV} (h : rhoT C slots x = some v) : VR G v (a.eval x) := by
  cases x with
  | tmp t => simp [rhoT, getS_eq] at h; subst h; exact hs.getD t
  | const c => exact valOf_VR h
  | global g =>
    simp only [rhoT] at h
    cases hc : C.glob g <;> simp [hc] at h
    subst h
    obtain ⟨vals, h1, h2⟩ := hg g _ hc
    exact .tptr _ 0 g 0 vals h1 h2
  | func f => simp [rhoT] at h; subst h; exact .t _ _ (.fn _)

theorem rhos_VR {C : Cfg} {G : Gh} {slots : List TV} {a : Act} (hs : SR G slots a) (hg : GlobR C G) {xs : List Operand} {vs : List TV} (h : rhosT C slots xs = some vs) : VRs G vs (xs.map a.eval) := by
  induction xs generalizing vs with
  | nil => simp [rhosT] at h; subst h; exact VRs.nil G
  | cons x r ih =>
    simp only [rhosT] at h
    cases h1 : rhoT C slots x <;> cases h2 : rhosT C slots r <;> simp [h1, h2] at h
    subst h
    exact VRs.cons (rho_VR hs hg h1) (ih h2)

/-- an operation is right -/
def OpOk (P : Program) (nm : Nm) (o : Oper) (a : Act) (w : World) (G : Gh) (v : TV) (u : List (Nm × AObj)) : Prop :=
  ∃ x w' G', ((execOp a.eval o).run P w = .ok (.value x) w' ∨ ((execOp a.eval o).run P w = .ok .skip w' ∧ x = undef)) ∧ Step (fun k => k ∈ u.map (·.1)) (fun k => k = nm) G w G' w' ∧
    (∀ k ob, (k, ob) ∈ u → G'.dom k ∧ OR G' w' k ob) ∧ VR G' v x

theorem OpOk.of_value {P : Program} {nm : Nm} {o : Oper} {a : Act} {w w' : World} {G G' : Gh} {v : TV} {u : List (Nm × AObj)} {x : Value}
    (hr : (execOp a.eval o).run P w = .ok (.value x) w') (hs : Step (fun k => k ∈ u.map (·.1)) (fun k => k = nm) G w G' w')
    (hu : ∀ k ob, (k, ob) ∈ u → G'.dom k ∧ OR G' w' k ob) (hv : VR G' v x) : OpOk P nm o a w G v u :=
  ⟨x, w', G', .inl hr, hs, hu, hv⟩

theorem OpOk.of_skip {P : Program} {nm : Nm} {o : Oper} {a : Act} {w w' : World} {G G' : Gh} {u : List (Nm × AObj)}
    (hr : (execOp a.eval o).run P w = .ok .skip w') (hs : Step (fun k => k ∈ u.map (·.1)) (fun k => k = nm) G w G' w')
    (hu : ∀ k ob, (k, ob) ∈ u → G'.dom k ∧ OR G' w' k ob) : OpOk P nm o a w G undefT u :=
  ⟨undef, w', G', .inr ⟨hr, rfl⟩, hs, hu, undef_VR G'⟩

/-- nothing is written -/
theorem OpOk.quiet {P : Program} {nm : Nm} {o : Oper} {a : Act} {w : World} {G : Gh} {v : TV} {x : Value} (hw : WF G w)
    (hr : (execOp a.eval o).run P w = .ok (.value x) w) (hv : VR G v x) : OpOk P nm o a w G v [] :=
  OpOk.of_value hr (Step.refl hw _ _) (fun _ _ h => by simp at h) hv

theorem VR.bool {G : Gh} {b : Bool} {v : Value} (h : VR G (.t (.bool b)) v) : v = .bool b := by cases h with | t _ _ h => cases h; rfl
theorem VR.int {G : Gh} {k : IntKind} {n : Int} {v : Value} (h : VR G (.t (.int k n)) v) : v = .int k n := by cases h with | t _ _ h => cases h; rfl
theorem VR.str {G : Gh} {s : List UInt8} {v : Value} (h : VR G (.t (.str s)) v) : v = .string ⟨s.toArray⟩ := by cases h with | t _ _ h => cases h; rfl

theorem bytesLess_eq : ∀ (a b : List UInt8), Op.bytesLess a b = bytesLessT a b
  | _, [] => by cases ‹List UInt8› <;> rfl
  | [], _ :: _ => rfl
  | a :: x, b :: y => by simp only [Op.bytesLess, bytesLessT, bytesLess_eq x y]

theorem toList_mk (s : List UInt8) : (ByteArray.mk s.toArray).toList = s := by
  rw [Go.ByteArray.toList_eq]

theorem strT_run {P : Program} {G : Gh} {op : BinOp} {s u : List UInt8} {v : TV} (h : strT op s u = some v) (w : World) :
    ∃ x, (Op.stringOp op ⟨s.toArray⟩ ⟨u.toArray⟩).run P w = .ok x w ∧ VR G v x := by
  cases op <;> simp only [strT] at h <;> (try (simp at h; done)) <;>
    simp only [Op.stringOp, toList_mk, bytesLess_eq]
  case add =>
    split at h
    · rename_i hle
      simp at h; subst h
      rw [if_neg]
      · refine ⟨_, rfl, ?_⟩
        have e : (ByteArray.mk s.toArray ++ ByteArray.mk u.toArray) = ⟨(s ++ u).toArray⟩ := by
          apply Go.WideShapes.bytes_inj
          simp
        rw [e]; exact .t _ _ (.str _)
      · have e : IntKind.i64.max = 9223372036854775807 := by decide
        rw [e]
        simp only [ByteArray.size, maxStr, List.size_toArray] at hle ⊢
        omega
    · simp at h
  all_goals
    simp only [Option.some.injEq] at h; subst h
    exact ⟨_, rfl, .t _ _ (.bool _)⟩

/-! ### The quiet operations -/
section quiet
variable {C : Cfg} {f : FuncId} {nm : Nm} {H : Heap} {slots : List TV} {o : Oper} {a : Act} {w : World} {G : Gh} {v : TV} {u : List (Nm × AObj)}

theorem noU_some {x : Option TV} (h : noU x = some (v, u)) : x = some v ∧ u = [] := by
  cases x <;> simp [noU] at h
  exact ⟨by rw [h.1], h.2⟩

theorem dataBin_run {op : BinOp} {t : TypeId} {x y : Operand} {b c : TV} {p q : Value} (hb : VR G b p) (hc : VR G c q) (h : dataBin C.P op t x y b c = some v) :
    ∃ r, (do eqGuard op t x y p q; binOp op t p q : Sem Value).run C.P w = .ok r w ∧ VR G v r := by
  unfold dataBin at h
  cases h1 : dataV b <;> cases h2 : dataV c <;> simp [h1, h2] at h
  rename_i p' q'
  have e1 := dataV_eq h1 hb
  have e2 := dataV_eq h2 hc
  subst e1; subst e2
  cases h3 : pureRun C.P (do eqGuard op t x y p q; binOp op t p q) <;> simp [h3] at h
  exact ⟨_, pureRun_run h3 w, valOf_VR h⟩

theorem eqGuard_nil {op : BinOp} {t : TypeId} {x y : Operand} {p q : Value} (h : ∀ z, q ≠ .agg z) (h' : q ≠ .nilIface) : eqGuard op t x y p q = pure () := by
  unfold eqGuard
  cases q <;> first
    | (exact absurd rfl (h _))
    | (exact absurd rfl h')
    | (cases op <;> cases p <;> rfl)

theorem eql_nil_run {t : TypeId} {x y : Operand} {p q : Value} {r : Bool} (hq : ∀ z, q ≠ .agg z) (hq' : q ≠ .nilIface) (hp1 : binOp .eql t p q = do pure (.bool (← Op.equal t p q))) (hp2 : binOp .neq t p q = do pure (.bool (!(← Op.equal t p q))))
    (he : (Op.equalIn (9999 + 1) t p q).run C.P w = .ok r w) :
    (do eqGuard .eql t x y p q; binOp .eql t p q : Sem Value).run C.P w = .ok (.bool r) w ∧ (do eqGuard .neq t x y p q; binOp .neq t p q : Sem Value).run C.P w = .ok (.bool (!r)) w := by
  have he : (Op.equal t p q).run C.P w = .ok r w := he
  rw [eqGuard_nil hq hq', eqGuard_nil hq hq', hp1, hp2]
  constructor
  · show (Sem.bind (Op.equal t p q) _).run C.P w = _
    rw [run_bind_ok he]; rfl
  · show (Sem.bind (Op.equal t p q) _).run C.P w = _
    rw [run_bind_ok he]; rfl

section eqs
variable {t e k : TypeId} {ps rs : Array TypeId} {va : Bool} {d : Nat}
theorem eq_sl_nn (hu : C.P.prog.underlying t = some (.slice e)) (b : Option Addr) (n m l c : Nat) : (Op.equalIn (d + 1) t (.slice b n m) (.slice none l c)).run C.P w = .ok b.isNone w := by
  simp only [Op.equalIn]; rw [run_do (underlying_run hu w)]; cases b <;> rfl
theorem eq_map_nn (hu : C.P.prog.underlying t = some (.map k e)) (b : Option Nat) : (Op.equalIn (d + 1) t (.map b) (.map none)).run C.P w = .ok b.isNone w := by
  simp only [Op.equalIn]; rw [run_do (underlying_run hu w)]; cases b <;> rfl
theorem eq_fn_nn (hu : C.P.prog.underlying t = some (.func ps rs va)) : (Op.equalIn (d + 1) t .nilFunc .nilFunc).run C.P w = .ok true w := by
  simp only [Op.equalIn]; rw [run_do (underlying_run hu w)]; rfl
theorem eq_fn_fn (hu : C.P.prog.underlying t = some (.func ps rs va)) (f : Fn) (a b : Array Value) : (Op.equalIn (d + 1) t (.func f a b) .nilFunc).run C.P w = .ok false w := by
  simp only [Op.equalIn]; rw [run_do (underlying_run hu w)]; rfl
theorem eq_ptr_nn (hu : C.P.prog.underlying t = some (.pointer e)) (b : Option Addr) : (Op.equalIn (d + 1) t (.pointer b) (.pointer none)).run C.P w = .ok b.isNone w := by
  simp only [Op.equalIn]; rw [run_do (underlying_run hu w)]; cases b <;> rfl
end eqs

theorem nilEq_run {t : TypeId} {x y : Operand} {b c : TV} {p q : Value} {ti : TI} {r : Bool} (ht : tyOf C.P t = some ti) (hb : VR G b p) (hc : VR G c q) (h : nilEq ti.desc b c = some r) (w : World) :
    (do eqGuard .eql t x y p q; binOp .eql t p q : Sem Value).run C.P w = .ok (.bool r) w ∧ (do eqGuard .neq t x y p q; binOp .neq t p q : Sem Value).run C.P w = .ok (.bool (!r)) w := by
  obtain ⟨i, hi, hu, _⟩ := tyOf_info ht
  unfold nilEq at h
  split at h <;> simp only [Option.some.injEq, reduceCtorEq] at h <;> subst h <;> rename_i hd <;> rw [hd] at hu
  · cases hb; cases hc
    exact eql_nil_run (by intro z; simp) (by simp) rfl rfl (eq_sl_nn hu none 0 0 0 0)
  · cases hb with | t _ _ hb => cases hb with | sl => cases hc; exact eql_nil_run (by intro z; simp) (by simp) rfl rfl (eq_sl_nn hu (some _) _ _ 0 0)
  · cases hb with | tsl _ _ hb => cases hb with | sl => cases hc; exact eql_nil_run (by intro z; simp) (by simp) rfl rfl (eq_sl_nn hu (some _) _ _ 0 0)
  · cases hb with | t _ _ hb => cases hb; cases hc with | t _ _ hc => cases hc; exact eql_nil_run (by intro z; simp) (by simp) rfl rfl (eq_map_nn hu none)
  · cases hb; cases hc with | t _ _ hc => cases hc; exact eql_nil_run (by intro z; simp) (by simp) rfl rfl (eq_map_nn hu (some _))
  · cases hb with | t _ _ hb => cases hb; cases hc with | t _ _ hc => cases hc; exact eql_nil_run (by intro z; simp) (by simp) rfl rfl (eq_fn_nn hu)
  · cases hb; cases hc with | t _ _ hc => cases hc; exact eql_nil_run (by intro z; simp) (by simp) rfl rfl (eq_fn_fn hu _ _ _)
  · cases hb with | t _ _ hb => cases hb; cases hc with | t _ _ hc => cases hc; exact eql_nil_run (by intro z; simp) (by simp) rfl rfl (eq_fn_fn hu _ _ _)
  · cases hb with | t _ _ hb => cases hb; cases hc with | t _ _ hc => cases hc; exact eql_nil_run (by intro z; simp) (by simp) rfl rfl (eq_ptr_nn hu none)
  · cases hb; cases hc with | t _ _ hc => cases hc; exact eql_nil_run (by intro z; simp) (by simp) rfl rfl (eq_ptr_nn hu (some _))
  · cases hb; cases hc with | t _ _ hc => cases hc; exact eql_nil_run (by intro z; simp) (by simp) rfl rfl (eq_ptr_nn hu (some _))

end quiet
end Go.Abs

namespace Go.Abs
open Go

section
variable {C : Cfg} {f : FuncId} {nm : Nm} {H : Heap} {slots : List TV} {a : Act} {w : World} {G : Gh} {v : TV}

theorem intT_run {P : Program} {op : BinOp} {k : IntKind} {n m : Int} (h : intT op k n m = some v) (t : TypeId) (w : World) :
    ∃ r, (binOp op t (.int k n) (.int k m)).run P w = .ok r w ∧ VR G v r := by
  cases op <;> simp only [intT] at h <;> first
    | (simp at h; done)
    | (simp only [Option.some.injEq] at h; subst h; exact ⟨_, by simp [binOp, Op.intArith, Op.intCmp] <;> rfl, .t _ _ (by first | exact .int _ _ | exact .bool _)⟩)
    | (split at h
       · simp at h
       · rename_i h0
         simp only [Option.some.injEq] at h; subst h; exact ⟨_, by simp [binOp, Op.intDiv, h0] <;> rfl, .t _ _ (.int _ _)⟩)

theorem binT_run {op : BinOp} {t : TypeId} {x y : Operand} {b c : TV} {p q : Value} (hb : VR G b p) (hc : VR G c q) (h : binT C.P op t x y b c = some v) (w : World) :
    ∃ r, (do eqGuard op t x y p q; binOp op t p q : Sem Value).run C.P w = .ok r w ∧ VR G v r := by
  unfold binT at h
  split at h
  · rename_i s u
    have e1 := hb.str
    have e2 := hc.str
    subst e1; subst e2
    obtain ⟨r, h1, h2⟩ := strT_run h w (P := C.P) (G := G)
    refine ⟨r, ?_, h2⟩
    rw [eqGuard_nil (by intro z; simp) (by simp)]
    cases op <;> first | exact h1 | (simp [strT] at h)
  · rename_i k n k' m
    split at h
    case isFalse => exact dataBin_run hb hc h
    rename_i hk
    subst hk
    split at h
    · rename_i v' hv
      simp only [Option.some.injEq] at h
      subst h
      have e1 := hb.int
      have e2 := hc.int
      subst e1; subst e2
      obtain ⟨r, h1, h2⟩ := intT_run (P := C.P) (G := G) hv t w
      refine ⟨r, ?_, h2⟩
      rw [eqGuard_nil (by intro z; simp) (by simp)]
      exact h1
    · exact dataBin_run hb hc h
  · split at h
    · split at h
      · rename_i ti ht
        cases hn : nilEq ti.desc b c <;> simp [hn] at h
        subst h
        exact ⟨_, (nilEq_run ht hb hc hn w).1, .t _ _ (.bool _)⟩
      · rename_i ti ht
        cases hn : nilEq ti.desc b c <;> simp [hn] at h
        subst h
        exact ⟨_, (nilEq_run ht hb hc hn w).2, .t _ _ (.bool _)⟩
      · simp at h
    · exact dataBin_run hb hc h

theorem unT_run {op : UnOp} {b : TV} {p : Value} (hb : VR G b p) (h : unT C.P op b = some v) (w : World) : ∃ r, (Op.unary op p).run C.P w = .ok r w ∧ VR G v r := by
  unfold unT at h
  cases h1 : dataV b <;> simp [h1] at h
  have e := dataV_eq h1 hb
  subst e
  cases h2 : pureRun C.P (Op.unary op p) <;> simp [h2] at h
  exact ⟨_, pureRun_run h2 w, valOf_VR h⟩

/-! ### Loads -/
/-- cells somewhere, as the world has them -/
theorem cellsAt_run {p : TV} {x : Value} {cs : List TV} {off : Nat} (hH : HR G w H) (hw : WF G w) (hp : VR G p x) (h : cellsAt H p = some (cs, off)) :
    ∃ b o vs, x = .pointer (some ⟨b, o + off, none⟩) ∧ VRs G cs vs ∧ ∀ (j : Nat) u, vs[j]? = some u → w.cell? ⟨b, o + j, none⟩ = some u := by
  unfold cellsAt at h
  split at h
  · rename_i k o
    split at h <;> simp at h
    rename_i cs' hk
    obtain ⟨rfl, rfl⟩ := h
    obtain ⟨hd, ha, vs, ty, fr, hh, ht, hv, hf⟩ := hH k _ hk
    cases hp with | ptr _ _ _ _ =>
      refine ⟨G.mu k, 0, vs.toList, by simp, hv, fun j u hu => ?_⟩
      rw [cell_of hh]; simpa using hu
  · rename_i k n o
    split at h
    · rename_i g esz fz cs' hk
      split at h <;> simp at h
      rename_i hn
      obtain ⟨rfl, rfl⟩ := h
      obtain ⟨hd, he, cap, vs, ty, fr, ha, hh, ht, hs, hl, hv, hf⟩ := hH k _ hk
      cases hp with | aptr _ _ _ n' esz' cap' _ hd' ha' hle ho hv' =>
        rw [ha] at ha'
        simp at ha'
        obtain ⟨e1, e2, e3⟩ := ha'
        have hx := hv' (by omega)
        refine ⟨G.mu k, 0, vs.toList.take cs'.length, by simpa using hx, hv, fun j u hu => ?_⟩
        rw [cell_of hh]
        rw [List.getElem?_take] at hu
        split at hu
        · simpa using hu
        · simp at hu
    · simp at h
  · rename_i cs' o
    simp at h
    obtain ⟨rfl, rfl⟩ := h
    cases hp with | tptr _ _ b o' vals hF hv =>
      refine ⟨b, o', (List.range cs'.length).map vals, rfl, ⟨by simp, fun j c u hc hu => ?_⟩, fun j u hu => ?_⟩
      · rw [List.getElem?_map] at hc hu
        cases hj : cs'[j]? with
        | none => rw [hj] at hc; simp at hc
        | some t =>
          rw [hj] at hc; simp at hc; subst hc
          have hlt : j < cs'.length := (List.getElem?_eq_some_iff.1 hj).1
          simp [hlt] at hu
          subst hu
          exact .t _ _ (hv j t hj)
      · rw [List.getElem?_map] at hu
        by_cases hlt : j < cs'.length
        · simp [hlt] at hu
          subst hu
          obtain ⟨vs, ty, fr, h1, h2⟩ := hw.F _ _ _ (hF j cs'[j] (List.getElem?_eq_getElem hlt))
          rw [cell_of h1]; exact h2
        · rw [List.getElem?_eq_none (by simpa using hlt)] at hu; simp at hu
  · simp at h

theorem partT_load {t : TypeId} {ti : TI} {cs : List TV} {vs : List Value} {b o off : Nat} (ht : tyOf C.P t = some ti) (hv : VRs G cs vs) (hc : ∀ (j : Nat) u, vs[j]? = some u → w.cell? ⟨b, o + j, none⟩ = some u)
    (h : partT ti.agg ti.size cs off = some v) : ∃ r, (loadVar t ⟨b, o + off, none⟩).run C.P w = .ok r w ∧ VR G v r := by
  unfold partT at h
  unfold loadVar
  rw [run_do (isAgg_run ht w)]
  cases hag : ti.agg <;> rw [hag] at h <;> simp only [Bool.false_eq_true, if_true, if_false] at h ⊢
  · obtain ⟨u, hu, hvu⟩ := hv.at h
    refine ⟨u, ?_, hvu⟩
    exact load_run (hc off u hu)
  · split at h <;> simp at h
    rename_i hle
    subst h
    have hlen : ((vs.drop off).take ti.size).length = ti.size := by have := hv.1; simp; omega
    refine ⟨.agg ((vs.drop off).take ti.size).toArray, ?_, mkAgg_VR ((hv.drop off).take ti.size)⟩
    rw [run_do (sizeOf_run ht w)]
    have hl := loadCells_run (P := C.P) (w := w) (b := b) (o := o + off) ((vs.drop off).take ti.size) (fun j u hu => by
      rw [List.getElem?_take] at hu
      split at hu
      · rw [List.getElem?_drop] at hu
        rw [Nat.add_assoc]; exact hc _ u hu
      · simp at hu)
    rw [hlen] at hl
    rw [run_do hl]; rfl

theorem loadT_run {t : TypeId} {p : TV} {x : Value} (hH : HR G w H) (hw : WF G w) (hp : VR G p x) (h : loadT C.P H t p = some v) : ∃ r, (Instr.loadAt t x).run C.P w = .ok r w ∧ VR G v r := by
  unfold loadT at h
  cases ht : tyOf C.P t <;> cases hc : cellsAt H p <;> simp [ht, hc] at h
  rename_i ti co
  obtain ⟨cs, off⟩ := co
  obtain ⟨b, o, vs, rfl, hv, hcell⟩ := cellsAt_run hH hw hp hc
  exact partT_load ht hv hcell h

/-- a part of an aggregate value -/
theorem partT_part {t : TypeId} {ti : TI} {cs : List TV} {vs : List Value} {off : Nat} (ht : tyOf C.P t = some ti) (hv : VRs G cs vs)
    (h : partT ti.agg ti.size cs off = some v) (w : World) : ∃ r, (part t vs.toArray off).run C.P w = .ok r w ∧ VR G v r := by
  unfold partT at h
  unfold part
  rw [run_do (isAgg_run ht w)]
  cases hag : ti.agg <;> rw [hag] at h <;> simp only [Bool.false_eq_true, if_true, if_false] at h ⊢
  · obtain ⟨u, hu, hvu⟩ := hv.at h
    refine ⟨u, ?_, hvu⟩
    have : vs.toArray[off]? = some u := by simpa using hu
    rw [this]; rfl
  · split at h <;> simp at h
    rename_i hle
    subst h
    refine ⟨.agg ((vs.drop off).take ti.size).toArray, ?_, mkAgg_VR ((hv.drop off).take ti.size)⟩
    rw [run_do (sizeOf_run ht w)]
    have : vs.toArray.extract off (off + ti.size) = ((vs.drop off).take ti.size).toArray := by
      simp [List.extract_eq_take_drop]
    rw [this]; rfl

/-- an aggregate's value, told by its cells -/
theorem VR.agg_of {p : TV} {x : Value} (hp : VR G p x) (hx : isAggT p = true) : ∃ vs : List Value, x = .agg vs.toArray ∧ VRs G p.cells vs := by
  cases hp with
  | t y v h =>
    cases h with
    | agg cs vs hl h => exact ⟨vs, rfl, VTs.toVRs ⟨hl, h⟩⟩
    | _ => simp [isAggT] at hx
  | agg cs vs hl h => exact ⟨vs, rfl, hl, h⟩
  | _ => simp [isAggT] at hx

/-! ### Addresses -/
theorem ptrAdd_VR {p : TV} {x : Value} {n : Nat} (hH : HR G w H) (hp : VR G p x) (h : ptrAdd H p n = some v) :
    ∃ b o, x = .pointer (some ⟨b, o, none⟩) ∧ VR G v (.pointer (some ⟨b, o + n, none⟩)) := by
  unfold ptrAdd at h
  split at h
  · simp at h; subst h
    cases hp with | ptr k o hd hn => exact ⟨_, _, rfl, .ptr _ _ hd hn⟩
  · rename_i k m o
    split at h
    · rename_i g esz fz cs hk
      split at h <;> simp at h
      rename_i hm
      subst h
      obtain ⟨hd, he, cap, vs, ty, fr, ha, hh, ht, hs, hl, hv, hf⟩ := hH k _ hk
      cases hp with | aptr _ _ _ n' esz' cap' _ hd' ha' hle ho hv' =>
        rw [ha] at ha'
        simp at ha'
        obtain ⟨e1, e2, e3⟩ := ha'
        have hx := hv' (by omega)
        exact ⟨_, _, hx, .aptr k m _ cs.length esz cap _ hd ha (by omega) ⟨_, rfl⟩ (fun _ => rfl)⟩
    · simp at h
  · simp at h; subst h
    cases hp with | tptr cs o b o' vals hF hv => exact ⟨b, _, rfl, by rw [Nat.add_assoc]; exact .tptr _ _ b o' vals hF hv⟩
  · simp at h

theorem fieldPlace_run {fd : Field} {ti : TI} {b o : Nat} (ht : tyOf C.P fd.type = some ti) (hs : ti.size ≠ 0) (w : World) : (fieldPlace ⟨b, o, none⟩ fd).run C.P w = .ok ⟨b, o + fd.offset, none⟩ w := by
  unfold fieldPlace
  rw [run_do (sizeOf_run ht w), if_neg hs, add_none]; rfl

theorem fieldAddr_run {s : TypeId} {x : Value} {p : TV} {i : Nat} {ti tf : TI} {fs : Array Field} {fd : Field} (hH : HR G w H) (hp : VR G p x) (ht : tyOf C.P s = some ti) (hd : ti.desc = .struct fs) (hi : fs[i]? = some fd)
    (htf : tyOf C.P fd.type = some tf) (hs : tf.size ≠ 0) (h : ptrAdd H p fd.offset = some v) : ∃ r, (Instr.fieldAt s x i).run C.P w = .ok r w ∧ VR G v r := by
  obtain ⟨b, o, rfl, hv⟩ := ptrAdd_VR hH hp h
  refine ⟨_, ?_, hv⟩
  obtain ⟨_, _, hu, _⟩ := tyOf_info ht
  rw [hd] at hu
  simp [Instr.fieldAt, underlying_run hu w, hi, Instr.sureAddr, fieldPlace_run htf hs w]

theorem field_run {t : TypeId} {x : Value} {p : TV} {i : Nat} {ti tf : TI} {fs : Array Field} {fd : Field} (hp : VR G p x) (ht : tyOf C.P t = some ti) (hd : ti.desc = .struct fs) (hi : fs[i]? = some fd)
    (htf : tyOf C.P fd.type = some tf) (hagg : isAggT p = true) (h : partT tf.agg tf.size p.cells fd.offset = some v) (w : World) : ∃ r, (Instr.field t x i).run C.P w = .ok r w ∧ VR G v r := by
  obtain ⟨vs, rfl, hv⟩ := hp.agg_of hagg
  obtain ⟨r, h1, h2⟩ := partT_part htf hv h w
  refine ⟨r, ?_, h2⟩
  obtain ⟨_, _, hu, _⟩ := tyOf_info ht
  rw [hd] at hu
  simp [Instr.field, underlying_run hu w, hi, asAgg, h1]

theorem toIndex_VR {p : TV} {x : Value} {n : Nat} (hp : VR G p x) (h : toIndex p = some n) : ∃ k, x = .int k (n : Int) := by
  unfold toIndex at h
  split at h
  · rename_i k m
    split at h <;> simp at h
    subst h
    have := hp.int
    subst this
    exact ⟨k, by rw [Int.toNat_of_nonneg (by assumption)]⟩
  · simp at h

theorem index_run {t : TypeId} {x y : Value} {p q : TV} (hp : VR G p x) (hq : VR G q y) (h : indexT C.P t p q = some v) (w : World) : ∃ r, (Instr.index t x y).run C.P w = .ok r w ∧ VR G v r := by
  unfold indexT at h
  cases ht : tyOf C.P t <;> cases hi : toIndex q <;> simp only [ht, hi, reduceCtorEq] at h
  rename_i ti i
  obtain ⟨k, rfl⟩ := toIndex_VR hq hi
  obtain ⟨_, _, hu, _⟩ := tyOf_info ht
  split at h
  · rename_i s hd
    have := hp.str
    subst this
    rw [hd] at hu
    cases hb : s[i]? <;> simp [hb] at h
    subst h
    refine ⟨_, ?_, .t _ _ (.int _ _)⟩
    have hs : (ByteArray.mk s.toArray)[i]? = some ‹UInt8› := by
      obtain ⟨h1, h2⟩ := List.getElem?_eq_some_iff.1 hb
      rw [getElem?_pos _ _ (by simpa [ByteArray.size] using h1)]
      have e : (ByteArray.mk s.toArray)[i]'(by simpa [ByteArray.size] using h1) = s[i] := rfl
      rw [e, h2]
    simp [Instr.index, asIntOf, underlying_run hu w, hs]
  · rename_i len elem hd
    cases hte : tyOf C.P elem <;> simp only [hte, reduceCtorEq] at h
    rename_i te
    split at h
    · rename_i hc
      obtain ⟨h1, h2, h3⟩ := hc
      obtain ⟨vs, rfl, hv⟩ := hp.agg_of h3
      obtain ⟨r, h4, h5⟩ := partT_part hte hv h w
      refine ⟨r, ?_, h5⟩
      rw [hd] at hu
      simp [Instr.index, asIntOf, underlying_run hu w, h1, sizeOf_run hte w, h4]
    · simp at h
  · simp at h

theorem extract_run {x : Value} {p : TV} {i : Nat} (hp : VR G p x) (h : extractT p i = some v) (w : World) : ∃ r, (Instr.extract x i).run C.P w = .ok r w ∧ VR G v r := by
  unfold extractT at h
  split at h
  · cases hp with | tup _ vs hl hh =>
      obtain ⟨u, h1, h2⟩ := VRs.at ⟨hl, hh⟩ h
      refine ⟨u, ?_, h2⟩
      have : vs.toArray[i]? = some u := by simpa using h1
      simp [Instr.extract, this]
  · rename_i cs
    cases hp with | t _ _ ht => cases ht with | tup _ vs hl hh =>
      obtain ⟨u, h1, h2⟩ := VRs.at (VTs.toVRs (G := G) ⟨hl, hh⟩) (by simpa using h)
      refine ⟨u, ?_, h2⟩
      have : vs.toArray[i]? = some u := by simpa using h1
      simp [Instr.extract, this]
  · simp at h

theorem assert_run {x : Value} {p : TV} {xt t : TypeId} {ok : Bool} (hp : VR G p x) (h : assertT C.P p t ok = some v) (w : World) : ∃ r, (Instr.typeAssert x xt t ok).run C.P w = .ok r w ∧ VR G v r := by
  unfold assertT at h
  cases ht : tyOf C.P t <;> simp only [ht, reduceCtorEq] at h
  rename_i ta
  obtain ⟨_, _, hu, _⟩ := tyOf_info ht
  have hx : ∀ t' v', (match p with | .iface t v => some (t, v) | .t (.iface t v) => some (t, .t v) | _ => none) = some (t', v') → ∃ y, x = .iface t' y ∧ VR G v' y := by
    intro t' v' he
    split at he <;> simp at he
    · obtain ⟨rfl, rfl⟩ := he
      cases hp with | iface _ _ y hy => exact ⟨y, rfl, hy⟩
    · obtain ⟨rfl, rfl⟩ := he
      cases hp with | t _ _ hy => cases hy with | iface _ _ y hy => exact ⟨y, rfl, .t _ _ hy⟩
  split at h
  · simp at h
  · rename_i t' v' he hni
    obtain ⟨y, rfl, hy⟩ := hx t' v' he
    split at h
    · rename_i htt
      subst htt
      simp at h
      subst h
      refine ⟨if ok then .tuple #[y, .bool true] else y, ?_, ?_⟩
      · unfold Instr.typeAssert
        rw [run_do (underlying_run hu w)]
        cases hdd : ta.desc <;> first
          | (exact absurd hdd (hni _))
          | (cases ok <;> simp)
      · cases ok
        · exact hy
        · exact mkTup_VR (VRs.cons hy (VRs.one (.t _ _ (.bool true))))
    · rename_i htt
      split at h
      · rename_i hok
        subst hok
        cases hz : ta.zero <;> simp [hz] at h
        subst h
        obtain ⟨z, hz1, hz2⟩ := zeroValue_run ht hz w G
        refine ⟨.tuple #[z, .bool false], ?_, mkTup_VR (VRs.cons hz2 (VRs.one (.t _ _ (.bool false))))⟩
        unfold Instr.typeAssert
        rw [run_do (underlying_run hu w)]
        cases hdd : ta.desc <;> first
          | (exact absurd hdd (hni _))
          | simp [htt, hz1]
      · simp at h
  · simp at h

/-- a value that is surely not nil -/
def sure : Value → Prop
  | .pointer (some _) => True
  | .func (.func _) _ _ => True
  | _ => False

theorem nilCheck_VR {x : Value} {p : TV} (hp : VR G p x) (h : nilOk p = true) : sure x := by
  unfold nilOk at h
  split at h <;> simp at h
  · cases hp; trivial
  · cases hp with | aptr _ _ _ _ _ _ _ _ _ _ ho _ => obtain ⟨_, rfl⟩ := ho; trivial
  · cases hp; trivial
  · cases hp with | t _ _ hp => cases hp; trivial
  · cases hp; trivial

end
end Go.Abs

namespace Go.Abs
open Go

theorem Tree.leaf_cells {x : Tree} (h : x.leaf = true) : x.cells = [x] := by cases x <;> simp_all [Tree.leaf, Tree.cells]

theorem chunk_some {g : Bool} {size : Nat} : ∀ {n : Nat} {cs es : List Tree}, chunk g size n cs = some es → es.length = n ∧ flat es = cs ∧ ∀ e ∈ es, e.cells.length = size := by
  intro n
  induction n with
  | zero =>
    intro cs es h
    simp only [chunk] at h
    split at h <;> simp at h
    rename_i hc
    subst h
    simp at hc
    subst hc
    simp [flat]
  | succ n ih =>
    intro cs es h
    simp only [chunk] at h
    split at h
    · rename_i hle
      cases hr : chunk g size n (cs.drop size) with
      | none => rw [hr] at h; simp at h
      | some r =>
        rw [hr] at h
        simp only at h
        obtain ⟨h1, h2, h3⟩ := ih hr
        split at h
        · simp at h; subst h
          refine ⟨by simp [h1], ?_, fun e he => ?_⟩
          · simp only [flat, List.flatMap_cons, Tree.cells] at h2 ⊢
            rw [h2, List.take_append_drop]
          · rcases List.mem_cons.1 he with rfl | he
            · simp [Tree.cells, hle]
            · exact h3 e he
        · split at h
          · rename_i c rest
            split at h <;> simp at h
            rename_i hc
            obtain ⟨rfl, hl⟩ := hc
            subst h
            refine ⟨by simp [h1], ?_, fun e he => ?_⟩
            · simp only [flat, List.flatMap_cons, Tree.leaf_cells hl] at h2 ⊢
              rw [h2]; simp
            · rcases List.mem_cons.1 he with rfl | he
              · simp [Tree.leaf_cells hl]
              · exact h3 e he
          · simp at h
    · simp at h

section
variable {G : Gh} {w : World} {H : Heap}

open Classical in
noncomputable def frzF (G : Gh) (w : World) (H : Heap) (ks : List Nm) : Froz := fun b o =>
  if ∃ k, k ∈ ks ∧ G.dom k ∧ ∃ g e fz cs, H.get k = some (.arr g e fz cs) ∧ G.mu k = b ∧ o < cs.length then w.cell? ⟨b, o, none⟩ else G.F b o

noncomputable def Gh.frozen (G : Gh) (w : World) (H : Heap) (ks : List Nm) : Gh := { G with F := frzF G w H ks }

theorem frzF_ext (hw : WF G w) (ks : List Nm) : ∀ b o v, G.F b o = some v → frzF G w H ks b o = some v := by
  intro b o v h
  unfold frzF
  split
  · obtain ⟨vs, ty, fr, h1, h2⟩ := hw.F b o v h
    rw [cell_of h1]; exact h2
  · exact h

theorem frz_VT (hw : WF G w) (hH : HR G w H) (ks : List Nm) : ∀ (n : Nat) (v : TV) (x : Tree) (k0 : List Nm) (val : Value), frz H n v = some (x, k0) → (∀ k ∈ k0, k ∈ ks) → VR G v val → VT (frzF G w H ks) x val := by
  intro n
  induction n with
  | zero =>
    intro v x k0 val h hk hv
    cases v <;> simp only [frz] at h <;> try (simp at h; done)
    · simp at h; obtain ⟨rfl, rfl⟩ := h; exact hv.tree.mono (frzF_ext hw ks)
    · simp at h; obtain ⟨rfl, rfl⟩ := h; cases hv; exact .sl0 _ _
    · simp at h; obtain ⟨rfl, rfl⟩ := h; cases hv with | tsl _ _ hv => exact hv.mono (frzF_ext hw ks)
  | succ n ih =>
    have ihs : ∀ (vs : List TV) (xs : List Tree) (k0 : List Nm) (vals : List Value), frzs (frz H n) vs = some (xs, k0) → (∀ k ∈ k0, k ∈ ks) → VRs G vs vals → VTs (frzF G w H ks) xs vals := by
      intro vs
      induction vs with
      | nil => intro xs k0 vals h _ hv; simp [frzs] at h; obtain ⟨rfl, rfl⟩ := h; have := hv.1; simp at this; subst this; exact VTs.nil _
      | cons v r ihr =>
        intro xs k0 vals h hk hv
        obtain ⟨u, us, rfl, h1, h2⟩ := hv.uncons
        simp only [frzs] at h
        cases h3 : frz H n v <;> cases h4 : frzs (frz H n) r <;> simp [h3, h4] at h
        rename_i p q
        obtain ⟨rfl, rfl⟩ := h
        exact VTs.cons (ih v p.1 p.2 u (by rw [h3]) (fun k hk' => hk k (List.mem_append.2 (.inl hk'))) h1)
          (ihr q.1 q.2 us (by rw [h4]) (fun k hk' => hk k (List.mem_append.2 (.inr hk'))) h2)
    intro v x k0 val h hk hv
    cases v with
    | any => simp [frz] at h
    | t y => simp only [frz] at h; simp at h; obtain ⟨rfl, rfl⟩ := h; exact hv.tree.mono (frzF_ext hw ks)
    | nils => simp only [frz] at h; simp at h; obtain ⟨rfl, rfl⟩ := h; cases hv; exact .sl0 _ _
    | tsl es => simp only [frz] at h; simp at h; obtain ⟨rfl, rfl⟩ := h; cases hv with | tsl _ _ hv => exact hv.mono (frzF_ext hw ks)
    | ref k off len =>
      simp only [frz] at h
      split at h
      · rename_i g esz fz cs hk'
        split at h
        · rename_i hc
          obtain ⟨hpos, hlen⟩ := hc
          split at h
          · rename_i ts ks' hts
            split at h
            · rename_i es hes
              simp at h
              obtain ⟨rfl, rfl⟩ := h
              obtain ⟨hd, he, cap, vs, ty, fr, ha, hh, ht, hs, hl, hvs, hf⟩ := hH k _ hk'
              cases hv with | ref _ _ _ n' esz' cap' _ hd' ha' hle ho hv' =>
                rw [ha] at ha'
                simp at ha'
                obtain ⟨e1, e2, e3⟩ := ha'
                subst e2; subst e3
                obtain ⟨a, rfl, haddr⟩ := hv' (by rw [hlen]; exact e1)
                obtain ⟨c1, c2, c3⟩ := chunk_some hes
                by_cases hne : es = []
                · subst hne
                  simp at c1
                  subst c1
                  exact .sl0 _ _
                · have hlen0 : len ≠ 0 := by intro e; subst e; exact hne (List.length_eq_zero_iff.1 c1)
                  have hcap : off + len ≤ cap := by
                    have : (off + len) * esz ≤ cap * esz := by rw [hlen, ← hs]; exact hl
                    exact Nat.le_of_mul_le_mul_right this hpos
                  rw [haddr (by omega), ← c1]
                  have hsub := (hvs.drop (off * esz)).take (len * esz)
                  have hVT := ihs _ ts ks' _ hts (fun k hk2 => hk k (List.mem_cons_of_mem _ hk2)) hsub
                  have htl : ts.length = len * esz := by
                    have := hVT.1
                    have h2 := hsub.1
                    simp at h2 this
                    rw [← this, h2]
                    have : (off + len) * esz = off * esz + len * esz := Nat.add_mul _ _ _
                    omega
                  have hmul : (off + len) * esz = off * esz + len * esz := Nat.add_mul _ _ _
                  refine .sl esz es (G.mu k) (off * esz) (cap - off) (fun j => vs.toList.getD (off * esz + j) undef) hne (by omega) c3 ?_ ?_
                  · intro j c hj
                    rw [c2] at hj
                    have hjl : j < ts.length := (List.getElem?_eq_some_iff.1 hj).1
                    have hbound : off * esz + j < cs.length := by omega
                    unfold frzF
                    rw [if_pos ⟨k, hk k List.mem_cons_self, hd, g, esz, fz, cs, hk', rfl, hbound⟩, cell_of hh]
                    have : off * esz + j < vs.size := by omega
                    simp [List.getD, this]
                  · intro j c hj
                    rw [c2] at hj
                    have hjl : j < ts.length := (List.getElem?_eq_some_iff.1 hj).1
                    have hbound : off * esz + j < cs.length := by omega
                    have hvl : off * esz + j < vs.size := by omega
                    refine hVT.2 j c _ hj ?_
                    rw [List.getElem?_take, if_pos (by omega), List.getElem?_drop, List.getElem?_take, if_pos hbound]
                    simp [List.getD, hvl]
            · simp at h
          · simp at h
        · simp at h
      · simp at h
    | agg cs =>
      simp only [frz] at h
      cases h1 : frzs (frz H n) cs <;> simp [h1] at h
      obtain ⟨rfl, rfl⟩ := h
      cases hv with | agg _ vs hl hh => exact (ihs cs _ _ vs (by rw [h1]) hk ⟨hl, hh⟩).agg
    | tup cs =>
      simp only [frz] at h
      cases h1 : frzs (frz H n) cs <;> simp [h1] at h
      obtain ⟨rfl, rfl⟩ := h
      cases hv with | tup _ vs hl hh => exact (ihs cs _ _ vs (by rw [h1]) hk ⟨hl, hh⟩).tup
    | iface ty y =>
      simp only [frz] at h
      cases h1 : frz H n y <;> simp [h1] at h
      obtain ⟨rfl, rfl⟩ := h
      cases hv with | iface _ _ u hu => exact .iface _ _ _ (ih y _ _ u (by rw [h1]) hk hu)
    | fn f fs cs =>
      cases fs <;> cases cs <;> simp only [frz] at h <;> simp at h
      obtain ⟨rfl, rfl⟩ := h
      cases hv with | fn _ _ _ vs ws hl _ hl' _ => simp at hl hl'; subst hl; subst hl'; exact .fn f
    | ptr => simp [frz] at h
    | aptr => simp [frz] at h
    | tptr => simp [frz] at h
    | map => simp [frz] at h

theorem frz_arr (n : Nat) : ∀ (v : TV) (x : Tree) (k0 : List Nm), frz H n v = some (x, k0) → ∀ k ∈ k0, ∃ g e fz cs, H.get k = some (.arr g e fz cs) := by
  induction n with
  | zero => intro v x k0 h k hk; cases v <;> simp [frz] at h <;> (obtain ⟨_, rfl⟩ := h; simp at hk)
  | succ n ih =>
    have ihs : ∀ (vs : List TV) (xs : List Tree) (k0 : List Nm), frzs (frz H n) vs = some (xs, k0) → ∀ k ∈ k0, ∃ g e fz cs, H.get k = some (.arr g e fz cs) := by
      intro vs
      induction vs with
      | nil => intro xs k0 h k hk; simp [frzs] at h; obtain ⟨_, rfl⟩ := h; simp at hk
      | cons v r ihr =>
        intro xs k0 h k hk
        simp only [frzs] at h
        cases h3 : frz H n v <;> cases h4 : frzs (frz H n) r <;> simp [h3, h4] at h
        rename_i p q
        obtain ⟨rfl, rfl⟩ := h
        rcases List.mem_append.1 hk with hk | hk
        · exact ih v p.1 p.2 (by rw [h3]) k hk
        · exact ihr q.1 q.2 (by rw [h4]) k hk
    intro v x k0 h k hk
    cases v with
    | ref k1 off len =>
      simp only [frz] at h
      split at h
      · rename_i g esz fz cs hk'
        split at h
        · split at h
          · rename_i ts ks' hts
            split at h
            · simp at h
              obtain ⟨rfl, rfl⟩ := h
              rcases List.mem_cons.1 hk with rfl | hk
              · exact ⟨g, esz, fz, cs, hk'⟩
              · exact ihs _ _ _ hts k hk
            · simp at h
          · simp at h
        · simp at h
      · simp at h
    | agg cs => simp only [frz] at h; cases h1 : frzs (frz H n) cs <;> simp [h1] at h; obtain ⟨rfl, rfl⟩ := h; exact ihs cs _ _ (by rw [h1]) k hk
    | tup cs => simp only [frz] at h; cases h1 : frzs (frz H n) cs <;> simp [h1] at h; obtain ⟨rfl, rfl⟩ := h; exact ihs cs _ _ (by rw [h1]) k hk
    | iface ty y => simp only [frz] at h; cases h1 : frz H n y <;> simp [h1] at h; obtain ⟨rfl, rfl⟩ := h; exact ih y _ _ (by rw [h1]) k hk
    | fn f fs cs => cases fs <;> cases cs <;> simp [frz] at h; obtain ⟨_, rfl⟩ := h; simp at hk
    | _ => simp [frz] at h <;> (try (obtain ⟨_, rfl⟩ := h; simp at hk))

/-- to freeze is a step -/
theorem frozen_step (hw : WF G w) (hH : HR G w H) (ks : List Nm) : Step (fun k => k ∈ ks ∧ ∃ g e fz cs, H.get k = some (.arr g e fz cs)) (fun _ => False) G w (G.frozen w H ks) w := by
  refine ⟨⟨frzF_ext hw ks, fun _ d => d, fun _ _ a => ⟨a, rfl⟩, fun _ n _ c _ a => ⟨n, c, a, Nat.le_refl _, fun _ => ⟨rfl, rfl⟩⟩⟩, ⟨fun b o v h => ?_, hw.inj, hw.lt⟩, fun _ _ _ => ⟨rfl, rfl⟩, fun b hb hn => ⟨rfl, fun o => ?_⟩, fun _ d => .inl d, fun _ d => .inl ⟨d, rfl⟩, Nat.le_refl _, rfl, rfl, rfl⟩
  · simp only [Gh.frozen, frzF] at h
    split at h
    · unfold World.cell? at h
      split at h
      · rename_i c ty fr hb
        simp at h
        exact ⟨c, ty, fr, hb, h⟩
      · simp at h
    · exact hw.F b o v h
  · simp only [Gh.frozen, frzF]
    rw [if_neg]
    rintro ⟨k, hk, hd, g, e, fz, cs, h1, h2, h3⟩
    exact hn k ⟨hk, g, e, fz, cs, h1⟩ hd h2

theorem frozenU_mem {H : Heap} {ks : List Nm} {k : Nm} {ob : AObj} (h : (k, ob) ∈ frozenU H ks) : k ∈ ks ∧ ∃ g e fz cs, H.get k = some (.arr g e fz cs) ∧ ob = .arr g e true cs := by
  unfold frozenU at h
  rw [List.mem_filterMap] at h
  obtain ⟨k', hk', h⟩ := h
  split at h
  · rename_i g e fz cs hg
    simp at h
    obtain ⟨rfl, rfl⟩ := h
    exact ⟨hk', g, e, fz, cs, hg, rfl⟩
  · simp at h

theorem frozenU_keys {H : Heap} {ks : List Nm} {k : Nm} (hk : k ∈ ks) (h : ∃ g e fz cs, H.get k = some (.arr g e fz cs)) : k ∈ (frozenU H ks).map (·.1) := by
  obtain ⟨g, e, fz, cs, hg⟩ := h
  rw [List.mem_map]
  refine ⟨(k, .arr g e true cs), ?_, rfl⟩
  unfold frozenU
  rw [List.mem_filterMap]
  exact ⟨k, hk, by rw [hg]⟩

theorem frozen_OR (hw : WF G w) (hH : HR G w H) {ks : List Nm} {k : Nm} {ob : AObj} (h : (k, ob) ∈ frozenU H ks) : (G.frozen w H ks).dom k ∧ OR (G.frozen w H ks) w k ob := by
  obtain ⟨hk, g, e, fz, cs, hg, rfl⟩ := frozenU_mem h
  obtain ⟨hd, he, cap, vs, ty, fr, ha, hh, ht, hs, hl, hv, hf⟩ := hH k _ hg
  refine ⟨hd, he, cap, vs, ty, fr, ha, hh, ht, hs, hl, hv.mono (frozen_step hw hH ks).le, fun o ho => ?_⟩
  rcases ho with ho | ho
  · simp at ho
  · simp only [Gh.frozen, frzF]
    rw [if_neg]
    · exact hf o (.inr ho)
    · rintro ⟨k', hk', hd', g', e', fz', cs', h1, h2, h3⟩
      have := hw.inj k' k hd' hd h2
      subst this
      rw [hg] at h1
      simp at h1
      obtain ⟨_, _, _, rfl⟩ := h1
      omega

end
end Go.Abs

namespace Go.Abs
open Go

section
variable {C : Cfg} {f : FuncId} {nm : Nm} {H : Heap} {slots : List TV} {a : Act} {w : World} {G : Gh} {v : TV}

/-! ### A new object -/
def Gh.add (G : Gh) (nm : Nm) (b : Nat) (ar : Option (Nat × Nat × Nat)) : Gh := {
  F := G.F
  mu := fun k => if k = nm then b else G.mu k
  arr := fun k => if k = nm then ar else G.arr k
  dom := fun k => k = nm ∨ G.dom k }

def World.pushed (w : World) (o : Obj) : World := { w with heap := w.heap.push o }

theorem pushed_new (w : World) (o : Obj) : (World.pushed w o).heap[w.heap.size]? = some o := by show (w.heap.push o)[w.heap.size]? = _; simp

theorem pushed_old {w : World} {o : Obj} {b : Nat} (h : b < w.heap.size) : (World.pushed w o).heap[b]? = w.heap[b]? := by
  show (w.heap.push o)[b]? = _
  rw [Array.getElem?_push, if_neg (by omega)]

theorem WF.F_lt (hw : WF G w) {b o : Nat} {u : Value} (h : G.F b o = some u) : b < w.heap.size := by
  obtain ⟨vs, ty, fr, h1, _⟩ := hw.F b o u h
  exact (Array.getElem?_eq_some_iff.1 h1).1

theorem WF.F_new (hw : WF G w) (o : Nat) : G.F w.heap.size o = none := by
  cases h : G.F w.heap.size o with
  | none => rfl
  | some u => have := hw.F_lt h; omega

theorem add_le (hn : ¬ G.dom nm) (b : Nat) (ar : Option (Nat × Nat × Nat)) : G.le (G.add nm b ar) := by
  have hne : ∀ k, G.dom k → k ≠ nm := fun k d e => hn (e ▸ d)
  refine ⟨fun _ _ _ h => h, fun k d => .inr d, fun k d a => ?_, fun k n e c d a => ⟨n, c, ?_, Nat.le_refl _, fun _ => ⟨rfl, ?_⟩⟩⟩
  · simp [Gh.add, hne k d, a]
  · simp [Gh.add, hne k d, a]
  · simp [Gh.add, hne k d]

theorem add_step (hw : WF G w) (hn : ¬ G.dom nm) (o : Obj) (ar : Option (Nat × Nat × Nat)) (W : Nm → Prop) : Step W (fun k => k = nm) G w (G.add nm w.heap.size ar) (World.pushed w o) := by
  have hne : ∀ k, G.dom k → k ≠ nm := fun k d e => hn (e ▸ d)
  refine ⟨add_le hn _ _, ⟨fun b p u h => ?_, fun k k' d d' e => ?_, fun k d => ?_⟩, fun k d _ => by simp [Gh.add, hne k d], fun b hb _ => ⟨pushed_old hb, fun _ => rfl⟩, fun k d => d.symm.imp id id, fun k d => ?_, by simp [World.pushed], rfl, rfl, rfl⟩
  · obtain ⟨vs, ty, fr, h1, h2⟩ := hw.F b p u h
    exact ⟨vs, ty, fr, by rw [pushed_old (Array.getElem?_eq_some_iff.1 h1).1]; exact h1, h2⟩
  · simp only [Gh.add] at e d d'
    rcases d with rfl | d <;> rcases d' with rfl | d'
    · rfl
    · rw [if_pos rfl, if_neg (hne _ d')] at e
      have := hw.lt _ d'; omega
    · rw [if_neg (hne _ d), if_pos rfl] at e
      have := hw.lt _ d; omega
    · rw [if_neg (hne _ d), if_neg (hne _ d')] at e
      exact hw.inj _ _ d d' e
  · simp only [Gh.add, World.pushed, Array.size_push] at d ⊢
    rcases d with rfl | d
    · simp
    · rw [if_neg (hne _ d)]; have := hw.lt _ d; omega
  · rcases d with rfl | d
    · exact .inr (by simp [Gh.add])
    · exact .inl ⟨d, by simp [Gh.add, hne _ d]⟩

theorem add_cells (hw : WF G w) (hn : ¬ G.dom nm) {cs : List TV} {vs : List Value} (hv : VRs G cs vs) (ty : TypeId) :
    (G.add nm w.heap.size none).dom nm ∧ OR (G.add nm w.heap.size none) (World.pushed w (.cells vs.toArray ty)) nm (.cells ty cs) := by
  refine ⟨.inl rfl, by simp [Gh.add], vs.toArray, ty, (0, 0), ?_, ⟨?_, rfl⟩, ?_, ?_⟩
  · simp [Gh.add, pushed_new]
  · intro o _ h; omega
  · simpa using hv.mono (add_le hn _ _)
  · intro o; simpa [Gh.add] using hw.F_new o

theorem add_arrF (hw : WF G w) (hn : ¬ G.dom nm) {b : Bool} {esz cap : Nat} {cs : List TV} {vs : List Value} (he : 0 < esz) (hv : VRs G cs (vs.take cs.length)) (hs : vs.length = cap * esz) (hl : cs.length ≤ vs.length) (ty : TypeId) (fr : Nat × Nat) (hfr : thawed vs.toArray fr) :
    (G.add nm w.heap.size (some (cs.length, esz, cap))).dom nm ∧ OR (G.add nm w.heap.size (some (cs.length, esz, cap))) (World.pushed w (.cells vs.toArray ty fr)) nm (.arr (ty, b) esz false cs) := by
  refine ⟨.inl rfl, he, cap, vs.toArray, ty, fr, by simp [Gh.add], ?_, ⟨hfr, rfl⟩, by simpa using hs, by simpa using hl, ?_, ?_⟩
  · simp [Gh.add, pushed_new]
  · simpa using hv.mono (add_le hn _ _)
  · intro o _; simpa [Gh.add] using hw.F_new o

theorem add_arr (hw : WF G w) (hn : ¬ G.dom nm) {b : Bool} {esz cap : Nat} {cs : List TV} {vs : List Value} (he : 0 < esz) (hv : VRs G cs (vs.take cs.length)) (hs : vs.length = cap * esz) (hl : cs.length ≤ vs.length) (ty : TypeId) :
    (G.add nm w.heap.size (some (cs.length, esz, cap))).dom nm ∧ OR (G.add nm w.heap.size (some (cs.length, esz, cap))) (World.pushed w (.cells vs.toArray ty)) nm (.arr (ty, b) esz false cs) :=
  add_arrF hw hn he hv hs hl ty (0, 0) (fun o _ h => by omega)

/-- the slice of a new array -/
theorem add_ref {esz cap n len : Nat} (h : len * esz = n) (hn : ¬ G.dom nm) : VR (G.add nm w.heap.size (some (n, esz, cap))) (.ref nm 0 len) (.slice (some ⟨w.heap.size, 0, none⟩) len cap) := by
  refine .ref nm 0 len n esz cap _ (.inl rfl) (by simp [Gh.add]) (by simp [h]) ⟨_, _, rfl⟩ fun _ => ⟨_, by simp; rfl, fun _ => by simp [Gh.add]⟩

/-! ### alloc, box -/
theorem alloc_ok {o : Oper} {elem : TypeId} {ti : TI} {z : TV} (hw : WF G w) (hn : ¬ G.dom nm) (ho : o.op = .alloc elem) (ht : tyOf C.P elem = some ti) (hz : ti.zero = some z) :
    OpOk C.P nm o a w G (.ptr nm 0) [(nm, .cells elem z.cells)] := by
  obtain ⟨x, h1, h2⟩ := zeroValue_run ht hz w G
  have hc := h2.cells (zero_ne ht hz)
  have ha := add_cells hw hn hc elem
  refine OpOk.of_value (w' := World.pushed w (.cells x.cells.toList.toArray elem)) (G' := G.add nm w.heap.size none) (x := .pointer (some ⟨w.heap.size, 0, none⟩)) ?_ (add_step hw hn _ _ _) ?_ ?_
  · simp [execOp, ho, Instr.alloc, h1, newVar, newRow_run, World.pushed]
  · intro k ob hm
    simp at hm
    obtain ⟨rfl, rfl⟩ := hm
    exact ha
  · have := VR.ptr (G := G.add nm w.heap.size none) nm 0 (.inl rfl) (by simp [Gh.add])
    simpa [Gh.add] using this

theorem box_ok {o : Oper} {elem : TypeId} {x : Operand} {z : TV} (hw : WF G w) (hn : ¬ G.dom nm) (ho : o.op = .box elem x) (hz : VR G z (a.eval x)) (hlf : z.cells.all TV.leaf = true) :
    OpOk C.P nm o a w G (.ptr nm 0) [(nm, .cells elem z.cells)] := by
  have hc := hz.cells (leaf_ne hlf)
  have ha := add_cells hw hn hc elem
  refine OpOk.of_value (w' := World.pushed w (.cells (a.eval x).cells.toList.toArray elem)) (G' := G.add nm w.heap.size none) (x := .pointer (some ⟨w.heap.size, 0, none⟩)) ?_ (add_step hw hn _ _ _) ?_ ?_
  · simp [execOp, ho, Instr.box, newVar, newRow_run, World.pushed]
  · intro k ob hm
    simp at hm
    obtain ⟨rfl, rfl⟩ := hm
    exact ha
  · have := VR.ptr (G := G.add nm w.heap.size none) nm 0 (.inl rfl) (by simp [Gh.add])
    simpa [Gh.add] using this

/-! ### Stores -/
theorem VRs.setRange {cs xs : List TV} {vs ys : List Value} {off : Nat} (h : VRs G cs vs) (hx : VRs G xs ys) : VRs G (setRange cs off xs) (over vs off ys) := by
  unfold Go.Abs.setRange over
  rw [hx.1]
  exact ((h.take off).append hx).append (h.drop _)

theorem over_take {vs ys : List Value} {off n : Nat} (h : off + ys.length ≤ n) (hn : n ≤ vs.length) : (over vs off ys).take n = over (vs.take n) off ys := by
  unfold over
  apply List.ext_getElem?
  intro i
  simp only [List.getElem?_take, List.getElem?_append, List.length_append, List.length_take, List.getElem?_drop]
  by_cases c1 : i < n
  · rw [if_pos c1]
    have e1 : min off vs.length = off := by omega
    have e2 : min off (min n vs.length) = off := by omega
    rw [e1, e2]
    by_cases c2 : i < off
    · simp [c2, show i < off + ys.length by omega, c1]
    · by_cases c3 : i < off + ys.length
      · simp [c2, c3]
      · simp [c3]; intro hc; omega
  · rw [if_neg c1]
    have e2 : min off (min n vs.length) = off := by omega
    rw [e2, if_neg (by omega), if_neg (by omega)]

theorem setRange_length {cs xs : List TV} {off : Nat} (h : off + xs.length ≤ cs.length) : (setRange cs off xs).length = cs.length := by
  unfold setRange; simp; omega

theorem over_length {vs ys : List Value} {off : Nat} (h : off + ys.length ≤ vs.length) : (over vs off ys).length = vs.length := by
  unfold over; simp; omega

theorem leaf_all {xs : List TV} {ys : List Value} (h : VRs G xs ys) (hl : xs.all TV.leaf = true) : ∀ y ∈ ys, one y = true := by
  intro y hy
  obtain ⟨j, hj⟩ := List.mem_iff_getElem?.1 hy
  have hjl : j < xs.length := by have := (List.getElem?_eq_some_iff.1 hj).1; have := h.1; omega
  have hx := List.getElem?_eq_getElem hjl
  exact (h.2 j _ _ hx hj).leaf (List.all_eq_true.1 hl _ (List.getElem_mem hjl))

/-- other cells in an object's block: nothing else turns -/
theorem cells_step (hw : WF G w) {k : Nm} (hd : G.dom k) {vs : List Value} {us : Array Value} {ty : TypeId} {fr : Nat × Nat} (hh : w.heap[G.mu k]? = some (.cells us ty fr))
    (hF : ∀ o, (∃ u, G.F (G.mu k) o = some u) → vs[o]? = us[o]?) : Step (fun x => x = k) (fun _ => False) G w G (World.withCells w (G.mu k) vs.toArray ty fr) := by
  refine ⟨.refl G, ⟨fun b o u h => ?_, hw.inj, fun k d => by rw [withCells_size]; exact hw.lt k d⟩, fun _ _ _ => ⟨rfl, rfl⟩, fun b hb hn => ⟨withCells_other (hn k rfl hd) _ _ _, fun _ => rfl⟩, fun _ d => .inl d, fun _ d => .inl ⟨d, rfl⟩, by rw [withCells_size]; exact Nat.le_refl _, rfl, rfl, rfl⟩
  obtain ⟨us', ty', fr', h1, h2⟩ := hw.F b o u h
  by_cases e : G.mu k = b
  · subst e
    refine ⟨vs.toArray, ty, fr, withCells_heap (hw.lt k hd) _ _ _, ?_⟩
    rw [hh] at h1
    simp at h1
    obtain ⟨rfl, _, _⟩ := h1
    have := hF o ⟨u, h⟩
    rw [h2] at this
    simpa using this
  · exact ⟨us', ty', fr', by rw [withCells_other e]; exact h1, h2⟩

theorem storeVar_run {t : TypeId} {ti : TI} {x : Value} {p : TV} {b o : Nat} {vs : List Value} {ty : TypeId} {fr : Nat × Nat} (ht : tyOf C.P t = some ti) (hx : VR G p x) (hl : p.cells.length = ti.size) (hlf : p.cells.all TV.leaf = true)
    (hh : w.heap[b]? = some (.cells vs.toArray ty fr)) (hth : thawed vs.toArray fr) (hle : o + ti.size ≤ vs.length) :
    (storeVar t ⟨b, o, none⟩ x).run C.P w = .ok () (World.withCells w b (over vs o x.cells.toList).toArray ty fr) := by
  have hc := hx.cells (leaf_ne hlf)
  have hsz : x.cells.size = ti.size := by have := hc.1; simp at this; omega
  unfold storeVar
  rw [run_do (sizeOf_run ht w)]
  have := storeCells_run (P := C.P) (o := o) x.cells.toList w 0 vs (leaf_all hc hlf) hh hth (by simp [hsz]; omega)
  simp only [Nat.add_zero] at this
  simp [hsz, this]

theorem storeT_ok {o : Oper} {t : TypeId} {pa px : Operand} {p q : TV} {u : List (Nm × AObj)} (hw : WF G w) (hH : HR G w H) (ho : o.op = .store t pa px) (hp : VR G p (a.eval pa)) (hq : VR G q (a.eval px)) (h : storeT C.P H t p q = some u) :
    OpOk C.P nm o a w G undefT u := by
  unfold storeT at h
  cases ht : tyOf C.P t <;> simp only [ht, reduceCtorEq] at h
  rename_i ti
  split at h
  · rename_i hc
    obtain ⟨hl, hlf⟩ := hc
    have hqc := hq.cells (leaf_ne hlf)
    have hql : (a.eval px).cells.toList.length = ti.size := by rw [hqc.1, hl]
    split at h
    · rename_i k off
      split at h
      · rename_i ty0 cs hk
        split at h <;> simp at h
        rename_i hle
        subst h
        obtain ⟨hd, har, vs, ty, fr, hh, hth, hv, hF⟩ := hH k _ hk
        generalize hpv : a.eval pa = pv at hp
        cases hp with | ptr _ _ _ _ =>
        have hvl : vs.toList.length = cs.length := hv.1
        have hrun := storeVar_run (o := off) ht hq hl hlf (by simpa using hh) (by simpa using hth.1) (by omega)
        have hst := cells_step (vs := over vs.toList off (a.eval px).cells.toList) hw hd hh (fun o ⟨u, hu⟩ => by rw [hF] at hu; simp at hu)
        refine OpOk.of_skip (w' := World.withCells w (G.mu k) (over vs.toList off (a.eval px).cells.toList).toArray ty fr) (G' := G) ?_ (hst.mono (fun x _ e => by simp [e]) (fun _ e => e.elim)) ?_
        · simp [execOp, ho, Instr.storeAt, hpv, Instr.sureAddr, hrun]
        · intro k' ob hm
          simp at hm
          obtain ⟨rfl, rfl⟩ := hm
          refine ⟨hd, har, _, ty, fr, withCells_heap (hw.lt _ hd) _ _ _, ⟨?_, hth.2⟩, by simpa using hv.setRange hqc, hF⟩
          intro o ho'
          have : (over vs.toList off (a.eval px).cells.toList).length = vs.toList.length := over_length (by omega)
          exact hth.1 o (by simp [this] at ho'; simpa using ho')
      · simp at h
    · rename_i k n off
      split at h
      · rename_i g esz cs hk
        split at h <;> simp at h
        rename_i hc2
        obtain ⟨hn, hle⟩ := hc2
        subst h
        obtain ⟨hd, he, cap, vs, ty, fr, har, hh, hth, hs, hlc, hv, hF⟩ := hH k _ hk
        generalize hpv : a.eval pa = pv at hp
        cases hp with | aptr _ _ _ n' esz' cap' _ hd' ha' hle' ho' hv' =>
        rw [har] at ha'
        simp at ha'
        obtain ⟨e1, e2, e3⟩ := ha'
        have hx := hv' (by omega)
        subst hx
        have hrun := storeVar_run (o := off) ht hq hl hlf (by simpa using hh) (by simpa using hth.1) (by simp; omega)
        have hst := cells_step (vs := over vs.toList off (a.eval px).cells.toList) hw hd hh (fun o ⟨u, hu⟩ => by rw [hF o (.inl rfl)] at hu; simp at hu)
        have hlen : (over vs.toList off (a.eval px).cells.toList).length = vs.toList.length := over_length (by rw [hql]; simp; omega)
        refine OpOk.of_skip (w' := World.withCells w (G.mu k) (over vs.toList off (a.eval px).cells.toList).toArray ty fr) (G' := G) ?_ (hst.mono (fun x _ e => by simp [e]) (fun _ e => e.elim)) ?_
        · simp [execOp, ho, Instr.storeAt, hpv, Instr.sureAddr, hrun]
        · intro k' ob hm
          simp at hm
          obtain ⟨rfl, rfl⟩ := hm
          have hsl : (setRange cs off q.cells).length = cs.length := setRange_length (by omega)
          refine ⟨hd, he, cap, _, ty, fr, by rw [hsl]; exact har, withCells_heap (hw.lt _ hd) _ _ _, ⟨?_, hth.2⟩, by simpa [hlen] using hs, by simp [hlen, hsl]; omega, ?_, fun o _ => hF o (.inl rfl)⟩
          · intro o ho'
            exact hth.1 o (by simp [hlen] at ho'; simpa using ho')
          · rw [hsl]
            simp only [List.toList_toArray]
            rw [over_take (by omega) (by simp; omega)]
            exact hv.setRange hqc
      · simp at h
    · simp at h
  · simp at h

end
end Go.Abs

namespace Go.Abs
open Go

theorem foldl_set_over (off : Nat) : ∀ (ys : List Value) (j0 : Nat) (vs : List Value), off + j0 + ys.length ≤ vs.length →
    (ys.zipIdx j0).foldl (fun (cs : Array Value) (p : Value × Nat) => cs.setIfInBounds (off + p.2) p.1) vs.toArray = (over vs (off + j0) ys).toArray := by
  intro ys
  induction ys with
  | nil => intro j0 vs _; simp [over_nil]
  | cons y r ih =>
    intro j0 vs h
    simp only [List.zipIdx_cons, List.foldl_cons]
    have : vs.toArray.setIfInBounds (off + j0) y = (vs.set (off + j0) y).toArray := by simp
    rw [this, ih (j0 + 1) _ (by simp at h ⊢; omega), ← Nat.add_assoc, over_cons (by simpa [Nat.add_assoc] using h)]

theorem foldl_zip_over (ys : Array Value) (off : Nat) (vs : List Value) (h : off + ys.size ≤ vs.length) :
    ys.zipIdx.foldl (fun (cs : Array Value) (p : Value × Nat) => cs.setIfInBounds (off + p.2) p.1) vs.toArray = (over vs off ys.toList).toArray := by
  have := foldl_set_over off ys.toList 0 vs (by simpa using h)
  rw [← Array.foldl_toList, Array.toList_zipIdx]
  simpa using this

section
variable {C : Cfg} {f : FuncId} {nm : Nm} {H : Heap} {slots : List TV} {a : Act} {w : World} {G : Gh} {v : TV}

inductive PR (G : Gh) : List (Nat × TV) → List (Nat × Value) → Prop
  | nil : PR G [] []
  | cons {i x y ps qs} (h : VR G x y) (hs : PR G ps qs) : PR G ((i, x) :: ps) ((i, y) :: qs)

theorem parts_PR (hs : SR G slots a) (hg : GlobR C G) {l : List (Nat × Operand)} {ps : List (Nat × TV)} (h : partsT C slots l = some ps) : PR G ps (l.map fun (p : Nat × Operand) => (p.1, a.eval p.2)) := by
  induction l generalizing ps with
  | nil => simp [partsT] at h; subst h; exact .nil
  | cons p r ih =>
    obtain ⟨i, x⟩ := p
    simp only [partsT] at h
    cases h1 : rhoT C slots x <;> cases h2 : partsT C slots r <;> simp [h1, h2] at h
    subst h
    exact .cons (rho_VR hs hg h1) (ih h2)

theorem fill_VRs {place : Nat → Option (Nat × Nat)} {ps : List (Nat × TV)} {qs : List (Nat × Value)} (hp : PR G ps qs) : ∀ {cs ds : List TV} {vs : List Value}, VRs G cs vs → fillT place cs ps = some ds →
    ∃ us : List Value, Instr.fill place vs.toArray qs = some us.toArray ∧ VRs G ds us := by
  induction hp with
  | nil => intro cs ds vs hv h; simp [fillT] at h; subst h; exact ⟨vs, by simp [Instr.fill], hv⟩
  | cons hxy h2 ih =>
    rename_i i x y ps' qs'
    intro cs ds vs hv h
    simp only [fillT] at h
    cases hpl : place i with
    | none => rw [hpl] at h; simp at h
    | some os =>
      obtain ⟨off, size⟩ := os
      rw [hpl] at h
      simp only at h
      split at h
      · rename_i hc
        obtain ⟨c1, c2, c3⟩ := hc
        have hxc := hxy.cells (leaf_ne c3)
        have hsz : y.cells.size = size := by have := hxc.1; simp at this; omega
        have hvl := hv.1
        obtain ⟨us, h3, h4⟩ := ih (hv.setRange hxc (off := off)) h
        refine ⟨us, ?_, h4⟩
        simp only [Instr.fill, hpl]
        rw [if_neg (by simp [hsz]; omega)]
        rw [foldl_zip_over _ _ _ (by omega)]
        exact h3
      · simp at h

theorem fieldPlaces_run {w : World} : ∀ {l : List Field} {ps : List (Nat × Nat)}, fieldPlaces C.P l = some ps → (l.mapM fun f => Prod.mk f.offset <$> sizeOf f.type : Sem (List (Nat × Nat))).run C.P w = .ok ps w := by
  intro l
  induction l with
  | nil => intro ps h; simp [fieldPlaces] at h; subst h; simp
  | cons f r ih =>
    intro ps h
    simp only [fieldPlaces] at h
    cases h1 : tyOf C.P f.type <;> cases h2 : fieldPlaces C.P r <;> simp [h1, h2] at h
    subst h
    simp only [List.mapM_cons]
    simp [sizeOf_run h1 w, ih h2]

theorem buildT_run {t : TypeId} {ps : List (Nat × TV)} {qs : Array (Nat × Value)} (hp : PR G ps qs.toList) (h : buildT C.P t ps = some v) (w : World) : ∃ r, (Instr.build t qs).run C.P w = .ok r w ∧ VR G v r := by
  unfold buildT at h
  cases ht : tyOf C.P t <;> simp only [ht, reduceCtorEq] at h
  rename_i ti
  obtain ⟨_, _, hu, _⟩ := tyOf_info ht
  have hu' := underlying_run hu w
  split at h
  · rename_i z fs hz hd
    cases hf : fieldPlaces C.P fs.toList <;> simp only [hf, reduceCtorEq] at h
    rename_i pl
    cases hfl : fillT (fun i => pl[i]?) z.cells ps <;> simp only [hfl, reduceCtorEq] at h
    rename_i cs
    simp at h
    subst h
    obtain ⟨zv, h1, h2⟩ := zeroValue_run ht hz w G
    obtain ⟨us, h3, h4⟩ := fill_VRs hp (h2.cells (zero_ne ht hz)) hfl
    refine ⟨.agg us.toArray, ?_, mkAgg_VR h4⟩
    have hfun : (fun i : Nat => (pl.toArray)[i]?) = fun i => pl[i]? := by funext i; simp
    have hm := fieldPlaces_run (C := C) (w := w) hf
    simp [Instr.build, h1, hu', hd, Array.mapM_eq_mapM_toList, hm, hfun]
    simp only [Array.toArray_toList] at h3
    rw [h3]
    rfl
  · rename_i z n elem hz hd
    cases hte : tyOf C.P elem <;> simp only [hte, reduceCtorEq] at h
    rename_i te
    cases hfl : fillT (fun i => some (i * te.size, te.size)) z.cells ps <;> simp only [hfl, reduceCtorEq] at h
    rename_i cs
    simp at h
    subst h
    obtain ⟨zv, h1, h2⟩ := zeroValue_run ht hz w G
    obtain ⟨us, h3, h4⟩ := fill_VRs hp (h2.cells (zero_ne ht hz)) hfl
    refine ⟨.agg us.toArray, ?_, mkAgg_VR h4⟩
    simp [Instr.build, h1, hu', hd, sizeOf_run hte w]
    simp only [Array.toArray_toList] at h3
    rw [h3]
    rfl
  · simp at h

theorem reps_length (n : Nat) (z : List TV) : (reps n z).length = n * z.length := by
  induction n with
  | zero => simp [reps]
  | succ n ih => simp [reps, ih, Nat.succ_mul]; omega

theorem reps_get {z : List TV} : ∀ {n j : Nat}, j < n * z.length → (reps n z)[j]? = z[j % z.length]? := by
  intro n
  induction n with
  | zero => intro j h; simp at h
  | succ n ih =>
    intro j h
    simp only [reps]
    by_cases hj : j < z.length
    · rw [List.getElem?_append_left hj, Nat.mod_eq_of_lt hj]
    · rw [List.getElem?_append_right (by omega), ih (by rw [Nat.succ_mul] at h; omega)]
      have : j % z.length = (j - z.length) % z.length := Nat.mod_eq_sub_mod (by omega)
      rw [this]

theorem reps_VRs {z : TV} {zv : Value} (hz : VR G z zv) (hne : z ≠ .any) (n m : Nat) (hm : z.cells.length = m) (hpos : 0 < m) : VRs G (reps n z.cells) ((Array.range (n * m)).map (zv.cells[· % zv.cells.size]!)).toList := by
  have hc := hz.cells hne
  have hsz : zv.cells.size = m := by have := hc.1; simp at this; omega
  refine ⟨by simp [reps_length, hm], fun j c u h1 h2 => ?_⟩
  have hj : j < n * m := by have := (List.getElem?_eq_some_iff.1 h1).1; rw [reps_length, hm] at this; exact this
  rw [reps_get (by rw [hm]; exact hj), hm] at h1
  have hmod : j % m < m := Nat.mod_lt _ hpos
  simp [hj, hsz, hmod] at h2
  refine hc.2 (j % m) c u h1 ?_
  simp [← h2, hsz, hmod]

/-! ### A row that no one writes -/
open Classical in
noncomputable def Gh.row (G : Gh) (b : Nat) (vs : List Value) : Gh := { G with F := fun c o => if c = b then vs[o]? else G.F c o }

theorem row_le (hw : WF G w) (vs : List Value) : G.le (G.row w.heap.size vs) := by
  refine ⟨fun b o u h => ?_, fun _ d => d, fun _ _ a => ⟨a, rfl⟩, fun _ n _ c _ a => ⟨n, c, a, Nat.le_refl _, fun _ => ⟨rfl, rfl⟩⟩⟩
  have := hw.F_lt h
  simp only [Gh.row]
  rw [if_neg (by omega)]; exact h

theorem row_step (hw : WF G w) (vs : List Value) (ty : TypeId) (W N : Nm → Prop) (fr : Nat × Nat := (0, 0)) : Step W N G w (G.row w.heap.size vs) (World.pushed w (.cells vs.toArray ty fr)) := by
  refine ⟨row_le hw vs, ⟨fun b o u h => ?_, hw.inj, fun k d => ?_⟩, fun _ _ _ => ⟨rfl, rfl⟩, fun b hb _ => ⟨pushed_old hb, fun o => by simp [Gh.row]; omega⟩, fun _ d => .inl d, fun _ d => .inl ⟨d, rfl⟩, by simp [World.pushed], rfl, rfl, rfl⟩
  · simp only [Gh.row] at h
    split at h
    · rename_i e; subst e
      exact ⟨vs.toArray, ty, fr, pushed_new _ _, by simpa using h⟩
    · obtain ⟨us, ty', fr', h1, h2⟩ := hw.F b o u h
      exact ⟨us, ty', fr', by rw [pushed_old (Array.getElem?_eq_some_iff.1 h1).1]; exact h1, h2⟩
  · have := hw.lt k d
    show G.mu k < (w.heap.push _).size
    simp; omega

theorem row_VT (hw : WF G w) {g : Bool} {esz len : Nat} {ts es : List Tree} {vs : List Value} (hv : VTs G.F ts vs) (hc : chunk g esz len ts = some es) (cap : Nat) (hcap : len ≤ cap) (vs' : List Value) (hpre : ∀ (j : Nat) u, vs[j]? = some u → vs'[j]? = some u) :
    VT (G.row w.heap.size vs').F (.sl es) (.slice (some ⟨w.heap.size, 0, none⟩) len cap) := by
  obtain ⟨c1, c2, c3⟩ := chunk_some hc
  subst c1
  by_cases hne : es = []
  · subst hne; exact .sl0 _ _
  · refine .sl esz es _ 0 cap (fun j => vs.getD j undef) hne hcap c3 ?_ ?_
    · intro j c hj
      rw [c2] at hj
      have hjl : j < vs.length := by have := (List.getElem?_eq_some_iff.1 hj).1; have := hv.1; omega
      simp only [Gh.row, Nat.zero_add, if_true]
      rw [hpre j vs[j] (List.getElem?_eq_getElem hjl)]
      simp [List.getD, hjl]
    · intro j c hj
      rw [c2] at hj
      have hjl : j < vs.length := by have := (List.getElem?_eq_some_iff.1 hj).1; have := hv.1; omega
      have := hv.2 j c vs[j] hj (List.getElem?_eq_getElem hjl)
      have e : vs.getD j undef = vs[j] := by simp [List.getD, hjl]
      rw [e]
      exact this.mono (row_le hw vs').F

theorem buildSliceT_ok {o : Oper} {as : Bool} {t : TypeId} {len : Nat} {parts : Array (Nat × Operand)} {ps : List (Nat × TV)} {u : List (Nm × AObj)} (hw : WF G w) (hn : ¬ G.dom nm) (ho : o.op = .buildSlice t len parts)
    (hp : PR G ps (parts.map fun (p : Nat × Operand) => (p.1, a.eval p.2)).toList) (h : buildSliceT C.P as nm t len ps = some (v, u)) : OpOk C.P nm o a w G v u := by
  unfold buildSliceT at h
  cases ht : tyOf C.P t <;> simp only [ht, reduceCtorEq] at h
  rename_i ti
  obtain ⟨_, _, hu, _⟩ := tyOf_info ht
  split at h
  · rename_i elem hd
    cases hte : tyOf C.P elem <;> simp only [hte, reduceCtorEq] at h
    rename_i te
    cases hz : te.zero <;> simp only [hz, reduceCtorEq] at h
    rename_i z
    split at h
    · rename_i hc
      obtain ⟨c1, c2, c3, c4⟩ := hc
      cases hfl : fillT (fun i => some (i * te.size, te.size)) (reps len z.cells) ps <;> simp only [hfl, reduceCtorEq] at h
      rename_i cs
      obtain ⟨zv, h1, h2⟩ := zeroValue_run hte hz w G
      have hr := reps_VRs h2 (zero_ne hte hz) len te.size c3 c1
      obtain ⟨us, h3, h4⟩ := fill_VRs hp hr hfl
      have hfl2 : cs.length = len * te.size := by
        have : ∀ (ps : List (Nat × TV)) (cs ds : List TV), fillT (fun i => some (i * te.size, te.size)) cs ps = some ds → ds.length = cs.length := by
          intro ps
          induction ps with
          | nil => intro cs ds h; simp [fillT] at h; rw [h]
          | cons p r ih =>
            intro cs ds h
            simp only [fillT] at h
            split at h
            · rename_i hcc
              rw [ih _ _ h, setRange_length (by omega)]
            · simp at h
        rw [this _ _ _ hfl, reps_length, c3]
      have hus : us.length = len * te.size := by rw [h4.1, hfl2]
      have hrun : (execOp a.eval o).run C.P w = .ok (.value (.slice (some ⟨w.heap.size, 0, none⟩) len len)) (World.pushed w (.cells us.toArray elem)) := by
        have hu' := underlying_run hu w
        simp only [Array.toArray_toList] at h3
        simp only [execOp, ho, Instr.buildSlice]
        simp only [bind_assoc, pure_bind, Sem.run_bind, hu', hd, Result.andThen_ok, sizeOf_run hte w]
        rw [if_neg (by omega)]
        simp only [bind_assoc, pure_bind, Sem.run_bind, Result.andThen_ok, Sem.run_pure]
        by_cases h0 : len * te.size = 0
        · rw [if_pos h0]
          have e : ((Array.range (len * te.size)).map fun x => (#[] : Array Value)[x % (#[] : Array Value).size]!) = (Array.range (len * te.size)).map (zv.cells[· % zv.cells.size]!) := by rw [h0]; simp
          rw [e, h3]
          simp [newRow_run, World.pushed]
        · rw [if_neg h0]
          simp only [bind_assoc, pure_bind, Sem.run_bind, Result.andThen_ok, Sem.run_pure, h1, h3]
          simp [newRow_run, World.pushed]
      have harr : ∀ g : Bool, OpOk C.P nm o a w G (.ref nm 0 len) [(nm, .arr (elem, g) te.size false cs)] := by
        intro g
        have hadd := add_arr (b := g) (cap := len) hw hn c1 (cs := cs) (vs := us) (by rw [List.take_of_length_le (by omega)]; exact h4) hus (by omega) elem
        refine OpOk.of_value hrun (add_step hw hn _ (some (cs.length, te.size, len)) _) ?_ ?_
        · intro k ob hm
          simp at hm
          obtain ⟨rfl, rfl⟩ := hm
          exact hadd
        · exact add_ref (by rw [hfl2]) hn
      split at h
      · rename_i es hes
        simp at h
        obtain ⟨rfl, rfl⟩ := h
        cases hal : allT cs <;> rw [hal] at hes <;> simp at hes
        rename_i ts
        have := allT_some hal
        subst this
        have hvt := row_VT hw h4.toVTs hes len (Nat.le_refl _) us (fun _ _ h => h)
        refine OpOk.of_value hrun (row_step hw us elem _ _) (fun _ _ hm => by simp at hm) ?_
        obtain ⟨e1, _⟩ := chunk_some hes
        subst e1
        exact .tsl es _ hvt
      · simp at h
        obtain ⟨rfl, rfl⟩ := h
        exact harr _
    · simp at h
  · simp at h

end
end Go.Abs

namespace Go.Abs
open Go

theorem flat_get {n : Nat} : ∀ {es : List Tree} {i j : Nat} {e : Tree}, (∀ e ∈ es, e.cells.length = n) → es[i]? = some e → j < n → (flat es)[i * n + j]? = e.cells[j]? := by
  intro es
  induction es with
  | nil => intro i j e _ h; simp at h
  | cons x r ih =>
    intro i j e hu h hj
    have hx : x.cells.length = n := hu x List.mem_cons_self
    cases i with
    | zero =>
      simp at h; subst h
      simp only [flat, List.flatMap_cons, Nat.zero_mul, Nat.zero_add]
      rw [List.getElem?_append_left (by omega)]
    | succ i =>
      simp only [flat, List.flatMap_cons]
      rw [List.getElem?_append_right (by rw [hx, Nat.succ_mul]; omega), hx]
      have := ih (i := i) (j := j) (e := e) (fun e he => hu e (List.mem_cons_of_mem _ he)) (by simpa using h) hj
      rw [← this]
      simp only [flat]
      congr 1
      rw [Nat.succ_mul]; omega

theorem flat_length {n : Nat} : ∀ {es : List Tree}, (∀ e ∈ es, e.cells.length = n) → (flat es).length = es.length * n := by
  intro es
  induction es with
  | nil => intro _; simp [flat]
  | cons x r ih =>
    intro hu
    have := ih (fun e he => hu e (List.mem_cons_of_mem _ he))
    simp only [flat, List.flatMap_cons, List.length_append, hu x List.mem_cons_self, List.length_cons] at this ⊢
    rw [this, Nat.succ_mul]; omega

theorem flat_drop {n : Nat} : ∀ {es : List Tree} {l : Nat}, (∀ e ∈ es, e.cells.length = n) → flat (es.drop l) = (flat es).drop (l * n) := by
  intro es
  induction es with
  | nil => intro l _; simp [flat]
  | cons x r ih =>
    intro l hu
    cases l with
    | zero => simp
    | succ l =>
      have hx : x.cells.length = n := hu x List.mem_cons_self
      have := ih (l := l) (fun e he => hu e (List.mem_cons_of_mem _ he))
      simp only [List.drop_succ_cons, flat, List.flatMap_cons] at this ⊢
      have e1 : x.cells.drop ((l + 1) * n) = [] := List.drop_eq_nil_of_le (by rw [hx, Nat.succ_mul]; omega)
      have e2 : (l + 1) * n - x.cells.length = l * n := by rw [hx, Nat.succ_mul]; omega
      rw [this, List.drop_append, e1, List.nil_append, e2]

theorem flat_take {n : Nat} : ∀ {es : List Tree} {l : Nat}, (∀ e ∈ es, e.cells.length = n) → flat (es.take l) = (flat es).take (l * n) := by
  intro es
  induction es with
  | nil => intro l _; simp [flat]
  | cons x r ih =>
    intro l hu
    cases l with
    | zero => simp [flat]
    | succ l =>
      have hx : x.cells.length = n := hu x List.mem_cons_self
      have := ih (l := l) (fun e he => hu e (List.mem_cons_of_mem _ he))
      simp only [List.take_succ_cons, flat, List.flatMap_cons] at this ⊢
      have e1 : x.cells.take ((l + 1) * n) = x.cells := List.take_of_length_le (by rw [hx, Nat.succ_mul]; omega)
      have e2 : (l + 1) * n - x.cells.length = l * n := by rw [hx, Nat.succ_mul]; omega
      rw [this, List.take_append, e1, e2]

section
variable {C : Cfg} {f : FuncId} {nm : Nm} {H : Heap} {slots : List TV} {a : Act} {w : World} {G : Gh} {v : TV}

theorem refOk_some {k : Nm} {off len : Nat} {g : TypeId × Bool} {esz : Nat} {fz : Bool} {cs : List TV} (h : refOk H k off len = some (g, esz, fz, cs)) : H.get k = some (.arr g esz fz cs) ∧ 0 < esz ∧ (off + len) * esz = cs.length := by
  unfold refOk at h
  split at h
  · split at h <;> simp at h
    rename_i hc
    obtain ⟨rfl, rfl, rfl, rfl⟩ := h
    exact ⟨by assumption, hc.1, hc.2⟩
  · simp at h

/-- a slice of an array, at its end -/
theorem ref_at {k : Nm} {off len : Nat} {g : TypeId × Bool} {esz : Nat} {fz : Bool} {cs : List TV} {x : Value} (hH : HR G w H) (h : refOk H k off len = some (g, esz, fz, cs)) (hx : VR G (.ref k off len) x) :
    ∃ cap vs ty fr b, G.dom k ∧ G.arr k = some (cs.length, esz, cap) ∧ w.heap[G.mu k]? = some (.cells vs ty fr) ∧ (thawed vs fr ∧ ty = g.1) ∧ vs.size = cap * esz ∧ cs.length ≤ vs.size ∧ VRs G cs (vs.toList.take cs.length) ∧
      (∀ o, (fz = false ∨ cs.length ≤ o) → G.F (G.mu k) o = none) ∧ x = .slice b len (cap - off) ∧ off + len ≤ cap ∧ (off < cap → b = some ⟨G.mu k, off * esz, none⟩) := by
  obtain ⟨hk, hpos, htip⟩ := refOk_some h
  obtain ⟨hd, he, cap, vs, ty, fr, ha, hh, ht, hs, hl, hv, hf⟩ := hH k _ hk
  cases hx with | ref _ _ _ n' esz' cap' _ hd' ha' hle ho hv' =>
    rw [ha] at ha'
    simp at ha'
    obtain ⟨e1, e2, e3⟩ := ha'
    subst e2; subst e3
    obtain ⟨b, rfl, hb⟩ := hv' (by rw [htip]; exact e1)
    have hcap : off + len ≤ cap := by
      have : (off + len) * esz ≤ cap * esz := by rw [htip, ← hs]; exact hl
      exact Nat.le_of_mul_le_mul_right this hpos
    exact ⟨cap, vs, ty, fr, b, hd, ha, hh, ht, hs, hl, hv, hf, rfl, hcap, hb⟩

theorem lenT_VR {p : TV} {x : Value} {n : Nat} (hp : VR G p x) (h : lenT H p = some n) : (∃ s : List UInt8, p = .t (.str s) ∧ n = s.length) ∨ (∃ b c, x = .slice b n c) ∨ (p = .t .nilmap) ∨ (∃ k, p = .map k) ∨ (∃ k o l, p = .ref k o l ∧ n = l) := by
  unfold lenT at h
  split at h
  · simp at h; exact .inl ⟨_, rfl, h.symm⟩
  · simp at h; subst h
    cases hp with | t _ _ hp => cases hp with
      | sl0 b c => exact .inr (.inl ⟨b, c, rfl⟩)
      | sl => exact .inr (.inl ⟨_, _, rfl⟩)
  · simp at h; subst h; cases hp; exact .inr (.inl ⟨_, _, rfl⟩)
  · simp at h; subst h; cases hp; exact .inr (.inl ⟨_, _, rfl⟩)
  · simp at h; exact .inr (.inr (.inr (.inr ⟨_, _, _, rfl, h.symm⟩)))
  · exact .inr (.inr (.inl rfl))
  · exact .inr (.inr (.inr (.inl ⟨_, rfl⟩)))
  · simp at h

/-- elements of a tree, cell by cell -/
theorem VT.sl_at {F : Froz} {es : List Tree} {x : Value} {i : Nat} {e : Tree} (h : VT F (.sl es) x) (he : es[i]? = some e) :
    ∃ b o cap esz, ∃ vals : Nat → Value, x = .slice (some ⟨b, o, none⟩) es.length cap ∧ e.cells.length = esz ∧ (∀ (j : Nat) c, e.cells[j]? = some c → F b (o + i * esz + j) = some (vals j)) ∧ ∀ (j : Nat) c, e.cells[j]? = some c → VT F c (vals j) := by
  cases h with
  | sl0 b c => simp at he
  | sl esz _ b o cap vals hne hc hu hF hv =>
    have hem : e ∈ es := List.mem_of_getElem? he
    refine ⟨b, o, cap, esz, fun j => vals (i * esz + j), rfl, hu e hem, fun j c hj => ?_, fun j c hj => ?_⟩
    · have hjl : j < esz := by rw [← hu e hem]; exact (List.getElem?_eq_some_iff.1 hj).1
      rw [Nat.add_assoc]
      exact hF _ c (by rw [flat_get hu he hjl]; exact hj)
    · have hjl : j < esz := by rw [← hu e hem]; exact (List.getElem?_eq_some_iff.1 hj).1
      exact hv _ c (by rw [flat_get hu he hjl]; exact hj)

theorem indexAddr_slice {t elem : TypeId} {ti te : TI} {b : Option Addr} {len cap : Nat} {i : Nat} {k : IntKind} {bb oo : Nat} (ht : tyOf C.P t = some ti) (hd : ti.desc = .slice elem) (hte : tyOf C.P elem = some te)
    (hb : b = some ⟨bb, oo, none⟩) (hi : i < len) : (Instr.indexAt t (.slice b len cap) (.int k (i : Int))).run C.P w = .ok (.pointer (some ⟨bb, oo + i * te.size, none⟩)) w := by
  subst hb
  obtain ⟨_, _, hu, _⟩ := tyOf_info ht
  rw [hd] at hu
  have hu' := underlying_run hu w
  simp [Instr.indexAt, asIntOf, hu', sizeOf_run hte w, hi, add_none]

theorem indexAddrT_run {t : TypeId} {x y : Value} {p q : TV} (hH : HR G w H) (hp : VR G p x) (hq : VR G q y) (h : indexAddrT C.P H t p q = some v) : ∃ r, (Instr.indexAt t x y).run C.P w = .ok r w ∧ VR G v r := by
  unfold indexAddrT at h
  cases ht : tyOf C.P t <;> cases hi : toIndex q <;> simp only [ht, hi, reduceCtorEq] at h
  rename_i ti i
  obtain ⟨k, rfl⟩ := toIndex_VR hq hi
  split at h
  · rename_i elem es hd
    cases hte : tyOf C.P elem <;> cases he : es[i]? <;> simp only [hte, he, reduceCtorEq] at h
    rename_i te e
    split at h <;> simp at h
    rename_i hs
    subst h
    obtain ⟨b, o, cap, esz, vals, rfl, h1, h2, h3⟩ := hp.tree.sl_at he
    refine ⟨_, indexAddr_slice ht hd hte rfl (List.getElem?_eq_some_iff.1 he).1, ?_⟩
    rw [← hs, h1]
    exact .tptr e.cells 0 b (o + i * esz) vals h2 h3
  · rename_i elem es hd
    cases hte : tyOf C.P elem <;> cases he : es[i]? <;> simp only [hte, he, reduceCtorEq] at h
    rename_i te e
    split at h <;> simp at h
    rename_i hs
    subst h
    cases hp with | tsl _ ad hp =>
    obtain ⟨b, o, cap, esz, vals, hx, h1, h2, h3⟩ := hp.sl_at he
    simp at hx
    obtain ⟨hx, hx2⟩ := hx
    refine ⟨_, indexAddr_slice ht hd hte hx (List.getElem?_eq_some_iff.1 he).1, ?_⟩
    rw [← hs, h1]
    exact .tptr e.cells 0 b (o + i * esz) vals h2 h3
  · rename_i elem k' off len hd
    cases hte : tyOf C.P elem <;> cases hr : refOk H k' off len <;> simp only [hte, hr, reduceCtorEq] at h
    rename_i te r
    obtain ⟨g, esz, fz, cs⟩ := r
    simp only at h
    split at h <;> simp at h
    rename_i hc
    obtain ⟨hs, hil⟩ := hc
    subst h
    obtain ⟨cap, vs, ty, fr, b, hdm, har, hh, hth, hsz, hlc, hv, hf, rfl, hcap, hb⟩ := ref_at hH hr hp
    refine ⟨_, indexAddr_slice ht hd hte (hb (by omega)) hil, ?_⟩
    have e : off * esz + i * te.size = (off + i) * esz := by rw [hs, Nat.add_mul]
    rw [e]
    exact .aptr k' cs.length _ cs.length esz cap _ hdm har (Nat.le_refl _) ⟨_, rfl⟩ (fun _ => rfl)
  · rename_i len elem hd
    cases hte : tyOf C.P elem <;> simp only [hte, reduceCtorEq] at h
    rename_i te
    split at h
    · rename_i hil
      obtain ⟨b, o, rfl, hv⟩ := ptrAdd_VR hH hp h
      refine ⟨_, ?_, hv⟩
      obtain ⟨_, _, hu, _⟩ := tyOf_info ht
      rw [hd] at hu
      have hu' := underlying_run hu w
      simp [Instr.indexAt, asIntOf, hu', sizeOf_run hte w, hil, add_none, Instr.sureAddr]
    · simp at h
  · simp at h

/-! ### Slices of slices -/
theorem VT.sub {F : Froz} {es : List Tree} {b : Option Addr} {len cap l h m size : Nat} (hv : VT F (.sl es) (.slice b len cap)) (hs : headOk size es = true) (h1 : l ≤ h) (h2 : h ≤ len) (h3 : h ≤ m) :
    VT F (.sl ((es.take h).drop l)) (.slice (if m = l then b else b.map (·.add (l * size))) (h - l) (m - l)) := by
  have hlen : len = es.length := by cases hv <;> simp
  by_cases e : l = h
  · subst e
    rw [Nat.sub_self, List.drop_eq_nil_of_le (by simp; omega)]
    exact .sl0 _ _
  · cases hv with
    | sl0 => simp at h2; omega
    | sl esz _ b' o _ vals hne hc hu hF hvv =>
      have hsz : esz = size := by
        cases es with
        | nil => exact absurd rfl hne
        | cons x r => simp [headOk] at hs; rw [← hs]; exact (hu x List.mem_cons_self).symm
      subst hsz
      rw [if_neg (by omega)]
      simp only [Option.map_some, add_none]
      have hsub : ∀ x ∈ (es.take h).drop l, x.cells.length = esz := fun x hx => hu x (List.mem_of_mem_take (List.mem_of_mem_drop hx))
      have hlen2 : ((es.take h).drop l).length = h - l := by simp; omega
      have hfl : flat ((es.take h).drop l) = ((flat es).take (h * esz)).drop (l * esz) := by
        rw [flat_drop (fun x hx => hu x (List.mem_of_mem_take hx)), flat_take hu]
      rw [← hlen2]
      refine .sl esz _ b' (o + l * esz) _ (fun j => vals (l * esz + j)) ?_ (by omega) hsub ?_ ?_
      · intro hh; rw [hh] at hlen2; simp at hlen2; omega
      · intro j c hj
        rw [hfl, List.getElem?_drop, List.getElem?_take] at hj
        split at hj
        · have := hF _ c hj
          rw [← this]; congr 1; omega
        · simp at hj
      · intro j c hj
        rw [hfl, List.getElem?_drop, List.getElem?_take] at hj
        split at hj
        · exact hvv _ c hj
        · simp at hj

theorem optIndex_bound {o : Option TV} {x : Option Value} {d n y : Nat} {code : BoundsCode} (ho : match o, x with | none, none => True | some p, some v => VR G p v | _, _ => False) (h : optIndex o d = some n) (hy : n ≤ y) :
    (match x with | some v => Instr.sliceBound v y code | none => pure d).run C.P w = .ok n w := by
  cases o <;> cases x <;> simp at ho
  · simp [optIndex] at h; subst h; rfl
  · rename_i p v'
    simp [optIndex] at h
    obtain ⟨k, rfl⟩ := toIndex_VR ho h
    simp [Instr.sliceBound, asIntOf, hy]

end
end Go.Abs

namespace Go.Abs
open Go

section
variable {C : Cfg} {f : FuncId} {nm : Nm} {H : Heap} {slots : List TV} {a : Act} {w : World} {G : Gh} {v : TV}

def VRo (G : Gh) : Option TV → Option Value → Prop
  | none, none => True
  | some p, some v => VR G p v
  | _, _ => False

theorem bound_run {p : TV} {x : Value} {n y : Nat} {code : BoundsCode} (hp : VR G p x) (h : toIndex p = some n) (hy : n ≤ y) : (Instr.sliceBound x y code).run C.P w = .ok n w := by
  obtain ⟨k, rfl⟩ := toIndex_VR hp h
  simp [Instr.sliceBound, asIntOf, hy]

/-- the bounds of a slice expression -/
theorem bounds_run {isS : Bool} {len cap : Nat} {lo hi mx : Option TV} {xl xh xm : Option Value} {l h m : Nat} (hl : VRo G lo xl) (hh : VRo G hi xh) (hm : VRo G mx xm)
    (el : optIndex lo 0 = some l) (eh : optIndex hi len = some h) (em : optIndex mx len = some m) (emx : (mx.isNone || hi.isSome) = true) (h1 : l ≤ h) (h2 : h ≤ m) (h3 : m ≤ len) (h4 : len ≤ cap) :
    (Instr.sliceBounds isS len cap xl xh xm).run C.P w = .ok (l, h, if mx.isSome then m else cap) w := by
  cases mx with
  | none =>
    cases xm with
    | some _ => exact absurd hm id
    | none =>
    simp [optIndex] at em; subst em
    cases hi with
    | none =>
      cases xh with
      | some _ => exact absurd hh id
      | none =>
      simp [optIndex] at eh; subst eh
      cases lo with
      | none =>
        cases xl with
        | some _ => exact absurd hl id
        | none => simp [optIndex] at el; subst el; simp [Instr.sliceBounds]
      | some pl =>
        cases xl with
        | none => exact absurd hl id
        | some vl =>
          simp only [Instr.sliceBounds]
          have hb : ∀ code, (Instr.sliceBound vl len code).run C.P w = .ok l w := fun code => bound_run hl el h1
          simp [hb]
    | some ph =>
      cases xh with
      | none => exact absurd hh id
      | some vh =>
      have hb : ∀ code, (Instr.sliceBound vh cap code).run C.P w = .ok h w := fun code => bound_run hh eh (by omega)
      cases lo with
      | none =>
        cases xl with
        | some _ => exact absurd hl id
        | none => simp [optIndex] at el; subst el; simp [Instr.sliceBounds, hb]
      | some pl =>
        cases xl with
        | none => exact absurd hl id
        | some vl =>
          have hb2 : ∀ code, (Instr.sliceBound vl h code).run C.P w = .ok l w := fun code => bound_run hl el h1
          simp [Instr.sliceBounds, hb, hb2]
  | some pm =>
    cases xm with
    | none => exact absurd hm id
    | some vm =>
    have hbm : ∀ code, (Instr.sliceBound vm cap code).run C.P w = .ok m w := fun code => bound_run hm em (by omega)
    cases hi with
    | none => simp at emx
    | some ph =>
      cases xh with
      | none => exact absurd hh id
      | some vh =>
      have hb : ∀ code, (Instr.sliceBound vh m code).run C.P w = .ok h w := fun code => bound_run hh eh (by omega)
      cases lo with
      | none =>
        cases xl with
        | some _ => exact absurd hl id
        | none => simp [optIndex] at el; subst el; simp [Instr.sliceBounds, hb, hbm]
      | some pl =>
        cases xl with
        | none => exact absurd hl id
        | some vl =>
          have hb2 : ∀ code, (Instr.sliceBound vl h code).run C.P w = .ok l w := fun code => bound_run hl el h1
          simp [Instr.sliceBounds, hb, hb2, hbm]

theorem slice_run {t elem : TypeId} {ti te : TI} {b : Option Addr} {len cap l h m : Nat} {xl xh xm : Option Value} (ht : tyOf C.P t = some ti) (hd : ti.desc = .slice elem) (hte : tyOf C.P elem = some te)
    (hb : (Instr.sliceBounds true len cap xl xh xm).run C.P w = .ok (l, h, m) w) :
    (Instr.sliceAt t (.slice b len cap) xl xh xm).run C.P w = .ok (.slice (if m = l then b else b.map (·.add (l * te.size))) (h - l) (m - l)) w := by
  obtain ⟨_, _, hu, _⟩ := tyOf_info ht
  rw [hd] at hu
  have hu' := underlying_run hu w
  simp [Instr.sliceAt, Instr.slice, hu', hb, sizeOf_run hte w]

theorem cutT_VR {tight : Bool} {es : List Tree} {b : Option Addr} {len cap l h m size : Nat} (hv : VT G.F (.sl es) (.slice b len cap)) (hs : headOk size es = true) (h1 : l ≤ h) (h2 : h ≤ len) (h3 : h ≤ m) (ht : tight = true → m = h) :
    VR G (cutT tight es l h) (.slice (if m = l then b else b.map (·.add (l * size))) (h - l) (m - l)) := by
  have hsub := VT.sub hv hs h1 h2 h3
  unfold cutT
  split
  · have hm := ht (by assumption)
    subst hm
    have hlen : ((es.take m).drop l).length = m - l := by
      have : len = es.length := by cases hv <;> simp
      simp; omega
    rw [← hlen] at hsub ⊢
    exact .tsl _ _ hsub
  · exact .t _ _ hsub

theorem sliceT_ok {o : Oper} {t : TypeId} {px : Operand} {plo phi pmx : Option Operand} {p : TV} {lo hi mx : Option TV} {ks : List Nm} (hw : WF G w) (hH : HR G w H) (ho : o.op = .slice t px plo phi pmx)
    (hp : VR G p (a.eval px)) (hl : VRo G lo (plo.map a.eval)) (hh : VRo G hi (phi.map a.eval)) (hm : VRo G mx (pmx.map a.eval)) (h : sliceT C.P H t p lo hi mx = some (v, ks)) : OpOk C.P nm o a w G v (frozenU H ks) := by
  unfold sliceT at h
  cases ht : tyOf C.P t <;> simp only [ht, reduceCtorEq] at h
  rename_i ti
  obtain ⟨_, _, hu, _⟩ := tyOf_info ht
  have hexec : ∀ r w', (Instr.sliceAt t (a.eval px) (plo.map a.eval) (phi.map a.eval) (pmx.map a.eval)).run C.P w = .ok r w' → (execOp a.eval o).run C.P w = .ok (.value r) w' := by
    intro r w' hr
    simp [execOp, ho, hr]
  split at h
  · rename_i hd
    rw [hd] at hu
    have hu' := underlying_run hu w
    split at h
    · rename_i s
      split at h
      · rename_i l hh' el eh
        split at h <;> simp at h
        rename_i hc
        obtain ⟨hc1, hc2⟩ := hc
        obtain ⟨rfl, rfl⟩ := h
        have hx := hp.str
        cases hmx : pmx.map a.eval with
        | some _ => rw [hmx] at hm; exact absurd hm id
        | none =>
        have hb := bounds_run (C := C) (w := w) (isS := false) (len := s.length) (cap := s.length) hl hh (mx := none) (xm := none) trivial el eh rfl rfl hc1 hc2 (Nat.le_refl _) (Nat.le_refl _)
        refine OpOk.quiet hw (x := .string ((ByteArray.mk s.toArray).extract l hh')) (hexec _ _ ?_) ?_
        · rw [hx, hmx]
          simp only [Option.isSome_none, Bool.false_eq_true, if_false] at hb
          have hb' : (Instr.sliceBounds false (ByteArray.mk s.toArray).size (ByteArray.mk s.toArray).size (plo.map a.eval) (phi.map a.eval) none).run C.P w = .ok (l, hh', s.length) w := hb
          simp [Instr.sliceAt, Instr.slice, hu', hb']
        · have e : (ByteArray.mk s.toArray).extract l hh' = ⟨((s.take hh').drop l).toArray⟩ := by
            apply Go.WideShapes.bytes_inj
            rw [Go.Lib.extract_data]
            simp
            rw [List.drop_take]
          rw [e]; exact .t _ _ (.str _)
      · simp at h
    · simp at h
  · rename_i elem hd
    split at h
    · rename_i te n hte hn
      split at h
      · rename_i l hh' m el eh em emx
        split at h
        · rename_i hc
          obtain ⟨hc1, hc2, hc3⟩ := hc
          have main : ∀ (b : Option Addr) (cap : Nat), n ≤ cap → a.eval px = .slice b n cap →
              (Instr.sliceAt t (a.eval px) (plo.map a.eval) (phi.map a.eval) (pmx.map a.eval)).run C.P w = .ok (.slice (if (if mx.isSome then m else cap) = l then b else b.map (·.add (l * te.size))) (hh' - l) ((if mx.isSome then m else cap) - l)) w := by
            intro b cap hcap hx
            rw [hx]
            exact slice_run ht hd hte (bounds_run hl hh hm el eh em emx hc1 hc2 hc3 hcap)
          split at h
          · simp at h
            obtain ⟨rfl, rfl⟩ := h
            generalize hpx : a.eval px = xv at hp main
            cases hp
            simp [lenT] at hn; subst hn
            have := main none 0 (by omega) rfl
            have e : m = 0 ∧ hh' = 0 ∧ l = 0 := by omega
            obtain ⟨rfl, rfl, rfl⟩ := e
            simp at this
            exact OpOk.quiet hw (hexec _ _ (by rw [hpx]; exact this)) .nils
          · rename_i es
            split at h <;> simp at h
            rename_i hs
            obtain ⟨rfl, rfl⟩ := h
            simp [lenT] at hn; subst hn
            generalize hpx : a.eval px = xv at hp main
            have hpt := hp.tree
            have hslice : ∃ b cap, xv = .slice b es.length cap ∧ es.length ≤ cap := by
              cases hpt with
              | sl0 b c => exact ⟨b, c, rfl, by simp⟩
              | sl e es b o cap vals hne hcp _ _ _ => exact ⟨_, cap, rfl, hcp⟩
            obtain ⟨b, cap, rfl, hcap⟩ := hslice
            refine OpOk.quiet hw (hexec _ _ (by rw [hpx]; exact main b cap hcap rfl)) (cutT_VR hpt hs hc1 (by omega) ?_ ?_)
            · cases mx <;> simp <;> omega
            · intro htt; cases mx <;> simp at htt ⊢; exact htt
          · rename_i es
            split at h <;> simp at h
            rename_i hs
            obtain ⟨rfl, rfl⟩ := h
            simp [lenT] at hn; subst hn
            generalize hpx : a.eval px = xv at hp main
            cases hp with | tsl _ b hpt =>
            refine OpOk.quiet hw (hexec _ _ (by rw [hpx]; exact main b es.length (Nat.le_refl _) rfl)) (cutT_VR hpt hs hc1 (by omega) ?_ ?_)
            · cases mx <;> simp <;> omega
            · intro htt; cases mx <;> simp at htt ⊢ <;> omega
          · rename_i k off len
            simp [lenT] at hn; subst hn
            split at h
            · rename_i hcc
              obtain ⟨hcc1, hcc2⟩ := hcc
              subst hcc1
              split at h
              · rename_i g esz fz cs hro
                split at h <;> simp at h
                rename_i hes
                subst hes
                obtain ⟨rfl, rfl⟩ := h
                generalize hpx : a.eval px = xv at hp main
                obtain ⟨cap, vs, ty, fr, b, hdm, har, hhp, hth, hsz, hlc, hv, hf, rfl, hcap, hb⟩ := ref_at hH hro hp
                obtain ⟨hk, hpos, htip⟩ := refOk_some hro
                refine OpOk.quiet hw (hexec _ _ (by rw [hpx]; exact main b (cap - off) (by omega) rfl)) ?_
                have hmx : mx = none := by cases mx <;> simp_all
                subst hmx
                simp only [Option.isSome_none, Bool.false_eq_true, if_false]
                have e1 : (off + l + (hh' - l)) * te.size = cs.length := by rw [show off + l + (hh' - l) = off + hh' by omega]; exact htip
                refine .ref k (off + l) (hh' - l) cs.length te.size cap _ hdm har (by omega) ⟨_, _, rfl⟩ fun _ => ⟨_, by rw [show cap - (off + l) = cap - off - l by omega], fun hlt => ?_⟩
                rw [if_neg (by omega), hb (by omega)]
                simp only [Option.map_some, add_none]
                rw [Nat.add_mul]
              · simp at h
            · split at h
              · rename_i es ks' hfz
                split at h <;> simp at h
                rename_i hs
                obtain ⟨rfl, rfl⟩ := h
                have hvt := frz_VT hw hH ks' frzFuel _ _ _ _ hfz (fun _ hk => hk) hp
                have hst := frozen_step hw hH ks'
                generalize hpx : a.eval px = xv at hp main hvt
                have hslice : ∃ b cap, xv = .slice b es.length cap ∧ es.length ≤ cap := by
                  cases hvt with
                  | sl0 b c => exact ⟨b, c, rfl, by simp⟩
                  | sl e es b o cap vals hne hcp _ _ _ => exact ⟨_, cap, rfl, hcp⟩
                obtain ⟨b, cap, rfl, hcap⟩ := hslice
                have hlen : es.length = len := by
                  simp only [frzFuel, frz] at hfz
                  split at hfz
                  · split at hfz
                    · split at hfz
                      · split at hfz
                        · rename_i hch
                          simp at hfz
                          rw [← hfz.1]
                          exact (chunk_some hch).1
                        · simp at hfz
                      · simp at hfz
                    · simp at hfz
                  · simp at hfz
                rw [← hlen] at main
                refine OpOk.of_value (G' := G.frozen w H ks') (hexec _ _ (by rw [hpx]; exact main b cap hcap rfl)) (hst.mono (fun k _ hk => frozenU_keys hk.1 hk.2) (fun _ e => e.elim)) (fun k ob hm' => frozen_OR hw hH hm') (cutT_VR hvt hs hc1 (by omega) ?_ ?_)
                · cases mx <;> simp <;> omega
                · intro htt; cases mx <;> simp at htt ⊢; exact htt
              · simp at h
          · simp at h
        · simp at h
      · simp at h
    · simp at h
  · simp at h

end
end Go.Abs

namespace Go.Abs
open Go

theorem growBy_le (n : Nat) : ∀ (r c : Nat), Builtin.growBy n r c ≤ max c (n + (n + 768) / 4) := by
  intro r
  induction r with
  | zero => intro c; simp only [Builtin.growBy]; omega
  | succ r ih =>
    intro c
    simp only [Builtin.growBy]
    split
    · omega
    · have := ih (c + (c + 768) / 4)
      omega

theorem nextslicecap_le {n c : Nat} (h : c < n) : Builtin.nextslicecap n c ≤ 2 * n := by
  unfold Builtin.nextslicecap
  split
  · omega
  · split
    · omega
    · have := growBy_le n 4 c; omega

section
variable {C : Cfg} {f : FuncId} {nm : Nm} {H : Heap} {slots : List TV} {a : Act} {w : World} {G : Gh} {v : TV}

theorem WF.drew (hw : WF G w) : WF G w.drew := ⟨hw.F, hw.inj, hw.lt⟩

theorem drew_step (hw : WF G w) (W N : Nm → Prop) : Step W N G w G w.drew :=
  ⟨.refl G, hw.drew, fun _ _ _ => ⟨rfl, rfl⟩, fun _ _ _ => ⟨rfl, fun _ => rfl⟩, fun _ h => .inl h, fun _ h => .inl ⟨h, rfl⟩, Nat.le_refl _, rfl, rfl, rfl⟩

theorem HR.drew (hH : HR G w H) : HR G w.drew H := by
  intro k o hk
  obtain ⟨d, ho⟩ := hH k o hk
  refine ⟨d, ?_⟩
  cases o <;> exact ho

theorem VT.cells_run {es : List Tree} {b : Option Addr} {len cap size : Nat} (hw : WF G w) (hv : VT G.F (.sl es) (.slice b len cap)) (hs : headOk size es = true) {n : Nat} (hn : n ≤ len) :
    ∃ us : Array Value, (Builtin.firstCells size n (.slice b len cap)).run C.P w = .ok us w ∧ VRs G (((flat es).map .t).take (n * size)) us.toList := by
  cases hv with
  | sl0 b c =>
    have : n = 0 := by omega
    subst this
    refine ⟨#[], ?_, by simp [flat]; exact VRs.nil G⟩
    cases b with
    | none => simp [Builtin.firstCells]
    | some b =>
      have := loadCells_run (P := C.P) (w := w) (b := b.block) (o := b.off) [] (by simp)
      simp [Builtin.firstCells, loadCells, loadCellsFrom]
  | sl esz _ b o _ vals hne hc hu hF hvv =>
    have hsz : esz = size := by
      cases es with
      | nil => exact absurd rfl hne
      | cons x r => simp [headOk] at hs; rw [← hs]; exact (hu x List.mem_cons_self).symm
    subst hsz
    have hfl : (flat es).length = es.length * esz := flat_length hu
    have hle : n * esz ≤ (flat es).length := by rw [hfl]; exact Nat.mul_le_mul_right _ hn
    refine ⟨((List.range (n * esz)).map vals).toArray, ?_, ?_⟩
    · have := loadCells_run (P := C.P) (w := w) (b := b) (o := o) ((List.range (n * esz)).map vals) (fun j u hj => by
        have hjl : j < n * esz := by have := (List.getElem?_eq_some_iff.1 hj).1; simpa using this
        simp [hjl] at hj
        subst hj
        obtain ⟨vs, ty, fr, h1, h2⟩ := hw.F _ _ _ (hF j _ (List.getElem?_eq_getElem (by omega)))
        rw [cell_of h1]; exact h2)
      simp only [List.length_map, List.length_range] at this
      exact this
    · refine ⟨by simp only [List.length_map, List.length_range, List.length_take, List.toList_toArray]; omega, fun j c u h1 h2 => ?_⟩
      have hjl : j < n * esz := by have := (List.getElem?_eq_some_iff.1 h2).1; simpa using this
      simp [hjl] at h2
      subst h2
      rw [List.getElem?_take, if_pos hjl, List.getElem?_map, List.getElem?_eq_getElem (by omega)] at h1
      simp at h1
      subst h1
      exact .t _ _ (hvv j _ (List.getElem?_eq_getElem (by omega)))

theorem src_run {g : Bool} {size m : Nat} {x : Value} {p : TV} {cs : List TV} (hw : WF G w) (hH : HR G w H) (hp : VR G p x) (h : srcCells H g size p = some (m, cs)) :
    (Builtin.lenOf x).run C.P w = .ok m w ∧ cs.length = m * size ∧ ∀ n, n ≤ m → ∃ us : Array Value, (Builtin.firstCells size n x).run C.P w = .ok us w ∧ VRs G (cs.take (n * size)) us.toList := by
  unfold srcCells at h
  split at h
  · simp at h
    obtain ⟨rfl, rfl⟩ := h
    cases hp
    exact ⟨rfl, by simp, fun n hn => ⟨#[], rfl, by simp; exact VRs.nil G⟩⟩
  · rename_i es
    split at h <;> simp at h
    rename_i hs
    obtain ⟨rfl, rfl⟩ := h
    have hpt := hp.tree
    have hlen : (flat es).length = es.length * size := by
      cases hpt with
      | sl0 => simp [flat]
      | sl esz _ b o _ vals hne hc hu hF hvv =>
        have hsz : esz = size := by
          cases es with
          | nil => exact absurd rfl hne
          | cons x r => simp [headOk] at hs; rw [← hs]; exact (hu x List.mem_cons_self).symm
        subst hsz
        exact flat_length hu
    have hx : ∃ b cap, x = .slice b es.length cap := by cases hpt <;> exact ⟨_, _, rfl⟩
    obtain ⟨b, cap, rfl⟩ := hx
    exact ⟨rfl, by simpa using hlen, fun n hn => hpt.cells_run hw hs hn⟩
  · rename_i es
    split at h <;> simp at h
    rename_i hs
    obtain ⟨rfl, rfl⟩ := h
    cases hp with | tsl _ b hpt =>
    have hlen : (flat es).length = es.length * size := by
      cases hpt with
      | sl0 => simp [flat]
      | sl esz _ b o _ vals hne hc hu hF hvv =>
        have hsz : esz = size := by
          cases es with
          | nil => exact absurd rfl hne
          | cons x r => simp [headOk] at hs; rw [← hs]; exact (hu x List.mem_cons_self).symm
        subst hsz
        exact flat_length hu
    exact ⟨rfl, by simpa using hlen, fun n hn => hpt.cells_run hw hs hn⟩
  · rename_i k off len
    split at h
    · rename_i g' e fz cs' hro
      split at h <;> simp at h
      rename_i hes
      subst hes
      obtain ⟨rfl, rfl⟩ := h
      obtain ⟨cap, vs, ty, fr, b, hdm, har, hhp, hth, hsz, hlc, hv, hf, rfl, hcap, hb⟩ := ref_at hH hro hp
      obtain ⟨hk, hpos, htip⟩ := refOk_some hro
      have hmul : (off + len) * e = off * e + len * e := Nat.add_mul _ _ _
      refine ⟨rfl, by simp; omega, fun n hn => ?_⟩
      have hne : n * e ≤ len * e := Nat.mul_le_mul_right _ hn
      refine ⟨((vs.toList.drop (off * e)).take (n * e)).toArray, ?_, ?_⟩
      · by_cases h0 : n = 0
        · subst h0
          cases b with
          | none => simp [Builtin.firstCells]
          | some b => simp [Builtin.firstCells, loadCells, loadCellsFrom]
        · rw [hb (by omega)]
          have := loadCells_run (P := C.P) (w := w) (b := G.mu k) (o := off * e) ((vs.toList.drop (off * e)).take (n * e)) (fun j u hj => by
            rw [List.getElem?_take] at hj
            split at hj
            · rw [List.getElem?_drop] at hj
              rw [cell_of hhp]; simpa using hj
            · simp at hj)
          have hl : ((vs.toList.drop (off * e)).take (n * e)).length = n * e := by simp; omega
          rw [hl] at this
          exact this
      · have h1 := (hv.drop (off * e)).take (n * e)
        have e1 : ((vs.toList.take cs'.length).drop (off * e)).take (n * e) = (vs.toList.drop (off * e)).take (n * e) := by
          apply List.ext_getElem?
          intro i
          simp only [List.getElem?_take, List.getElem?_drop]
          by_cases c : i < n * e
          · rw [if_pos c, if_pos c, if_pos (by omega)]
          · rw [if_neg c, if_neg c]
        rw [e1] at h1
        exact h1
    · simp at h
  · rename_i s
    split at h <;> simp at h
    rename_i hc
    obtain ⟨hc1, hc2⟩ := hc
    subst hc1
    obtain ⟨rfl, rfl⟩ := h
    have := hp.str
    subst this
    refine ⟨by simp [Builtin.lenOf, ByteArray.size], by simp, fun n hn => ⟨_, rfl, ?_⟩⟩
    have e : ((ByteArray.mk s.toArray).extract 0 n).data.toList = s.take n := by
      rw [Go.Lib.extract_data]; simp
    rw [Nat.mul_one]
    have e2 : ((((ByteArray.mk s.toArray).extract 0 n).data.map fun b => Value.int .u8 (b.toNat : Int)).toList) = (s.take n).map fun b => Value.int .u8 (b.toNat : Int) := by
      rw [Array.toList_map, e]
    rw [e2]
    refine ⟨by simp, fun j c u h1 h2 => ?_⟩
    rw [← List.map_take, List.getElem?_map] at h1
    rw [List.getElem?_map] at h2
    cases hj : (s.take n)[j]? with
    | none => rw [hj] at h1; simp at h1
    | some b =>
      rw [hj] at h1 h2
      simp at h1 h2
      subst h1; subst h2
      exact .t _ _ (.int _ _)
  · simp at h

/-! ### Arrays that grow -/
def Gh.grow (G : Gh) (k : Nm) (b : Nat) (ar : Nat × Nat × Nat) : Gh :=
  { G with mu := fun x => if x = k then b else G.mu x, arr := fun x => if x = k then some ar else G.arr x }

theorem grow_le {k : Nm} {n e c n' c' : Nat} (b : Nat) (ha : G.arr k = some (n, e, c)) (hlt : n < n') : G.le (G.grow k b (n', e, c')) := by
  refine ⟨fun _ _ _ h => h, fun _ d => d, fun x d a => ?_, fun x m e' c0 d a => ?_⟩
  · have : x ≠ k := by intro e; subst e; rw [ha] at a; simp at a
    simp [Gh.grow, this, a]
  · by_cases hx : x = k
    · subst hx
      rw [ha] at a
      simp at a
      obtain ⟨rfl, rfl, rfl⟩ := a
      exact ⟨n', c', by simp [Gh.grow], Nat.le_of_lt hlt, fun e => by omega⟩
    · exact ⟨m, c0, by simp [Gh.grow, hx, a], Nat.le_refl _, fun _ => ⟨rfl, by simp [Gh.grow, hx]⟩⟩

/-- it grew where it was -/
theorem grow_step (hw : WF G w) {k : Nm} {n e c n' : Nat} (ha : G.arr k = some (n, e, c)) (hlt : n < n') (N : Nm → Prop) : Step (fun x => x = k) N G w (G.grow k (G.mu k) (n', e, c)) w := by
  have hmu : ∀ x, (G.grow k (G.mu k) (n', e, c)).mu x = G.mu x := by intro x; simp only [Gh.grow]; split <;> simp_all
  refine ⟨grow_le _ ha hlt, ⟨hw.F, fun x y dx dy e => hw.inj x y dx dy (by rw [hmu, hmu] at e; exact e), fun x d => by rw [hmu]; exact hw.lt x d⟩, fun x d hn => ⟨hmu x, by simp [Gh.grow, hn]⟩, fun _ _ _ => ⟨rfl, fun _ => rfl⟩, fun _ d => .inl d, fun x d => .inl ⟨d, hmu x⟩, Nat.le_refl _, rfl, rfl, rfl⟩

/-- it has a new block -/
theorem move_step (hw : WF G w) {k : Nm} {n e c n' c' : Nat} (ha : G.arr k = some (n, e, c)) (hlt : n < n') (o : Obj) (N : Nm → Prop) : Step (fun x => x = k) N G w (G.grow k w.heap.size (n', e, c')) (World.pushed w o) := by
  refine ⟨grow_le _ ha hlt, ⟨fun b p u h => ?_, fun x y dx dy he => ?_, fun x d => ?_⟩, fun x d hn => by simp [Gh.grow, hn], fun b hb _ => ⟨pushed_old hb, fun _ => rfl⟩, fun _ d => .inl d, fun x d => ?_, by simp [World.pushed], rfl, rfl, rfl⟩
  · obtain ⟨vs, ty, fr, h1, h2⟩ := hw.F b p u h
    exact ⟨vs, ty, fr, by rw [pushed_old (Array.getElem?_eq_some_iff.1 h1).1]; exact h1, h2⟩
  · simp only [Gh.grow] at he dx dy
    by_cases hx : x = k <;> by_cases hy : y = k
    · rw [hx, hy]
    · rw [if_pos hx, if_neg hy] at he; have := hw.lt y dy; omega
    · rw [if_neg hx, if_pos hy] at he; have := hw.lt x dx; omega
    · rw [if_neg hx, if_neg hy] at he; exact hw.inj x y dx dy he
  · simp only [Gh.grow] at d ⊢
    show _ < (w.heap.push o).size
    rw [Array.size_push]
    split
    · omega
    · have := hw.lt x d; omega
  · simp only [Gh.grow] at d ⊢
    by_cases hx : x = k
    · exact .inr (by rw [if_pos hx]; exact Nat.le_refl _)
    · exact .inl ⟨d, by rw [if_neg hx]⟩

/-- the new row of an append -/
theorem append_grow_run {elem st xt : TypeId} {ti tx te : TI} {z : TV} {b : Option Addr} {sLen sCap m : Nat} {r : TypeId} {x : Value} {olds news : Array Value} (hti : tyOf C.P st = some ti) (hd : ti.desc = .slice elem) (htx : tyOf C.P xt = some tx)
    (hnx : (∃ e, tx.desc = .slice e) ∨ tx.desc = .string) (hte : tyOf C.P elem = some te) (hz : te.zero = some z) (hzl : z.cells.length = te.size) (hb0 : te.bytes ≠ 0)
    (hlen : (Builtin.lenOf x).run C.P w = .ok m w) (hnew : (Builtin.firstCells te.size m x).run C.P w.drew = .ok news w.drew)
    (hold : (Builtin.firstCells te.size sLen (.slice b sLen sCap)).run C.P w.drew = .ok olds w.drew) (hgt : sCap < sLen + m) (hmax : (sLen + m) * te.bytes ≤ maxBytes) :
    ∃ newCap, sLen + m ≤ newCap ∧ ∃ rest : Array Value, rest.size = (newCap - (sLen + m)) * te.size ∧
      (Builtin.append_ #[st, xt] r #[.slice b sLen sCap, x]).run C.P w = .ok (.slice (some ⟨w.heap.size, 0, none⟩) (sLen + m) newCap) (World.pushed w.drew (.cells (olds ++ news ++ rest) elem)) := by
  obtain ⟨_, _, hu, _⟩ := tyOf_info hti
  rw [hd] at hu
  obtain ⟨_, _, hux, _⟩ := tyOf_info htx
  obtain ⟨i, hi, _, _, hbytes, _⟩ := tyOf_info hte
  obtain ⟨zv, hz1, hz2⟩ := zeroValue_run hte hz w.drew ⟨fun _ _ => none, fun _ => 0, fun _ => none, fun _ => False⟩
  have hzs : zv.cells.size = te.size := by have := (hz2.cells (zero_ne hte hz)).1; simp at this; omega
  refine ⟨(Question.appendCap (sLen + m) sCap elem).cut (w.tape w.drawn (Question.appendCap (sLen + m) sCap elem)), ?_, Builtin.zeroCells zv.cells ((Question.appendCap (sLen + m) sCap elem).cut (w.tape w.drawn (Question.appendCap (sLen + m) sCap elem)) - (sLen + m)), ?_, ?_⟩
  · show sLen + m ≤ sLen + m + _
    omega
  · simp [Builtin.zeroCells, hzs]
  · have hu' : ∀ w, (underlying st).run C.P w = .ok (.slice elem) w := fun w => underlying_run hu w
    have hux' : ∀ w, (underlying xt).run C.P w = .ok tx.desc w := fun w => underlying_run hux w
    have hsz : ∀ w, (sizeOf elem).run C.P w = .ok te.size w := fun w => sizeOf_run hte w
    have hti' : ∀ w, (typeInfo elem).run C.P w = .ok i w := fun w => typeInfo_run hi w
    have hnc := nextslicecap_le hgt
    have hnb' : ¬ (281474976710656 < Builtin.nextslicecap (sLen + m) sCap * i.bytes) := by
      rw [hbytes]
      have h1 : Builtin.nextslicecap (sLen + m) sCap * te.bytes ≤ 2 * (sLen + m) * te.bytes := Nat.mul_le_mul_right _ hnc
      have h2 : 2 * (sLen + m) * te.bytes = 2 * ((sLen + m) * te.bytes) := Nat.mul_assoc _ _ _
      unfold maxBytes at hmax
      omega
    have hb1 : ¬ i.bytes = 0 := by rw [hbytes]; exact hb0
    have hq : (Question.appendCap (sLen + m) sCap elem).forced = false := rfl
    have hgt' : ¬ sLen + m ≤ sCap := by omega
    rcases hnx with ⟨e, hnx⟩ | hnx <;> rw [hnx] at hux'
    · simp [Builtin.append_, hu', hux', hsz, hlen, hti', hgt', hb1, hnb', hq, hold, hnew, hz1, newRow_run, World.pushed]
      rfl
    · simp [Builtin.append_, hu', hux', hsz, hlen, hti', hgt', hb1, hnb', hq, hold, hnew, hz1, newRow_run, World.pushed]
      rfl

/-- an append that fits -/
theorem append_fit_run {elem st xt : TypeId} {ti tx te : TI} {b : Option Addr} {sLen sCap m : Nat} {r : TypeId} {x : Value} {news : Array Value} {w' : World} (hti : tyOf C.P st = some ti) (hd : ti.desc = .slice elem) (htx : tyOf C.P xt = some tx)
    (hnx : (∃ e, tx.desc = .slice e) ∨ tx.desc = .string) (hte : tyOf C.P elem = some te)
    (hlen : (Builtin.lenOf x).run C.P w = .ok m w) (hnew : (Builtin.firstCells te.size m x).run C.P w = .ok news w) (hle : sLen + m ≤ sCap)
    (hst : ∀ ad, b = some ad → (storeCells (ad.add (sLen * te.size)) news.toList).run C.P w = .ok () w') (hnn : b = none → w' = w) :
    (Builtin.append_ #[st, xt] r #[.slice b sLen sCap, x]).run C.P w = .ok (.slice b (sLen + m) sCap) w' := by
  obtain ⟨_, _, hu, _⟩ := tyOf_info hti
  rw [hd] at hu
  obtain ⟨_, _, hux, _⟩ := tyOf_info htx
  have hu' := underlying_run hu w
  have hux' := underlying_run hux w
  have hsz := sizeOf_run hte w
  rcases hnx with ⟨e, hnx⟩ | hnx <;> rw [hnx] at hux' <;> cases b with
  | none => have := hnn rfl; subst this; simp [Builtin.append_, hu', hux', hsz, hlen, hnew, hle]
  | some ad => simp [Builtin.append_, hu', hux', hsz, hlen, hnew, hle, hst ad rfl]

theorem append_exec {o : Oper} {b : Builtin} {args : Array Operand} {ats : Array TypeId} {r : Value} {w' : World} (ho : o.op = .call { callee := .builtin .append, args, argTypes := ats })
    (h : (Builtin.append_ ats o.type (args.map a.eval)).run C.P w = .ok r w') : (execOp a.eval o).run C.P w = .ok (.value r) w' := by
  simp [execOp, ho, resolve, invoke, builtin, h]

theorem appendT_ok {o : Oper} {args : Array Operand} {ats : Array TypeId} {st xt : TypeId} {s x : TV} {u : List (Nm × AObj)} (hw : WF G w) (hH : HR G w H) (hn : ¬ G.dom nm) (ho : o.op = .call { callee := .builtin .append, args, argTypes := ats })
    (hat : ats.toList = [st, xt]) (hargs : VRs G [s, x] (args.map a.eval).toList) (h : appendT C.P nm H st xt s x = some (v, u)) : OpOk C.P nm o a w G v u := by
  have hats : ats = #[st, xt] := by rw [← Array.toArray_toList (xs := ats), hat]
  obtain ⟨sv, rest, he1, hs, hrest⟩ := hargs.uncons
  obtain ⟨xv, rest2, he2, hx, hrest2⟩ := hrest.uncons
  have hr2 : rest2 = [] := by have := hrest2.1; simpa using this
  subst hr2
  subst he2
  have hav : args.map a.eval = #[sv, xv] := by rw [← Array.toArray_toList (xs := args.map a.eval), he1]
  have hexec : ∀ r w', (Builtin.append_ #[st, xt] o.type #[sv, xv]).run C.P w = .ok r w' → (execOp a.eval o).run C.P w = .ok (.value r) w' := fun r w' hr => append_exec (b := .append) ho (by rw [hats, hav]; exact hr)
  clear hrest2 hrest he1 hav hat
  unfold appendT at h
  cases hti : tyOf C.P st <;> cases htx : tyOf C.P xt <;> simp only [hti, htx, reduceCtorEq] at h
  rename_i ti tx
  split at h
  · rename_i elem hd hnx0
    have hnx : (∃ e, tx.desc = .slice e) ∨ tx.desc = .string := by
      split at hnx0
      · rename_i e hh; exact .inl ⟨e, hh⟩
      · rename_i hh; exact .inr hh
      · simp at hnx0
    cases hte : tyOf C.P elem <;> simp only [hte, reduceCtorEq] at h
    rename_i te
    cases hz : te.zero <;> simp only [hz, reduceCtorEq] at h
    rename_i z
    split at h
    · simp at h
    · rename_i hguard
      simp only [not_or, Decidable.not_not] at hguard
      obtain ⟨hs0, hzl, hb0⟩ := hguard
      have hpos : 0 < te.size := by omega
      split at h
      · rename_i m cs hsrc
        obtain ⟨hl1, hcl, hfc⟩ := src_run (C := C) hw hH hx hsrc
        obtain ⟨news, hf1, hf2⟩ := hfc m (Nat.le_refl _)
        obtain ⟨hl1d, _, hfcd⟩ := src_run (C := C) hw.drew hH.drew hx hsrc
        rw [List.take_of_length_le (by omega)] at hf2
        split at h
        · rename_i hm0
          subst hm0
          have hnil : news = #[] := by
            have h1 := hf2.1
            have : cs = [] := List.length_eq_zero_iff.1 (by omega)
            subst this
            simp at h1
            exact h1
          subst hnil
          have fit : ∀ (b : Option Addr) (sLen sCap : Nat), sLen ≤ sCap → sv = .slice b sLen sCap → (execOp a.eval o).run C.P w = .ok (.value (.slice b sLen sCap)) w := by
            intro b sLen sCap hle hsv
            subst hsv
            exact hexec _ _ (append_fit_run hti hd htx hnx hte hl1 hf1 (by omega) (fun ad _ => by simp [storeCells]) (fun _ => rfl))
          split at h
          · simp at h; obtain ⟨rfl, rfl⟩ := h
            cases hs
            exact OpOk.quiet hw (fit none 0 0 (Nat.le_refl _) rfl) .nils
          · rename_i es
            simp at h; obtain ⟨rfl, rfl⟩ := h
            have hst := hs.tree
            cases hst with
            | sl0 b c => exact OpOk.quiet hw (fit b 0 c (by omega) rfl) (.t _ _ (.sl0 b c))
            | sl e es b o cap vals h1 h2 h3 h4 h5 => exact OpOk.quiet hw (fit _ _ cap h2 rfl) (.t _ _ (.sl e es b o cap vals h1 h2 h3 h4 h5))
          · rename_i es
            simp at h; obtain ⟨rfl, rfl⟩ := h
            cases hs with | tsl _ b hst => exact OpOk.quiet hw (fit b _ _ (Nat.le_refl _) rfl) (.tsl es b hst)
          · rename_i k off len
            split at h <;> simp at h
            rename_i hro
            obtain ⟨rfl, rfl⟩ := h
            obtain ⟨⟨g, esz, fz, cs'⟩, hro⟩ := Option.isSome_iff_exists.1 hro
            obtain ⟨cap, vs, ty, fr, b, hdm, har, hhp, hth, hsz, hlc, hv, hf, rfl, hcap, hb⟩ := ref_at hH hro hs
            exact OpOk.quiet hw (fit b len (cap - off) (by omega) rfl) hs
          · simp at h
        · rename_i hm0
          split at h
          · rename_i hlf
            have hones := leaf_all hf2 hlf
            obtain ⟨newsd, hf1d, hf2d⟩ := hfcd m (Nat.le_refl _)
            rw [List.take_of_length_le (by omega)] at hf2d
            split at h
            · split at h <;> simp at h
              rename_i hmax
              obtain ⟨rfl, rfl⟩ := h
              cases hs
              obtain ⟨newCap, hnc, rest, hrest, hrun⟩ := append_grow_run (sLen := 0) (sCap := 0) (b := none) (r := o.type) (olds := #[]) hti hd htx hnx hte hz hzl hb0 hl1 hf1d (by simp [Builtin.firstCells]) (by omega) (by simpa using hmax)
              have hvl : (newsd.toList ++ rest.toList).length = newCap * te.size := by
                have h1 := hf2d.1
                have h2 : newCap * te.size = m * te.size + (newCap - m) * te.size := by rw [← Nat.add_mul]; congr 1; omega
                have h3 : rest.toList.length = (newCap - m) * te.size := by simpa using hrest
                rw [List.length_append, h3, h1, hcl, h2]
              have hadd := add_arr (nm := nm) (b := te.agg) (cap := newCap) (w := w.drew) hw.drew hn hpos (cs := cs) (vs := newsd.toList ++ rest.toList) (by rw [List.take_append_of_le_length (by rw [hf2d.1]; exact Nat.le_refl _), List.take_of_length_le (by rw [hf2d.1]; exact Nat.le_refl _)]; exact hf2d) hvl (by have h9 := hf2d.1; simp only [List.length_append] at h9 ⊢; omega) elem
              have harr : (newsd.toList ++ rest.toList).toArray = #[] ++ newsd ++ rest := by simp
              rw [harr] at hadd
              refine OpOk.of_value (hexec _ _ hrun) (((drew_step hw (fun _ => False) (fun _ => False)).trans (add_step (w := w.drew) hw.drew hn _ (some (cs.length, te.size, newCap)) (fun _ => False))).mono (fun _ _ hh => by simp at hh) (fun _ hh => by simpa using hh)) ?_ ?_
              · intro k ob hm
                simp at hm
                obtain ⟨rfl, rfl⟩ := hm
                exact hadd
              · have := add_ref (w := w.drew) (nm := nm) (esz := te.size) (cap := newCap) (n := cs.length) (len := m) (by rw [hcl]) hn
                simpa using this
            · rename_i es
              split at h
              · rename_i n old hold
                split at h <;> simp at h
                rename_i hmax
                obtain ⟨rfl, rfl⟩ := h
                obtain ⟨hlo, hol, hfo⟩ := src_run (C := C) hw.drew hH.drew hs hold
                cases hs with | tsl _ b hst =>
                have hnes : n = es.length := by
                  simp only [srcCells] at hold
                  split at hold <;> simp at hold
                  exact hold.1.symm
                subst hnes
                obtain ⟨oldv, ho1, ho2⟩ := hfo es.length (Nat.le_refl _)
                rw [List.take_of_length_le (by omega)] at ho2
                obtain ⟨newCap, hnc, rest, hrest, hrun⟩ := append_grow_run (sLen := es.length) (sCap := es.length) (b := b) (r := o.type) (olds := oldv) hti hd htx hnx hte hz hzl hb0 hl1 hf1d ho1 (by omega) hmax
                have hboth := ho2.append hf2d
                have hbl : (oldv.toList ++ newsd.toList).length = (es.length + m) * te.size := by rw [hboth.1, List.length_append, hol, hcl, Nat.add_mul]
                have hvl : (oldv.toList ++ newsd.toList ++ rest.toList).length = newCap * te.size := by
                  have h2 : newCap * te.size = (es.length + m) * te.size + (newCap - (es.length + m)) * te.size := by rw [← Nat.add_mul]; congr 1; omega
                  have h3 : rest.toList.length = (newCap - (es.length + m)) * te.size := by simpa using hrest
                  rw [List.length_append, h3, hbl, h2]
                have hadd := add_arr (nm := nm) (b := te.agg) (cap := newCap) (w := w.drew) hw.drew hn hpos (cs := old ++ cs) (vs := oldv.toList ++ newsd.toList ++ rest.toList) (by rw [List.take_append_of_le_length (by rw [hboth.1]; exact Nat.le_refl _), List.take_of_length_le (by rw [hboth.1]; exact Nat.le_refl _)]; exact hboth) hvl (by have h9 := hboth.1; simp only [List.length_append] at h9 ⊢; omega) elem
                have harr : (oldv.toList ++ newsd.toList ++ rest.toList).toArray = oldv ++ newsd ++ rest := by simp
                rw [harr] at hadd
                refine OpOk.of_value (hexec _ _ hrun) (((drew_step hw (fun _ => False) (fun _ => False)).trans (add_step (w := w.drew) hw.drew hn _ (some ((old ++ cs).length, te.size, newCap)) (fun _ => False))).mono (fun _ _ hh => by simp at hh) (fun _ hh => by simpa using hh)) ?_ ?_
                · intro k ob hm
                  simp at hm
                  obtain ⟨rfl, rfl⟩ := hm
                  exact hadd
                · exact add_ref (w := w.drew) (nm := nm) (esz := te.size) (cap := newCap) (n := (old ++ cs).length) (len := es.length + m) (by rw [List.length_append, hol, hcl, Nat.add_mul]) hn
              · simp at h
            · rename_i k len
              split at h
              · rename_i g e fz old hro
                split at h <;> simp at h
                rename_i hc
                obtain ⟨he, hg1, hmax⟩ := hc
                subst he
                obtain ⟨rfl, rfl⟩ := h
                obtain ⟨hk, _, htip⟩ := refOk_some hro
                obtain ⟨cap, vs, ty, fr, b, hdm, har, hhp, hth, hsz, hlc, hv, hf, rfl, hcap, hb⟩ := ref_at hH hro hs
                simp only [Nat.zero_add, Nat.sub_zero, Nat.zero_mul] at *
                have hml : old.length < (old ++ cs).length := by
                  rw [List.length_append, hcl]
                  have : 0 < m * te.size := Nat.mul_pos (by omega) hpos
                  omega
                have hnl : (old ++ cs).length = (len + m) * te.size := by rw [List.length_append, hcl, ← htip, Nat.add_mul]
                by_cases hfit : len + m ≤ cap
                · -- where it is
                  have hb' := hb (by omega)
                  subst hb'
                  have hle2 : (len + m) * te.size ≤ cap * te.size := Nat.mul_le_mul_right _ hfit
                  have hov : old.length + news.toList.length ≤ vs.toList.length := by
                    rw [hf2.1]
                    have : (old ++ cs).length ≤ vs.size := by rw [hnl, hsz]; exact hle2
                    simpa using this
                  have hst := storeCells_run (P := C.P) (b := G.mu k) (o := len * te.size) (ty := ty) (fr := fr) news.toList w 0 vs.toList hones (by simpa using hhp) (by simpa using hth.1) (by simpa [htip] using hov)
                  simp only [Nat.add_zero, htip] at hst
                  have hrun := append_fit_run (r := o.type) (b := some ⟨G.mu k, 0, none⟩) hti hd htx hnx hte hl1 hf1 hfit (fun ad had => by simp at had; subst had; rw [add_none, Nat.zero_add, htip]; exact hst) (fun hh => by simp at hh)
                  have s1 := cells_step (vs := over vs.toList old.length news.toList) hw hdm hhp (fun q ⟨uu, hq⟩ => by
                    have hql : q < old.length := by
                      rcases Nat.lt_or_ge q old.length with h | h
                      · exact h
                      · rw [hf q (.inr h)] at hq; simp at hq
                    unfold over
                    rw [List.append_assoc, List.getElem?_append_left (by simp; omega), List.getElem?_take, if_pos hql]
                    simp)
                  have har' : G.arr k = some (old.length, te.size, cap) := har
                  have s2 := grow_step (n' := (old ++ cs).length) s1.wf har' hml (fun _ => False)
                  refine OpOk.of_value (hexec _ _ hrun) ((s1.trans s2).mono (fun q _ hq => by simpa using hq) (fun _ hq => by simp at hq)) ?_ ?_
                  · intro k' ob hm
                    simp at hm
                    obtain ⟨rfl, rfl⟩ := hm
                    have hmu : (G.grow k' (G.mu k') ((old ++ cs).length, te.size, cap)).mu k' = G.mu k' := by simp [Gh.grow]
                    have hol : (over vs.toList old.length news.toList).length = vs.toList.length := over_length hov
                    refine ⟨hdm, hpos, cap, (over vs.toList old.length news.toList).toArray, ty, fr, by simp [Gh.grow], by rw [hmu]; exact withCells_heap (hw.lt _ hdm) _ _ _, ⟨?_, hth.2⟩, by simpa [hol] using hsz, ?_, ?_, ?_⟩
                    · intro q hq; exact hth.1 q (by simp [hol] at hq; simpa using hq)
                    · rw [List.size_toArray, hol]
                      have := hov
                      rw [hf2.1] at this
                      simpa using this
                    · have e1 : ((over vs.toList old.length news.toList).toArray.toList).take (old ++ cs).length = vs.toList.take old.length ++ news.toList := by
                        unfold over
                        rw [List.toList_toArray, List.take_append_of_le_length (by simp [hf2.1.symm]; omega), List.take_of_length_le (by simp [hf2.1.symm]; omega)]
                      rw [e1]
                      exact (hv.append hf2).mono (grow_le _ har hml)
                    · intro q hq
                      rw [hmu]
                      refine hf q (hq.imp id (fun hh => by omega))
                  · refine .ref k 0 (len + m) (old ++ cs).length te.size cap _ hdm (by simp [Gh.grow]) (by rw [Nat.zero_add, hnl]; exact Nat.le_refl _) ⟨_, _, rfl⟩ fun _ => ⟨_, by simp; rfl, fun _ => by simp [Gh.grow]⟩
                · -- moved
                  have hrefd : VR G (.ref k 0 len) (.slice b len cap) := hs
                  obtain ⟨hlo, _, hfo⟩ := src_run (C := C) (g := g.2) hw.drew hH.drew (p := .ref k 0 len) (size := te.size) (m := len) (cs := old) hrefd (by simp [srcCells, hro])
                  obtain ⟨oldv, ho1, ho2⟩ := hfo len (Nat.le_refl _)
                  rw [List.take_of_length_le (by omega)] at ho2
                  obtain ⟨newCap, hnc, rest, hrest, hrun⟩ := append_grow_run (sLen := len) (sCap := cap) (b := b) (r := o.type) (olds := oldv) hti hd htx hnx hte hz hzl hb0 hl1 hf1d ho1 (by omega) hmax
                  have hboth := ho2.append hf2d
                  have hbl : (oldv.toList ++ newsd.toList).length = (len + m) * te.size := by rw [hboth.1, hnl]
                  have hvl : (oldv.toList ++ newsd.toList ++ rest.toList).length = newCap * te.size := by
                    have h2 : newCap * te.size = (len + m) * te.size + (newCap - (len + m)) * te.size := by rw [← Nat.add_mul]; congr 1; omega
                    have h3 : rest.toList.length = (newCap - (len + m)) * te.size := by simpa using hrest
                    rw [List.length_append, h3, hbl, h2]
                  have hst := move_step (w := w.drew) (c' := newCap) hw.drew har hml (.cells (oldv ++ newsd ++ rest) elem) (fun _ => False)
                  refine OpOk.of_value (hexec _ _ hrun) (((drew_step hw (fun _ => False) (fun _ => False)).trans hst).mono (fun q _ hq => by simpa using hq) (fun _ hq => by simp at hq)) ?_ ?_
                  · intro k' ob hm
                    simp at hm
                    obtain ⟨rfl, rfl⟩ := hm
                    have hmu : (G.grow k' w.drew.heap.size ((old ++ cs).length, te.size, newCap)).mu k' = w.drew.heap.size := by simp [Gh.grow]
                    have harr : (oldv ++ newsd ++ rest).toList = oldv.toList ++ newsd.toList ++ rest.toList := by simp
                    refine ⟨hdm, hpos, newCap, oldv ++ newsd ++ rest, elem, (0, 0), by simp [Gh.grow], by rw [hmu]; exact pushed_new _ _, ⟨fun q _ hq => by omega, hg1.symm⟩, by rw [← Array.length_toList, harr]; exact hvl, by have h9 := hboth.1; rw [← Array.length_toList, harr]; simp only [List.length_append] at h9 ⊢; omega, ?_, ?_⟩
                    · rw [harr, List.take_append_of_le_length (by rw [hboth.1]; exact Nat.le_refl _), List.take_of_length_le (by rw [hboth.1]; exact Nat.le_refl _)]
                      exact hboth.mono (grow_le _ har hml)
                    · intro q _
                      rw [hmu]
                      exact hw.drew.F_new q
                  · refine .ref k 0 (len + m) (old ++ cs).length te.size newCap _ hdm (by simp [Gh.grow]) (by rw [Nat.zero_add, hnl]; exact Nat.le_refl _) ⟨_, _, rfl⟩ fun _ => ⟨_, by simp; rfl, fun _ => by simp [Gh.grow]⟩
              · simp at h
            · simp at h
          · simp at h
      · simp at h
  · simp at h

end
end Go.Abs

namespace Go.Abs
open Go

section
variable {C : Cfg} {f : FuncId} {nm : Nm} {H : Heap} {slots : List TV} {a : Act} {w : World} {G : Gh} {v : TV}

theorem makeSliceT_ok {o : Oper} {t : TypeId} {pl pc : Operand} {l c : TV} {u : List (Nm × AObj)} (hw : WF G w) (hn : ¬ G.dom nm) (ho : o.op = .makeSlice t pl pc) (hl : VR G l (a.eval pl)) (hc : VR G c (a.eval pc))
    (h : makeSliceT C.P nm t l c = some (v, u)) : OpOk C.P nm o a w G v u := by
  unfold makeSliceT at h
  cases ht : tyOf C.P t <;> cases hli : toIndex l <;> cases hci : toIndex c <;> simp only [ht, hli, hci, reduceCtorEq] at h
  rename_i ti ln cn
  obtain ⟨kl, hlv⟩ := toIndex_VR hl hli
  obtain ⟨kc, hcv⟩ := toIndex_VR hc hci
  obtain ⟨_, _, hu, _⟩ := tyOf_info ht
  split at h
  · rename_i elem hd
    rw [hd] at hu
    have hu' := underlying_run hu w
    cases hte : tyOf C.P elem <;> simp only [hte, reduceCtorEq] at h
    rename_i te
    obtain ⟨i, hi, _, _, hbytes, _⟩ := tyOf_info hte
    have hti' := typeInfo_run hi w
    cases hz : te.zero <;> simp only [hz, reduceCtorEq] at h
    rename_i z
    split at h
    · rename_i hg
      obtain ⟨h1, h2, h3, h4, h5, h6⟩ := hg
      simp at h
      obtain ⟨rfl, rfl⟩ := h
      obtain ⟨zv, hz1, hz2⟩ := zeroValue_run hte hz w G
      have hr := reps_VRs hz2 (zero_ne hte hz) cn te.size h5 h4
      have hsz : zv.cells.size = te.size := by have := (hz2.cells (zero_ne hte hz)).1; simp at this; omega
      have hwrap : ∀ n : Nat, n ≤ maxBytes → IntKind.i64.wrap (n : Int) = n := by
        intro n hn
        unfold maxBytes at hn
        exact Go.IntWalk.i64_in _ (by omega)
      have hcb : ((cn : Int) * (te.bytes : Int) : Int) ≤ 70368744177664 := by
        have : ((cn * te.bytes : Nat) : Int) ≤ 70368744177664 := by unfold maxBytes at h2; omega
        simpa using this
      let cells := ((Array.range (cn * te.size)).map (zv.cells[· % zv.cells.size]!))
      have hrun : (execOp a.eval o).run C.P w = .ok (.value (.slice (some ⟨w.heap.size, 0, none⟩) ln cn)) (World.pushed w (.cells cells elem)) := by
        have hb : ¬ ((te.bytes : Int) * (cn : Int) > 281474976710656) := by rw [Int.mul_comm]; omega
        have hroom : ¬ (cn * te.bytes > 140737488355328) := by unfold maxBytes at h2; omega
        have e1 : IntKind.i64.wrap (ln : Int) = ln := hwrap ln (by omega)
        have e2 : IntKind.i64.wrap (cn : Int) = cn := hwrap cn h3
        have hb' : ¬ (281474976710656 < (i.bytes : Int) * (cn : Int)) := by rw [hbytes]; exact hb
        have hc1 : ¬ ((cn : Int) < 0) := by omega
        have hc2 : ¬ ((ln : Int) < 0) := by omega
        have hc3 : ¬ (cn < ln) := by omega
        have hroom' : ¬ (cn * i.bytes > 2 ^ 47) := by rw [hbytes]; exact hroom
        simp only [execOp, ho, hlv, hcv, Instr.makeSlice]
        by_cases h0 : cn * te.size = 0
        · have e : ((Array.range (cn * te.size)).map fun _ => (default : Value)) = cells := by simp only [cells]; rw [h0]; simp
          simp [hu', asInt, asIntOf, hti', e1, e2, sizeOf_run hte w, newRow_run, askRoom, roomBytes, hb', hc1, hc2, hc3, hroom', h0]
          rw [← e, h0]
          rfl
        · simp [hu', asInt, asIntOf, hti', e1, e2, sizeOf_run hte w, newRow_run, askRoom, roomBytes, hb', hc1, hc2, hc3, hroom', h0, hz1]
          rfl
      have hadd := add_arr (nm := nm) (b := te.agg) (cap := cn) (cs := reps ln z.cells) hw hn h4 (vs := cells.toList) (by
        have hlen : (reps ln z.cells).length = ln * te.size := by rw [reps_length, h5]
        refine ⟨?_, fun j x y hx hy => ?_⟩
        · have := hr.1
          rw [List.length_take, this, reps_length, reps_length, h5]
          have : ln * te.size ≤ cn * te.size := Nat.mul_le_mul_right _ h1
          omega
        · have hjl : j < ln * te.size := by have := (List.getElem?_eq_some_iff.1 hx).1; omega
          have hjc : j < cn * te.size := Nat.lt_of_lt_of_le hjl (Nat.mul_le_mul_right _ h1)
          rw [List.getElem?_take, if_pos (by omega)] at hy
          refine hr.2 j x y ?_ hy
          rw [reps_get (by rw [h5]; exact hjc), ← reps_get (n := ln) (by rw [h5]; exact hjl)]
          exact hx) (by have := hr.1; rw [this, reps_length, h5]) (by
            have := hr.1
            rw [this, reps_length, reps_length]
            exact Nat.mul_le_mul_right _ h1) elem
      rw [Array.toArray_toList] at hadd
      refine OpOk.of_value hrun (add_step hw hn _ (some ((reps ln z.cells).length, te.size, cn)) _) ?_ ?_
      · intro k ob hm
        simp at hm
        obtain ⟨rfl, rfl⟩ := hm
        exact hadd
      · exact add_ref (by rw [reps_length, h5]) hn
    · simp at h
  · simp at h


/-! ### copy -/
theorem copyT_ok {o : Oper} {args : Array Operand} {ats : Array TypeId} {dt xt : TypeId} {d x : TV} {u : List (Nm × AObj)} (hw : WF G w) (hH : HR G w H) (ho : o.op = .call { callee := .builtin .copy, args, argTypes := ats })
    (hat : ats.toList = [dt, xt]) (hargs : VRs G [d, x] (args.map a.eval).toList) (h : copyT C.P H dt d x = some (v, u)) : OpOk C.P nm o a w G v u := by
  have hats : ats = #[dt, xt] := by rw [← Array.toArray_toList (xs := ats), hat]
  obtain ⟨dv, rest, he1, hd', hrest⟩ := hargs.uncons
  obtain ⟨xv, rest2, he2, hx, hrest2⟩ := hrest.uncons
  have hr2 : rest2 = [] := by have := hrest2.1; simpa using this
  subst hr2
  subst he2
  have hav : args.map a.eval = #[dv, xv] := by rw [← Array.toArray_toList (xs := args.map a.eval), he1]
  have hexec : ∀ r w', (Builtin.copy_ #[dt, xt] o.type #[dv, xv]).run C.P w = .ok r w' → (execOp a.eval o).run C.P w = .ok (.value r) w' := fun r w' hr => by
    rw [← hats, ← hav] at hr
    simp [execOp, ho, resolve, invoke, builtin, hr]
  clear hrest2 hrest he1 hav hat
  unfold copyT at h
  cases hti : tyOf C.P dt <;> simp only [hti, reduceCtorEq] at h
  rename_i ti
  obtain ⟨_, _, hu, _⟩ := tyOf_info hti
  split at h
  · rename_i elem hd
    rw [hd] at hu
    have hu' := underlying_run hu w
    cases hte : tyOf C.P elem <;> simp only [hte, reduceCtorEq] at h
    rename_i te
    have hsz := sizeOf_run hte w
    split at h
    · rename_i r hsrc
      simp at h
      obtain ⟨rfl, rfl⟩ := h
      obtain ⟨m, cs⟩ := r
      obtain ⟨hl1, hcl, hfc⟩ := src_run (C := C) hw hH hx hsrc
      obtain ⟨us, hf1, _⟩ := hfc 0 (by omega)
      cases hd'
      refine OpOk.quiet hw (hexec (.int .i64 0) w ?_) (.t _ _ (.int _ _))
      simp [Builtin.copy_, hu', hl1, hsz, hf1, goInt]
    · rename_i k off len m cs hsrc
      split at h
      · rename_i g e old hro
        split at h <;> simp at h
        rename_i hc
        obtain ⟨hes, hlf⟩ := hc
        subst hes
        obtain ⟨rfl, rfl⟩ := h
        obtain ⟨hl1, hcl, hfc⟩ := src_run (C := C) hw hH hx hsrc
        obtain ⟨us, hf1, hf2⟩ := hfc (min m len) (Nat.min_le_left _ _)
        obtain ⟨hk, hpos, htip⟩ := refOk_some hro
        obtain ⟨cap, vs, ty, fr, b, hdm, har, hhp, hth, hsz2, hlc, hv, hf, rfl, hcap, hb⟩ := ref_at hH hro hd'
        have hml : (off + len) * te.size = off * te.size + len * te.size := Nat.add_mul _ _ _
        have hmin : min m len * te.size ≤ len * te.size := Nat.mul_le_mul_right _ (Nat.min_le_right _ _)
        have hmin2 : min m len * te.size ≤ cs.length := by rw [hcl]; exact Nat.mul_le_mul_right _ (Nat.min_le_left _ _)
        have hul : us.toList.length = min m len * te.size := by rw [hf2.1, List.length_take]; omega
        have hov : off * te.size + us.toList.length ≤ vs.toList.length := by rw [hul]; simp; omega
        have hones := leaf_all hf2 (List.all_eq_true.2 fun y hy => List.all_eq_true.1 hlf y (List.mem_of_mem_take hy))
        have hst := storeCells_run (P := C.P) (b := G.mu k) (o := off * te.size) (ty := ty) (fr := fr) us.toList w 0 vs.toList hones (by simpa using hhp) (by simpa using hth.1) (by simpa using hov)
        simp only [Nat.add_zero] at hst
        have s1 := cells_step (vs := over vs.toList (off * te.size) us.toList) hw hdm hhp (fun q ⟨uu, hq⟩ => by rw [hf q (.inl rfl)] at hq; simp at hq)
        have hol : (over vs.toList (off * te.size) us.toList).length = vs.toList.length := over_length hov
        have hrun : (Builtin.copy_ #[dt, xt] o.type #[.slice b len (cap - off), xv]).run C.P w = .ok (.int .i64 ((min m len : Nat) : Int)) (World.withCells w (G.mu k) (over vs.toList (off * te.size) us.toList).toArray ty fr) := by
          have hmn : Nat.min m len = min m len := rfl
          have hf1' : (Builtin.firstCells te.size (Nat.min m len) xv).run C.P w = .ok us w := hf1
          cases b with
          | none =>
            have h0 : off = cap := by
              rcases Nat.lt_or_ge off cap with h | h
              · have := hb h; simp at this
              · omega
            have hlen0 : len = 0 := by omega
            subst hlen0
            have hus : us.toList = [] := by apply List.length_eq_zero_iff.1; rw [hul]; simp
            rw [hus, over_nil, Array.toArray_toList, withCells_self hhp]
            have hf0 : (Builtin.firstCells te.size 0 xv).run C.P w = .ok us w := by simpa using hf1
            simp [Builtin.copy_, hu', hl1, hsz, hf0, goInt]
          | some ad =>
            by_cases hlt : off < cap
            · have := hb hlt
              simp at this
              subst this
              simp [Builtin.copy_, hu', hl1, hsz, hf1', hst, goInt]
            · have hlen0 : len = 0 := by omega
              subst hlen0
              have hus : us.toList = [] := by apply List.length_eq_zero_iff.1; rw [hul]; simp
              have hus2 : us = #[] := by rw [← Array.toArray_toList (xs := us), hus]
              rw [hus, over_nil, Array.toArray_toList, withCells_self hhp]
              have hf0 : (Builtin.firstCells te.size 0 xv).run C.P w = .ok #[] w := by rw [← hus2]; simpa using hf1
              simp [Builtin.copy_, hu', hl1, hsz, hf0, storeCells, goInt]
        refine OpOk.of_value (hexec _ _ hrun) (s1.mono (fun x _ e => by simp [e]) (fun _ e => e.elim)) ?_ (.t _ _ (.int _ _))
        intro k' ob hm
        simp at hm
        obtain ⟨rfl, rfl⟩ := hm
        have htl : (cs.take (min m len * te.size)).length = min m len * te.size := by rw [List.length_take]; omega
        have hsl : (setRange old (off * te.size) (cs.take (min m len * te.size))).length = old.length := setRange_length (by rw [htl]; omega)
        refine ⟨hdm, hpos, cap, (over vs.toList (off * te.size) us.toList).toArray, ty, fr, by rw [hsl]; exact har, withCells_heap (hw.lt _ hdm) _ _ _, ⟨?_, hth.2⟩, by simpa [hol] using hsz2, by rw [hsl, List.size_toArray, hol]; simpa using hlc, ?_, fun o _ => hf o (.inl rfl)⟩
        · intro o ho'
          exact hth.1 o (by simp [hol] at ho'; simpa using ho')
        · rw [hsl, List.toList_toArray, over_take (by rw [hul]; omega) (by simpa using hlc)]
          exact hv.setRange hf2
      · simp at h
    · simp at h
  · simp at h

end
end Go.Abs

namespace Go.Abs
open Go

section
variable {C : Cfg} {f : FuncId} {nm : Nm} {H : Heap} {slots : List TV} {a : Act} {w : World} {G : Gh} {v : TV}

theorem bytesOf_some : ∀ {cs : List TV} {bs : List UInt8} {us : List Value}, bytesOf cs = some bs → VRs G cs us → ∃ ns : List Int, us = ns.map (Value.int .u8) ∧ bs = ns.map fun n => UInt8.ofNat n.toNat := by
  intro cs
  induction cs with
  | nil => intro bs us h hv; simp [bytesOf] at h; subst h; have := hv.1; simp at this; subst this; exact ⟨[], rfl, rfl⟩
  | cons c r ih =>
    intro bs us h hv
    obtain ⟨u, us', rfl, h1, h2⟩ := hv.uncons
    unfold bytesOf at h
    split at h
    · rename_i heq; simp at heq
    · rename_i n r' heq
      simp at heq
      obtain ⟨rfl, rfl⟩ := heq
      cases hb : bytesOf r with
      | none => rw [hb] at h; simp at h
      | some bs' =>
        rw [hb] at h
        simp at h
        subst h
        obtain ⟨ns, e1, e2⟩ := ih hb h2
        have := h1.int
        subst this
        exact ⟨n :: ns, by simp [e1], by simp [e2]⟩
    · simp at h

theorem foldl_push (ns : List Int) : ∀ (s : ByteArray), (ns.foldl (fun (r : ByteArray) (n : Int) => r.push (UInt8.ofNat n.toNat)) s).data.toList = s.data.toList ++ ns.map fun n => UInt8.ofNat n.toNat := by
  induction ns with
  | nil => intro s; simp
  | cons n r ih =>
    intro s
    simp only [List.foldl_cons]
    rw [ih]
    simp [ByteArray.push]

/-- a byte's value -/
abbrev byteV (b : UInt8) : Value := Value.int .u8 (b.toNat : Int)
/-- the cells of a string's bytes in a row of so many places -/
def bytesRow (s : List UInt8) (cap : Nat) : List Value := s.map byteV ++ List.replicate (cap - s.length) (Value.int .u8 0)

theorem bytesRow_length {s : List UInt8} {cap : Nat} (h : s.length ≤ cap) : (bytesRow s cap).length = cap := by
  unfold bytesRow; simp; omega

theorem strBytes_VTs (F : Froz) (s : List UInt8) : VTs F (s.map fun b => Tree.int .u8 (b.toNat : Int)) (s.map byteV) := by
  refine ⟨by simp, fun j c u h1 h2 => ?_⟩
  rw [List.getElem?_map] at h1 h2
  cases hj : s[j]? with
  | none => rw [hj] at h1; simp at h1
  | some b => rw [hj] at h1 h2; simp at h1 h2; subst h1; subst h2; exact .int _ _

/-- a string's bytes in a new row -/
theorem stringToBytes_run (s : List UInt8) (elem : TypeId) :
    ∃ cap, s.length ≤ cap ∧ (Conv.stringToBytes elem ⟨s.toArray⟩).run C.P w = .ok (.slice (some ⟨w.heap.size, 0, none⟩) s.length cap)
      (World.pushed w.drew (.cells (bytesRow s cap).toArray elem (cap, cap + 1))) := by
  refine ⟨(Question.appendCap s.length 0 elem).cut (w.tape w.drawn (Question.appendCap s.length 0 elem)), ?_, ?_⟩
  · show s.length ≤ s.length + _
    omega
  · have hq : (Question.appendCap s.length 0 elem).forced = false := rfl
    have hsz : (ByteArray.mk s.toArray).size = s.length := by show s.toArray.size = _; simp
    have hcap : s.length ≤ (Question.appendCap s.length 0 elem).cut (w.tape w.drawn (Question.appendCap s.length 0 elem)) := by
      show s.length ≤ s.length + _
      omega
    generalize hc : (Question.appendCap s.length 0 elem).cut (w.tape w.drawn (Question.appendCap s.length 0 elem)) = cap at hcap ⊢
    simp only [Conv.stringToBytes, hsz, markStringish]
    simp only [Sem.run_bind]
    have h1 : (choose (Question.appendCap s.length 0 elem)).run C.P w = .ok cap w.drew := by
      rw [← hc]
      unfold choose
      simp only [Sem.run, hq]
      rfl
    rw [h1]
    simp only [Result.andThen_ok, newRow_run]
    have harr : ((ByteArray.mk s.toArray).data.map fun b => Value.int .u8 (b.toNat : Int)) ++ Array.replicate (cap - s.length) (Value.int .u8 0) = (bytesRow s cap).toArray := by
      simp [bytesRow]
    rw [harr]
    have hvl := bytesRow_length hcap
    generalize bytesRow s cap = vs at hvl ⊢
    have hnew : ({ w.drew with heap := w.drew.heap.push (.cells vs.toArray elem) } : World).heap[w.drew.heap.size]? = some (.cells vs.toArray elem) := pushed_new w.drew _
    have hshape : ({ w.drew with heap := w.drew.heap.push (.cells vs.toArray elem) } : World).shape? w.drew.heap.size = some (elem, vs.length) := by
      unfold World.shape?
      rw [hnew]
      simp
    simp only [Sem.run_bind, shape, Sem.run, hshape, Result.andThen_ok]
    have hfr : ({ w.drew with heap := w.drew.heap.push (.cells vs.toArray elem) } : World).freeze { block := w.drew.heap.size, off := vs.length } 1 = World.pushed w.drew (.cells vs.toArray elem (cap, cap + 1)) := by
      unfold World.freeze World.pushed
      rw [if_neg (by omega)]
      congr 1
      apply Array.ext_getElem?
      intro i
      rw [Array.getElem?_modify]
      by_cases e : w.drew.heap.size = i
      · subst e
        rw [if_pos rfl, hnew, Array.getElem?_push, if_pos rfl]
        simp [hvl]
      · rw [if_neg e]
        show (w.drew.heap.push _)[i]? = _
        rw [Array.getElem?_push, Array.getElem?_push]
        rw [if_neg (fun h => e h.symm), if_neg (fun h => e h.symm)]
    simp only [freeze, Sem.run, hfr]
    rfl

theorem convertT_ok {o : Oper} {as : Bool} {src dst : TypeId} {px : Operand} {p : TV} {u : List (Nm × AObj)} (hw : WF G w) (hH : HR G w H) (hn : ¬ G.dom nm) (ho : o.op = .convert src dst px) (hp : VR G p (a.eval px))
    (h : convertT C.P as nm H src dst p = some (v, u)) : OpOk C.P nm o a w G v u := by
  have hexec : ∀ r w', (convert src dst (a.eval px)).run C.P w = .ok r w' → (execOp a.eval o).run C.P w = .ok (.value r) w' := by
    intro r w' hr
    simp [execOp, ho, hr]
  unfold convertT at h
  cases hs : tyOf C.P src <;> cases hd : tyOf C.P dst <;> simp only [hs, hd, reduceCtorEq] at h
  rename_i ts td
  obtain ⟨_, _, hus, _⟩ := tyOf_info hs
  obtain ⟨_, _, hud, _⟩ := tyOf_info hd
  split at h
  · rename_i s h1 h2
    simp at h
    obtain ⟨rfl, rfl⟩ := h
    rw [h1] at hus; rw [h2] at hud
    have hx := hp.str
    have us := underlying_run hus w
    have ud := underlying_run hud w
    refine OpOk.quiet hw (hexec (a.eval px) w ?_) hp
    rw [hx]
    simp [convert, us, ud]
  · rename_i e s h1 h2
    rw [h1] at hus; rw [h2] at hud
    have hx := hp.str
    have us := underlying_run hus w
    have ud := underlying_run hud w
    cases he : tyOf C.P e <;> simp only [he, reduceCtorEq] at h
    rename_i te
    obtain ⟨_, _, hue, _⟩ := tyOf_info he
    split at h
    · rename_i hde
      rw [hde] at hue
      have ue := underlying_run hue w
      obtain ⟨cap, hcap, hrun⟩ := stringToBytes_run (C := C) (w := w) s e
      have hconv : (convert src dst (a.eval px)).run C.P w = .ok (.slice (some ⟨w.heap.size, 0, none⟩) s.length cap) (World.pushed w.drew (.cells (bytesRow s cap).toArray e (cap, cap + 1))) := by
        rw [hx]
        simp [convert, us, ud, ue, hrun]
      have hvt := strBytes_VTs G.F s
      split at h
      · simp at h
        obtain ⟨rfl, rfl⟩ := h
        have hpre : (List.take (s.map fun b => TV.t (Tree.int .u8 (b.toNat : Int))).length (bytesRow s cap)) = s.map byteV := by
          unfold bytesRow
          rw [List.take_append_of_le_length (by simp), List.take_of_length_le (by simp)]
        have hbl := bytesRow_length hcap
        have hadd := add_arrF (nm := nm) (b := false) (esz := 1) (cap := cap) (w := w.drew) hw.drew hn (by omega) (cs := s.map fun b => TV.t (Tree.int .u8 (b.toNat : Int))) (vs := bytesRow s cap) (by rw [hpre]; have := hvt.toVRs; simpa [List.map_map, Function.comp_def] using this) (by omega) (by simp; omega) e (cap, cap + 1) (fun o ho hh => by rw [List.size_toArray, hbl] at ho; omega)
        refine OpOk.of_value (hexec _ _ hconv) (((drew_step hw (fun _ => False) (fun _ => False)).trans (add_step (w := w.drew) hw.drew hn _ (some ((s.map fun b => TV.t (Tree.int .u8 (b.toNat : Int))).length, 1, cap)) (fun _ => False))).mono (fun _ _ hh => by simp at hh) (fun _ hh => by simpa using hh)) ?_ ?_
        · intro k ob hm
          simp at hm
          obtain ⟨rfl, rfl⟩ := hm
          simpa using hadd
        · exact add_ref (w := w.drew) (nm := nm) (esz := 1) (cap := cap) (len := s.length) (by simp) hn
      · simp at h
        obtain ⟨rfl, rfl⟩ := h
        have hch : chunk false 1 s.length (s.map fun b => Tree.int .u8 (b.toNat : Int)) = some (s.map fun b => Tree.int .u8 (b.toNat : Int)) := by
          clear hx hp hrun hconv hvt hcap hexec
          induction s with
          | nil => rfl
          | cons b r ih => simp [chunk, ih, Tree.leaf]
        have hr := row_VT (w := w.drew) hw.drew hvt hch cap hcap (bytesRow s cap) (fun j u hj => by
          unfold bytesRow; rw [List.getElem?_append_left (by exact (List.getElem?_eq_some_iff.1 hj).1)]; exact hj)
        refine OpOk.of_value (hexec _ _ hconv) (((drew_step hw (fun _ => False) (fun _ => False)).trans (row_step (w := w.drew) hw.drew _ e (fun _ => False) (fun _ => False) (cap, cap + 1))).mono (fun _ _ hh => by simp at hh) (fun _ hh => by simp at hh)) (fun _ _ hm => by simp at hm) (.t _ _ hr)
    · simp at h
  · rename_i e h1 h2
    rw [h1] at hus; rw [h2] at hud
    have us := underlying_run hus w
    have ud := underlying_run hud w
    cases he : tyOf C.P e <;> simp only [he, reduceCtorEq] at h
    rename_i te
    obtain ⟨_, _, hue, _⟩ := tyOf_info he
    split at h
    · rename_i m cs hde hsrc
      rw [hde] at hue
      have ue := underlying_run hue w
      cases hb : bytesOf cs <;> simp only [hb, reduceCtorEq] at h
      rename_i bs
      obtain ⟨hl1, hcl, hfc⟩ := src_run (C := C) hw hH hp hsrc
      obtain ⟨us', hf1, hf2⟩ := hfc m (Nat.le_refl _)
      rw [List.take_of_length_le (by omega)] at hf2
      obtain ⟨ns, e1, e2⟩ := bytesOf_some hb hf2
      have hns : us' = (ns.map (Value.int .u8)).toArray := by rw [← Array.toArray_toList (xs := us'), e1]
      split at h
      · simp at h
      · rename_i hnstr
        simp at h
        obtain ⟨rfl, rfl⟩ := h
        have hslice : ∃ b l c, a.eval px = .slice b l c := by
          unfold srcCells at hsrc
          split at hsrc
          · generalize a.eval px = xv at hp; cases hp; exact ⟨_, _, _, rfl⟩
          · have := hp.tree; generalize a.eval px = xv at this; cases this <;> exact ⟨_, _, _, rfl⟩
          · generalize a.eval px = xv at hp; cases hp; exact ⟨_, _, _, rfl⟩
          · rename_i k off len
            split at hsrc
            · rename_i hro
              obtain ⟨cap, vs, ty, fr, b, _, _, _, _, _, _, _, _, hx, _, _⟩ := ref_at hH hro hp
              exact ⟨_, _, _, hx⟩
            · simp at hsrc
          · exact absurd rfl (hnstr _)
          · simp at hsrc
        obtain ⟨b, l, c, hx⟩ := hslice
        rw [hx] at hl1 hf1
        have hlm : l = m := by simp [Builtin.lenOf] at hl1; exact hl1
        subst hlm
        have hout : (Conv.bytesToString (.slice b l c)).run C.P w = .ok (.string ⟨bs.toArray⟩) w := by
          cases b with
          | none =>
            simp [Builtin.firstCells] at hf1
            subst hf1
            have : ns = [] := by
              have := congrArg Array.size hns
              simp at this
              exact List.length_eq_zero_iff.1 this.symm
            subst this
            subst e2
            rfl
          | some ad =>
            simp only [Builtin.firstCells, Nat.mul_one] at hf1
            rw [hns] at hf1
            rw [run_bytesToString w ad l c ns hf1]
            congr 2
            apply Go.WideShapes.bytes_inj
            rw [foldl_push, e2]
            simp
        refine OpOk.quiet hw (hexec _ w ?_) (.t _ _ (.str bs))
        rw [hx, run_convert_bytes_string w src dst e b l c hus hue hud]
        exact hout
    · simp at h
  · rename_i k1 k2 k n h1 h2
    cases hr : pureRun C.P (convert src dst (.int k n)) <;> simp [hr] at h
    rename_i r
    obtain ⟨v', h3, rfl, rfl⟩ := h
    have hx := hp.int
    refine OpOk.quiet hw (hexec r w ?_) (valOf_VR h3)
    rw [hx]
    exact pureRun_run hr w
  · simp at h

/-! ### len, min, max -/
theorem builtin_exec {o : Oper} {b : Builtin} {args : Array Operand} {ats : Array TypeId} {w' : World} {r : Value} (ho : o.op = .call { callee := .builtin b, args, argTypes := ats })
    (h : ∀ cs, (builtin b ats o.type cs (args.map a.eval)).run C.P w = .ok (.value r) w') : (execOp a.eval o).run C.P w = .ok (.value r) w' := by
  simp only [execOp, ho, resolve]
  simp [invoke, h]

theorem foldlM_ints {k : IntKind} {g : Int → Int → Int} {s : Value → Value → Sem Value} (hg : ∀ x y k', s (.int k x) (.int k' y) = pure (.int k (g x y))) : ∀ (ys : List Int) (x : Int), ((ys.map (Value.int k)).foldlM s (.int k x)).run C.P w = .ok (.int k (ys.foldl g x)) w := by
  intro ys
  induction ys with
  | nil => intro x; rfl
  | cons y r ih => intro x; simp only [List.map_cons, List.foldlM_cons, hg, pure_bind, List.foldl_cons]; exact ih _

theorem minmaxInts_some {k : IntKind} : ∀ {xs : List TV} {ys : List Int} {vs : List Value}, minmaxT.minmaxInts k xs = some ys → VRs G xs vs → vs = ys.map (Value.int k) := by
  intro xs
  induction xs with
  | nil => intro ys vs h hv; simp [minmaxT.minmaxInts] at h; subst h; have := hv.1; simpa using this
  | cons x r ih =>
    intro ys vs h hv
    obtain ⟨u, us, rfl, h1, h2⟩ := hv.uncons
    unfold minmaxT.minmaxInts at h
    split at h
    · rename_i heq; simp at heq
    · rename_i k' y r' heq
      simp at heq
      obtain ⟨rfl, rfl⟩ := heq
      cases hm : minmaxT.minmaxInts k r with
      | none => rw [hm] at h; simp at h
      | some zs =>
        rw [hm] at h
        simp at h
        obtain ⟨rfl, rfl⟩ := h
        rw [ih hm h2, h1.int]; rfl
    · simp at h

theorem minmaxT_run {mx : Bool} {args : List TV} {vs : Array Value} {ats : Array TypeId} {t : TypeId} (hv : VRs G args vs.toList) (h : minmaxT mx args = some v) (w : World) :
    ∃ r, (if mx then Builtin.max_ ats t vs else Builtin.min_ ats t vs).run C.P w = .ok r w ∧ VR G v r := by
  unfold minmaxT at h
  split at h
  · rename_i k x r
    cases hm : minmaxT.minmaxInts k r <;> simp [hm] at h
    rename_i ys
    subst h
    obtain ⟨u, us, he, h1, h2⟩ := hv.uncons
    have e1 := h1.int
    have e2 := minmaxInts_some hm h2
    refine ⟨_, ?_, .t _ _ (.int _ _)⟩
    cases mx
    · simp only [Bool.false_eq_true, if_false, Builtin.min_, he, e1, e2]
      rw [foldlM_ints (g := fun x y => if y < x then y else x) (fun x y k' => rfl)]
    · simp only [if_true, Builtin.max_, he, e1, e2]
      rw [foldlM_ints (g := fun x y => if y > x then y else x) (fun x y k' => rfl)]
  · simp at h

end
end Go.Abs
