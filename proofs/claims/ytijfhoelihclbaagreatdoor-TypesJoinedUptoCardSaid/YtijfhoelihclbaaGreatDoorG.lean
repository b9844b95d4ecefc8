/- Summaries of functions whose code is not gone through: what they answer. -/
import Derived.Test.YtijfhoelihclbaaGreatDoorA
import Derived.Lib.Index
import Derived.Test.YtijfhoelihclbaaGreatDoorB
import Derived.Shelf.Abstract
import Derived.WalkKit
noncomputable section
namespace Go.Abs
open Go

abbrev Summary := CallF → List TV → List AObj → Option FRes

/-- a Builder tells that it was not copied; T: the type's number -/
def extCopy (T : TypeId) : Summary := fun _ args objs => match args, objs with
  | [.ptr (.arg 0) 0], (.cells ty [.t .nilptr, c1]) :: os => if ty = T then some (.ret (.t (.tup [])) (.cells ty [.ptr (.arg 0) 0, c1] :: os) []) else none
  | [.ptr (.arg 0) 0], (.cells ty [.ptr (.arg 0) 0, c1]) :: os => some (.ret (.t (.tup [])) (.cells ty [.ptr (.arg 0) 0, c1] :: os) [])
  | _, _ => none

def bytesTV : List TV → Option (List UInt8)
  | [] => some []
  | .t (.int .u8 (.ofNat m)) :: r => cond (Nat.blt m 256) ((bytesTV r).map (UInt8.ofNat m :: ·)) none
  | _ => none

/-- a Builder's text: its array is looked at no more; E: the bytes' type -/
def extString (E : TypeId) : Summary := fun _ args objs => match args, objs with
  | [.ptr (.arg 0) 0], (.cells _ [_, .nils]) :: _ => some (.ret (.t (.str [])) objs [])
  | [.ptr (.arg 0) 0], (.cells _ [_, .ref (.arg j) 0 len]) :: _ => match objs[j]? with
    | some (.arr g 1 _ cs) => if g.1 = E ∧ cs.length = len ∧ 0 < len ∧ len < 4294967296 then (bytesTV cs).map fun s => .ret (.t (.str s)) (objs.set j .dead) [] else none
    | _ => none
  | _, _ => none

def extIndex : Summary := fun _ args objs => match args with
  | [.t (.str s), .t (.str p)] => if s.length < 4294967281 then some (.ret (.t (.int .i64 (Lib.index s p))) objs []) else none
  | _ => none

def extIndexByte : Summary := fun _ args objs => match args with
  | [.t (.str s), .t (.int .u8 c)] => if s.length < 4294967281 then some (.ret (.t (.int .i64 (Lib.indexByte s (UInt8.ofNat c.toNat)))) objs []) else none
  | _ => none

def objOr (H : Heap) (i : Nat) : AObj := (H.get (.arg i)).getD .dead

def objsOr (H : Heap) : Nat → Nat → List AObj
  | _, 0 => []
  | i, n + 1 => objOr H i :: objsOr H (i + 1) n

def tryEnd (H : Heap) (n : Nat) (b : Bool) : Option FRes :=
  let os := objsOr H 0 n
  match reach H reachFuel [] (os.flatMap AObj.names) with
  | none => none
  | some R => (newsAt H R).map fun h => .ret (.t (.bool b)) os h

/-- where a function that is tried lays its answer -/
def tryNm : Nm := .loc [1]

def freeOf (u : Heap) (l : List Nm) : Bool := !(u.any fun p => decide (p.1 = tryNm)) && !(l.any fun k => decide (k = tryNm))

def bodied (C : Cfg) (f : FuncId) : Bool := match C.P.fn f with
  | some fn => fn.body.isSome && !(fn.name == "runtime.NumGoroutine")
  | none => false

/-- a reading is tried: one that panics with the right kind of value is false -/
def extTry (C : Cfg) (stop : TypeId) : Summary := fun ev args objs => match args with
  | [_, .fn (.func f) fs cs] =>
    if bodied C f = true then
      let H := argHeap 0 objs
      match callT ev H f (fs ++ cs) 0 with
      | some (.val _ u) => if freeOf u [] = true then tryEnd (H.puts u) objs.length true else none
      | some (.panic (.iface t _) u l) => if t = stop ∧ freeOf u l = true then tryEnd ((H.hide l).puts u) objs.length false else none
      | some (.panic (.t (.iface t _)) u l) => if t = stop ∧ freeOf u l = true then tryEnd ((H.hide l).puts u) objs.length false else none
      | _ => none
    else none
  | _ => none

/-- the words that the program asks for -/
def words1 : List (List UInt8) := [[66, 111, 111, 108], [76, 111, 110, 103], [83, 116, 114, 105, 110, 103], [83, 101, 116], [65, 99, 116, 105, 111, 110]]
def words2 : List (List UInt8) := [[116, 114, 117, 101], [102, 97, 108, 115, 101], [105, 102], [116, 104, 101, 110], [101, 108, 115, 101], [105, 110], [104, 97, 115], [105, 115], [108, 105, 107, 101], [112, 101, 114, 109, 105, 116], [102, 111, 114, 98, 105, 100], [119, 104, 101, 110], [117, 110, 108, 101, 115, 115], [112, 114, 105, 110, 99, 105, 112, 97, 108], [97, 99, 116, 105, 111, 110], [114, 101, 115, 111, 117, 114, 99, 101], [99, 111, 110, 116, 101, 120, 116], [101, 110, 116, 105, 116, 121], [97, 112, 112, 108, 105, 101, 115, 84, 111]]
def words3 : List (List UInt8) := [[38, 38], [124, 124], [61, 61], [33, 61], [60], [60, 61], [62], [62, 61], [105, 110], [43], [45], [42]]
def words4 : List (List UInt8) := [[99, 111, 110, 116, 97, 105, 110, 115], [99, 111, 110, 116, 97, 105, 110, 115, 65, 108, 108], [99, 111, 110, 116, 97, 105, 110, 115, 65, 110, 121]]
def text1 : List UInt8 := [66, 111, 111, 108, 32, 76, 111, 110, 103, 32, 83, 116, 114, 105, 110, 103, 32, 83, 101, 116, 32, 65, 99, 116, 105, 111, 110]
def text2 : List UInt8 := [116, 114, 117, 101, 32, 102, 97, 108, 115, 101, 32, 105, 102, 32, 116, 104, 101, 110, 32, 101, 108, 115, 101, 32, 105, 110, 32, 104, 97, 115, 32, 105, 115, 32, 108, 105, 107, 101, 32, 112, 101, 114, 109, 105, 116, 32, 102, 111, 114, 98, 105, 100, 32, 119, 104, 101, 110, 32, 117, 110, 108, 101, 115, 115, 32, 112, 114, 105, 110, 99, 105, 112, 97, 108, 32, 97, 99, 116, 105, 111, 110, 32, 114, 101, 115, 111, 117, 114, 99, 101, 32, 99, 111, 110, 116, 101, 120, 116, 32, 101, 110, 116, 105, 116, 121, 32, 97, 112, 112, 108, 105, 101, 115, 84, 111]
def text3 : List UInt8 := [38, 38, 32, 124, 124, 32, 61, 61, 32, 33, 61, 32, 60, 32, 60, 61, 32, 62, 32, 62, 61, 32, 105, 110, 32, 43, 32, 45, 32, 42]
def text4 : List UInt8 := [99, 111, 110, 116, 97, 105, 110, 115, 32, 99, 111, 110, 116, 97, 105, 110, 115, 65, 108, 108, 32, 99, 111, 110, 116, 97, 105, 110, 115, 65, 110, 121]
def wordsTab : List (List UInt8 × TV) := [(text1, .t (.sl (words1.map .str))), (text2, .t (.sl (words2.map .str))), (text3, .t (.sl (words3.map .str))), (text4, .t (.sl (words4.map .str)))]

def beqB : List UInt8 → List UInt8 → Bool
  | [], [] => true
  | a :: r, b :: t => cond (Nat.beq a.toNat b.toNat) (beqB r t) false
  | _, _ => false

def findB (s : List UInt8) : List (List UInt8 × TV) → Option TV
  | [] => none
  | (k, v) :: r => cond (beqB s k) (some v) (findB s r)

def extTab (tab : List (List UInt8 × TV)) : Summary := fun _ args objs => match args, objs with
  | [.t (.str s)], [] => match findB s tab with
    | some v => some (.ret v [] [])
    | none => none
  | _, _ => none

end Go.Abs
end

noncomputable section
namespace Go.Abs
open Go

/-- a summary of a function is right -/
def SumOk (C : Cfg) (g : FuncId) (s : Summary) : Prop := ∀ ev, CallOk C ev → ∀ args objs r, s ev args objs = some r → ∀ (G : Gh) (w : World) (vs : List Value), WF G w → GlobR C G → ArgDom G objs.length →
  HR G w (argHeap 0 objs) → VRs G args vs → CallsF C.P g vs.toArray w (retP G w objs.length r)

theorem extOk_of {C : Cfg} {X : Ext} (h : ∀ g s, X g = some s → SumOk C g s) : ExtOk C X := h

theorem argHeap_at : ∀ (os : List AObj) (i j : Nat) (o : AObj), os[j]? = some o → (argHeap i os).get (.arg (i + j)) = some o := by
  intro os
  induction os with
  | nil => intro i j o h; simp at h
  | cons x r ih =>
    intro i j o h
    cases j with
    | zero => simp at h; subst h; simp [argHeap, Heap.get]
    | succ j =>
      simp at h
      have := ih (i + 1) j o h
      have e : i + (j + 1) = i + 1 + j := by omega
      rw [e]
      simp only [argHeap, Heap.get]
      have hne : ¬ (Nm.arg i = Nm.arg (i + 1 + j)) := by intro he; injection he with he; omega
      first
        | rw [if_neg hne]; exact this
        | simpa [hne] using this

section
variable {C : Cfg} {g : FuncId} {G : Gh} {w : World} {vs : List Value}

/-- what stays as it is -/
theorem same_objs {objs : List AObj} (hH : HR G w (argHeap 0 objs)) : ∀ i o, objs[i]? = some o → G.dom (.arg i) ∧ OR G w (.arg i) o := by
  intro i o ho
  have := argHeap_at objs 0 i o ho
  rw [Nat.zero_add] at this
  exact hH _ _ this

/-- an answer that leaves all as it was -/
theorem ret_same {objs : List AObj} {x : TV} {v : Value} (hw : WF G w) (hH : HR G w (argHeap 0 objs)) (hx : VR G x v) : retP G w objs.length (.ret x objs []) (.returned v) w :=
  ⟨v, G, rfl, Step.refl hw _ _, rfl, same_objs hH, fun _ _ h => by simp at h, hx⟩

theorem VRs.only {x : TV} (h : VRs G [x] vs) : ∃ v, vs = [v] ∧ VR G x v := by
  obtain ⟨v, r, rfl, hv, hr⟩ := h.uncons
  have : r = [] := List.eq_nil_of_length_eq_zero (by simpa using hr.1)
  subst this
  exact ⟨v, rfl, hv⟩

theorem VRs.two {x y : TV} (h : VRs G [x, y] vs) : ∃ v u, vs = [v, u] ∧ VR G x v ∧ VR G y u := by
  obtain ⟨v, r, rfl, hv, hr⟩ := h.uncons
  obtain ⟨u, rfl, hu⟩ := hr.only
  exact ⟨v, u, rfl, hv, hu⟩

theorem VR.str_inv {s : List UInt8} {v : Value} (h : VR G (.t (.str s)) v) : v = .string ⟨s.toArray⟩ := by
  cases h with | t _ _ h => cases h; rfl
theorem VR.int_inv {k : IntKind} {n : Int} {v : Value} (h : VR G (.t (.int k n)) v) : v = .int k n := by
  cases h with | t _ _ h => cases h; rfl
theorem VR.nilptr_inv {v : Value} (h : VR G (.t .nilptr) v) : v = .pointer none := by
  cases h with | t _ _ h => cases h; rfl
theorem VR.nils_inv {v : Value} (h : VR G .nils v) : v = .slice none 0 0 := by
  cases h; rfl
theorem VR.ptr_inv {k : Nm} {o : Nat} {v : Value} (h : VR G (.ptr k o) v) : v = .pointer (some ⟨G.mu k, o, none⟩) ∧ G.dom k ∧ G.arr k = none := by
  cases h with | ptr _ _ hd hn => exact ⟨rfl, hd, hn⟩

/-! ### strings.Index and its like -/
theorem extIndex_ok {gm : Nat} {m : Int} (hgm : C.glob gm = some [.int .i64 m]) (hen : ∀ args w, (callFunc g args).run C.P.prog w = .ok (.enter g args) w)
    (hc : ∀ (s sub : ByteArray) (m : Int) (w : World), s.size < 4294967281 → w.cell? ⟨gm, 0, none⟩ = some (.int .i64 m) →
      Calls C.P.prog g #[.string s, .string sub] w fun e w' => e = .returned (.int .i64 (Lib.index s.data.toList sub.data.toList)) ∧ w' = w) : SumOk C g extIndex := by
  intro ev hev args objs r h G w vs hw hg had hH hv
  unfold extIndex at h
  split at h
  · rename_i s p
    split at h
    · rename_i hlt
      simp at h
      subst h
      obtain ⟨x, y, rfl, hx, hy⟩ := hv.two
      rw [hx.str_inv, hy.str_inv]
      obtain ⟨vals, h1, h2⟩ := hg gm _ hgm
      have e1 := h1 0 _ rfl
      have e2 := h2 0 _ rfl
      obtain ⟨us, ty, fr, hh, hu⟩ := hw.F _ _ _ e1
      have hcell : w.cell? ⟨gm, 0, none⟩ = some (.int .i64 m) := by
        rw [cell_of hh, show (0 : Nat) = 0 + 0 from rfl, hu]
        generalize vals 0 = v0 at e2
        cases e2
        rfl
      refine .inl ⟨hen _ _, (hc ⟨s.toArray⟩ ⟨p.toArray⟩ m w hlt hcell).mono ?_⟩
      rintro e w' ⟨rfl, rfl⟩
      exact ret_same hw hH (.t _ _ (.int _ _))
    · simp at h
  · simp at h

theorem extIndexByte_ok (hen : ∀ args w, (callFunc g args).run C.P.prog w = .ok (.enter g args) w)
    (hc : ∀ (s : ByteArray) (c : Int) (w : World), Calls C.P.prog g #[.string s, .int .u8 c] w fun e w' => e = .returned (.int .i64 (Lib.indexByte s.data.toList (UInt8.ofNat c.toNat))) ∧ w' = w) : SumOk C g extIndexByte := by
  intro ev hev args objs r h G w vs hw hg had hH hv
  unfold extIndexByte at h
  split at h
  · rename_i s c
    split at h
    · simp at h
      subst h
      obtain ⟨x, y, rfl, hx, hy⟩ := hv.two
      rw [hx.str_inv, hy.int_inv]
      refine .inl ⟨hen _ _, (hc ⟨s.toArray⟩ c w).mono ?_⟩
      rintro e w' ⟨rfl, rfl⟩
      exact ret_same hw hH (.t _ _ (.int _ _))
    · simp at h
  · simp at h

/-! ### what is known of a function at some arguments -/
theorem beqB_eq : ∀ {a b : List UInt8}, beqB a b = true → a = b
  | [], [], _ => rfl
  | [], _ :: _, h => by simp [beqB] at h
  | _ :: _, [], h => by simp [beqB] at h
  | a :: r, b :: t, h => by
      simp only [beqB] at h
      cases hn : Nat.beq a.toNat b.toNat with
      | false => rw [hn] at h; cases h
      | true =>
        rw [hn] at h
        have e : a = b := UInt8.toNat_inj.1 (Nat.eq_of_beq_eq_true hn)
        rw [e, beqB_eq (show beqB r t = true from h)]

theorem findB_some {s : List UInt8} {v : TV} : ∀ {tab : List (List UInt8 × TV)}, findB s tab = some v → (s, v) ∈ tab
  | [], h => by simp [findB] at h
  | (k, u) :: r, h => by
      simp only [findB] at h
      cases hb : beqB s k with
      | false => rw [hb] at h; exact List.mem_cons_of_mem _ (findB_some h)
      | true =>
        rw [hb] at h
        have e := beqB_eq hb
        subst e
        obtain rfl : u = v := by simpa using h
        exact List.mem_cons_self

theorem extTab_ok {tab : List (List UInt8 × TV)} {ev0 : CallF} (hev0 : CallOk C ev0) (h0 : ∀ p ∈ tab, ev0 g [.t (.str p.1)] [] = some (.ret p.2 [] [])) : SumOk C g (extTab tab) := by
  intro ev hev args objs r h G w vs hw hg had hH hv
  unfold extTab at h
  split at h
  · rename_i s
    split at h
    · rename_i v hf
      simp at h
      subst h
      exact hev0 g _ _ _ (h0 _ (findB_some hf)) G w vs hw hg had hH hv
    · simp at h
  · simp at h

/-! ### a Builder -/
/-- an object of two cells -/
theorem cells_two {k : Nm} {ty : TypeId} {a b : TV} (ho : OR G w k (.cells ty [a, b])) :
    G.arr k = none ∧ ∃ x y fr, w.heap[G.mu k]? = some (.cells #[x, y] ty fr) ∧ thawed #[x, y] fr ∧ VR G a x ∧ VR G b y ∧ ∀ o, G.F (G.mu k) o = none := by
  obtain ⟨ha, us, ty', fr, hh, ⟨hth, rfl⟩, hv, hF⟩ := ho
  obtain ⟨us⟩ := us
  obtain ⟨x, y, rfl, hx, hy⟩ := hv.two
  exact ⟨ha, x, y, fr, hh, hth, hx, hy, hF⟩

theorem thawed_frozen {us : Array Value} {ty : TypeId} {fr : Nat × Nat} {b o : Nat} (hh : w.heap[b]? = some (.cells us ty fr)) (ht : thawed us fr) (ho : o < us.size) : w.frozen? ⟨b, o, none⟩ = false := by
  rw [frozen_of hh]
  have := ht o ho
  simp only [Bool.and_eq_false_iff, decide_eq_false_iff_not]
  by_cases h1 : fr.1 ≤ o
  · right; exact fun h2 => this ⟨h1, h2⟩
  · left; exact h1

theorem extCopy_ok {T : TypeId} (hen : ∀ args w, (callFunc g args).run C.P.prog w = .ok (.enter g args) w)
    (hf : ∀ (b : Nat) (w : World), w.cell? ⟨b, 0, none⟩ = some (.pointer none) → w.shape? b = some (T, 2) → w.frozen? ⟨b, 0, none⟩ = false →
      Calls C.P.prog g #[.pointer (some ⟨b, 0, none⟩)] w fun e w' => e = .returned (.tuple #[]) ∧ w' = w.setCell ⟨b, 0, none⟩ (.pointer (some ⟨b, 0, none⟩)))
    (hu : ∀ (b : Nat) (w : World), w.cell? ⟨b, 0, none⟩ = some (.pointer (some ⟨b, 0, none⟩)) →
      Calls C.P.prog g #[.pointer (some ⟨b, 0, none⟩)] w fun e w' => e = .returned (.tuple #[]) ∧ w' = w) : SumOk C g (extCopy T) := by
  intro ev hev args objs r h G w vs hw hg had hH hv
  unfold extCopy at h
  split at h
  · rename_i ty c1 os
    split at h
    · rename_i hT
      subst hT
      simp at h
      subst h
      obtain ⟨x, rfl, hx⟩ := hv.only
      obtain ⟨rfl, hd, hn⟩ := hx.ptr_inv
      obtain ⟨_, ho⟩ := same_objs hH 0 _ rfl
      obtain ⟨ha, x, y, fr, hh, hth, hx0, hy0, hF⟩ := cells_two ho
      have := hx0.nilptr_inv
      subst this
      refine .inl ⟨hen _ _, (hf (G.mu (.arg 0)) w (by rw [cell_of hh]; rfl) (by simp [World.shape?, hh]) (thawed_frozen hh hth (by simp))).mono ?_⟩
      rintro e w' ⟨rfl, rfl⟩
      rw [heap_modify_cells hh]
      have hst := cells_step (vs := [.pointer (some ⟨G.mu (.arg 0), 0, none⟩), y]) hw hd hh (fun o ⟨u, hu⟩ => by rw [hF] at hu; simp at hu)
      refine ⟨_, G, rfl, hst.mono (fun _ _ _ => trivial) (fun _ h => h.elim), rfl, fun i o ho' => ?_, fun _ _ h => by simp at h, .t _ _ (.tup [] [] rfl (by simp))⟩
      cases i with
      | zero =>
        simp at ho'
        subst ho'
        refine ⟨hd, ha, #[.pointer (some ⟨G.mu (.arg 0), 0, none⟩), y], _, fr, withCells_heap (hw.lt _ hd) _ _ _, ⟨?_, rfl⟩, ?_, hF⟩
        · intro o ho2; exact hth o (by simpa using ho2)
        · exact VRs.cons hx (VRs.cons hy0 (VRs.nil G))
      | succ i =>
        obtain ⟨hd', ho2⟩ := same_objs hH (i + 1) o (by simpa using ho')
        refine ⟨hd', hst.keeps hw hd' ?_ ho2⟩
        intro e; injection e with e; omega
    · simp at h
  · rename_i ty c1 os
    simp at h
    subst h
    obtain ⟨x, rfl, hx⟩ := hv.only
    obtain ⟨rfl, hd, hn⟩ := hx.ptr_inv
    obtain ⟨_, ho⟩ := same_objs hH 0 _ rfl
    obtain ⟨ha, x, y, fr, hh, hth, hx0, hy0, hF⟩ := cells_two ho
    obtain ⟨rfl, _, _⟩ := hx0.ptr_inv
    refine .inl ⟨hen _ _, (hu (G.mu (.arg 0)) w (by rw [cell_of hh]; rfl)).mono ?_⟩
    rintro e w' ⟨rfl, rfl⟩
    exact ret_same hw hH (.t _ _ (.tup [] [] rfl (by simp)))
  · simp at h

theorem bytesTV_cells : ∀ {cs : List TV} {l : List UInt8} {us : List Value}, bytesTV cs = some l → VRs G cs us → l.length = cs.length ∧ ∀ (j : Nat) x, l[j]? = some x → us[j]? = some (.int .u8 x.toNat)
  | [], l, us, h, hv => by simp [bytesTV] at h; subst h; simp
  | c :: cs, l, us, h, hv => by
      unfold bytesTV at h
      split at h
      · cases ‹c :: cs = []›
      · rename_i m r he
        injection he with h1 h2
        subst h1; subst h2
        cases hm : Nat.blt m 256 with
        | false => rw [hm] at h; cases h
        | true =>
          rw [hm] at h
          cases hb : bytesTV cs with
          | none => rw [hb] at h; cases h
          | some l' =>
            rw [hb] at h
            simp at h
            subst h
            obtain ⟨v, vs', rfl, hx, hr⟩ := hv.uncons
            obtain ⟨e1, e2⟩ := bytesTV_cells hb hr
            have hlt : m < 256 := by simpa [Nat.blt_eq] using hm
            refine ⟨by simp [e1], fun j x hj => ?_⟩
            cases j with
            | zero =>
              simp at hj
              subst hj
              have := hx.int_inv
              subst this
              have : (UInt8.ofNat m).toNat = m := by simp; omega
              rw [this]
              rfl
            | succ j => simpa using e2 j x (by simpa using hj)
      · cases h

theorem freeze_cells {b n : Nat} {us : Array Value} {ty : TypeId} {fr : Nat × Nat} (hh : w.heap[b]? = some (.cells us ty fr)) (hn : n ≠ 0) :
    ∃ fr', w.freeze ⟨b, 0, none⟩ n = World.withCells w b us ty fr' := by
  refine ⟨if fr.1 == fr.2 then (0, 0 + n) else (min fr.1 0, max fr.2 (0 + n)), ?_⟩
  unfold World.freeze World.withCells
  rw [if_neg hn]
  congr 1
  apply Array.ext_getElem?
  intro i
  rw [Array.getElem?_modify, Array.getElem?_setIfInBounds]
  have hb : b < w.heap.size := (Array.getElem?_eq_some_iff.1 hh).1
  by_cases e : b = i
  · subst e
    rw [if_pos rfl, if_pos rfl, if_pos hb, hh]
    rfl
  · rw [if_neg e, if_neg e]

/-- the same cells, others of them frozen -/
theorem frozen_block_step (hw : WF G w) {k : Nm} (hd : G.dom k) {us : Array Value} {ty : TypeId} {fr fr' : Nat × Nat} (hh : w.heap[G.mu k]? = some (.cells us ty fr)) :
    Step (fun x => x = k) (fun _ => False) G w G (World.withCells w (G.mu k) us ty fr') := by
  refine ⟨.refl G, ⟨fun b o u h => ?_, hw.inj, fun k d => by rw [withCells_size]; exact hw.lt k d⟩, fun _ _ _ => ⟨rfl, rfl⟩, fun b hb hn => ⟨withCells_other (hn k rfl hd) _ _ _, fun _ => rfl⟩, fun _ d => .inl d, fun _ d => .inl ⟨d, rfl⟩, by rw [withCells_size]; exact Nat.le_refl _, rfl, rfl, rfl⟩
  obtain ⟨us', ty', fr2, h1, h2⟩ := hw.F b o u h
  by_cases e : G.mu k = b
  · subst e
    rw [hh] at h1
    simp at h1
    obtain ⟨rfl, _, _⟩ := h1
    exact ⟨us, ty, fr', withCells_heap (hw.lt k hd) _ _ _, h2⟩
  · exact ⟨us', ty', fr2, by rw [withCells_other e]; exact h1, h2⟩

theorem extString_ok {E : TypeId} (hen : ∀ args w, (callFunc g args).run C.P.prog w = .ok (.enter g args) w)
    (hnil : ∀ (b : Nat) (w : World), w.cell? ⟨b, 1, none⟩ = some (.slice none 0 0) →
      Calls C.P.prog g #[.pointer (some ⟨b, 0, none⟩)] w fun e w' => e = .returned (.string ⟨#[]⟩) ∧ w' = w.drew)
    (hrow : ∀ (b a cap cells : Nat) (l : List UInt8) (w : World), w.cell? ⟨b, 1, none⟩ = some (.slice (some ⟨a, 0, none⟩) l.length cap) → w.shape? a = some (E, cells) → l.length ≤ cells → l ≠ [] → cap ≠ 0 → l.length < 4294967296 →
      (∀ (j : Nat) x, l[j]? = some x → w.cell? ⟨a, j, none⟩ = some (.int .u8 x.toNat)) →
      Calls C.P.prog g #[.pointer (some ⟨b, 0, none⟩)] w fun e w' => e = .returned (.string ⟨l.toArray⟩) ∧ w' = w.drew.freeze ⟨a, 0, none⟩ l.length) : SumOk C g (extString E) := by
  intro ev hev args objs r h G w vs hw hg had hH hv
  unfold extString at h
  split at h
  · rename_i ty c0 os
    simp at h
    subst h
    obtain ⟨x, rfl, hx⟩ := hv.only
    obtain ⟨rfl, hd, hn⟩ := hx.ptr_inv
    obtain ⟨_, ho⟩ := same_objs hH 0 _ rfl
    obtain ⟨ha, x, y, fr, hh, hth, hx0, hy0, hF⟩ := cells_two ho
    have := hy0.nils_inv
    subst this
    refine .inl ⟨hen _ _, (hnil (G.mu (.arg 0)) w (by rw [cell_of hh]; rfl)).mono ?_⟩
    rintro e w' ⟨rfl, rfl⟩
    exact ⟨_, G, rfl, drew_step hw _ _, rfl, fun i o ho' => ⟨(same_objs hH i o ho').1, by have := (same_objs hH i o ho').2; cases o <;> exact this⟩, fun _ _ h => by simp at h, .t _ _ (.str [])⟩
  · rename_i ty c0 j len os
    split at h
    · rename_i gg fz cs hj
      split at h
      · rename_i hc
        obtain ⟨hE, hlen, hpos, hbig⟩ := hc
        cases hb : bytesTV cs with
        | none => rw [hb] at h; simp at h
        | some l =>
          rw [hb] at h
          simp at h
          subst h
          obtain ⟨x, rfl, hx⟩ := hv.only
          obtain ⟨rfl, hd, hn⟩ := hx.ptr_inv
          obtain ⟨_, ho⟩ := same_objs hH 0 _ rfl
          obtain ⟨ha, x, y, fr, hh, hth, hx0, hy0, hF⟩ := cells_two ho
          obtain ⟨hdj, hpos1, cap, us, ty2, fr2, har, hh2, ⟨hth2, hty2⟩, hsz, hle, hvs, hF2⟩ := same_objs hH j _ hj
          obtain ⟨hl1, hl2⟩ := bytesTV_cells hb hvs
          cases hy0 with | ref _ _ _ n' esz' cap' _ hd' ha' hle' hoo hvv =>
          rw [har] at ha'
          simp at ha'
          obtain ⟨e1, e2, e3⟩ := ha'
          subst e2; subst e3
          obtain ⟨ad, rfl, had2⟩ := hvv (by omega)
          have hcap : 0 < cap := by omega
          have hadr := had2 hcap
          subst hadr
          simp only [Nat.zero_mul, Nat.sub_zero] at hh
          have hll : l.length = len := by omega
          have hne : l ≠ [] := by intro e; subst e; simp at hll; omega
          subst hE
          refine .inl ⟨hen _ _, (hrow (G.mu (.arg 0)) (G.mu (.arg j)) cap us.size l w (by rw [cell_of hh, hll]; rfl) (by simp [World.shape?, hh2, hty2]) (by omega) hne (by omega) (by omega) ?_).mono ?_⟩
          · intro q x hq
            have := hl2 q x hq
            rw [List.getElem?_take] at this
            split at this
            · rw [cell_of hh2]; simpa using this
            · cases this
          rintro e w' ⟨rfl, rfl⟩
          have hh2' : w.drew.heap[G.mu (.arg j)]? = some (.cells us ty2 fr2) := hh2
          obtain ⟨fr3, hfr⟩ := freeze_cells hh2' (n := l.length) (by omega)
          rw [hfr]
          have hst := (drew_step hw (fun _ => False) (fun _ => False)).trans (frozen_block_step hw.drew hdj (fr' := fr3) hh2')
          have hst' : Step (fun x => x = Nm.arg j) (fun _ => False) G w G (World.withCells w.drew (G.mu (.arg j)) us ty2 fr3) := hst.mono (fun _ _ h => by simpa using h) (fun _ h => by simp at h)
          refine ⟨_, G, rfl, hst'.mono (fun _ _ _ => trivial) (fun _ h => h.elim), by simp, fun i o ho' => ?_, fun _ _ h => by simp at h, .t _ _ (.str l)⟩
          by_cases hij : i = j
          · subst hij
            rw [List.getElem?_set_self (List.getElem?_eq_some_iff.1 hj).1] at ho'
            simp at ho'
            subst ho'
            exact ⟨hdj, trivial⟩
          · rw [List.getElem?_set_ne (fun e => hij e.symm)] at ho'
            obtain ⟨hd3, ho3⟩ := same_objs hH i o ho'
            exact ⟨hd3, hst'.keeps hw hd3 (by intro e; injection e with e; exact hij e) ho3⟩
      · simp at h
    · simp at h
  · simp at h

end
end Go.Abs
end

noncomputable section
namespace Go.Abs
open Go

section
variable {C : Cfg} {g : FuncId} {G : Gh} {w : World} {vs : List Value}

theorem freeOf_ok {u : Heap} {l : List Nm} (h : freeOf u l = true) : (∀ k o, (k, o) ∈ u → k ≠ tryNm) ∧ ∀ k ∈ l, k ≠ tryNm := by
  unfold freeOf at h
  simp only [Bool.and_eq_true, Bool.not_eq_true', List.any_eq_false, decide_eq_true_eq] at h
  exact ⟨fun k o hm => h.1 (k, o) hm, fun k hm => h.2 k hm⟩

theorem objsOr_length (H : Heap) : ∀ (n i : Nat), (objsOr H i n).length = n
  | 0, _ => rfl
  | n + 1, i => by simp [objsOr, objsOr_length H n (i + 1)]

theorem objsOr_at (H : Heap) : ∀ (n i j : Nat) (o : AObj), (objsOr H i n)[j]? = some o → j < n ∧ (H.get (.arg (i + j)) = some o ∨ o = .dead)
  | 0, _, _, _, h => by simp [objsOr] at h
  | n + 1, i, j, o, h => by
      cases j with
      | zero =>
        simp [objsOr, objOr] at h
        cases hg : H.get (.arg i) with
        | none => rw [hg] at h; simp at h; exact ⟨by omega, .inr h.symm⟩
        | some o' => rw [hg] at h; simp at h; subst h; exact ⟨by omega, .inl (by first | rfl | exact hg)⟩
      | succ j =>
        have := objsOr_at H n (i + 1) j o (by simpa [objsOr] using h)
        refine ⟨by omega, ?_⟩
        rw [show i + (j + 1) = i + 1 + j from by omega]
        exact this.2

/-- the answer -/
theorem tryEnd_ok {H : Heap} {n : Nat} {b : Bool} {r : FRes} (h : tryEnd H n b = some r) (hd : ∀ i, i < n → G.dom (.arg i)) (hH : HR G w H) {G0 : Gh} {w0 : World}
    (hs : Step (fun _ => True) (fun k => k.isLoc = true) G0 w0 G w) : retP G0 w0 n r (.returned (.bool b)) w := by
  unfold tryEnd at h
  simp only at h
  split at h
  · simp at h
  rename_i R hR
  cases hn : newsAt H R with
  | none => rw [hn] at h; simp at h
  | some hh =>
    rw [hn] at h
    simp at h
    subst h
    refine ⟨_, G, rfl, hs, objsOr_length H n 0, fun i o ho => ?_, fun k o hm => ?_, .t _ _ (.bool b)⟩
    · obtain ⟨hi, h2⟩ := objsOr_at H n 0 i o ho
      rw [Nat.zero_add] at h2
      rcases h2 with h2 | rfl
      · exact hH _ _ h2
      · exact ⟨hd i hi, trivial⟩
    · obtain ⟨h1, h2⟩ := newsAt_some hn k o hm
      exact ⟨h1, hH _ _ h2⟩

theorem bodied_enters {f : FuncId} (h : bodied C f = true) (args : Array Value) (w : World) : (callFunc f args).run C.P.prog w = .ok (.enter f args) w := by
  unfold bodied at h
  split at h
  · rename_i fn hfn
    simp only [Bool.and_eq_true, Option.isSome_iff_exists, Bool.not_eq_true'] at h
    obtain ⟨⟨c, hc⟩, hn⟩ := h
    have h1 : fn.name ≠ "runtime.NumGoroutine" := by simpa using hn
    simp [callFunc, C.P.fnOk _ _ hfn, h1, hc, mark]
  · simp at h

theorem extTry_ok {stop tb : TypeId} (hen : ∀ args w, (callFunc g args).run C.P.prog w = .ok (.enter g args) w)
    (hw0 : ∀ (rv : Value) (f : FuncId) (fs cs : Array Value) (w : World) (R : Ending → World → Prop),
      (∀ args w, (callFunc f args).run C.P.prog w = .ok (.enter f args) w) →
      Calls C.P.prog f (fs ++ cs) (w.alloc (.cells #[.bool false] tb)) R →
      (∀ e w', R e w' → w'.cell? ⟨w.heap.size, 0, none⟩ = some (.bool false) ∧ w'.frozen? ⟨w.heap.size, 0, none⟩ = false ∧ ((∃ v, e = .returned v) ∨ ∃ pv, e = .panicked [{ v := .iface stop pv, recovered := false }])) →
      Calls C.P.prog g #[rv, .func (.func f) fs cs] w fun e w' => ∃ e' w2, R e' w2 ∧
        (((∃ v, e' = .returned v) ∧ e = .returned (.bool true) ∧ w' = w2.setCell ⟨w.heap.size, 0, none⟩ (.bool true)) ∨
         ((∃ pv, e' = .panicked [{ v := .iface stop pv, recovered := false }]) ∧ e = .returned (.bool false) ∧ w' = w2.setCell ⟨w.heap.size, 0, none⟩ (.bool false)))) :
    SumOk C g (extTry C stop) := by
  intro ev hev args objs r h G w vs hw hg had hH hv
  unfold extTry at h
  split at h
  · rename_i rv f fs cs
    split at h
    · rename_i hbod
      obtain ⟨x, y, rfl, hx, hy⟩ := hv.two
      cases hy with | fn _ _ _ ls ms hl1 h1 hl2 h2 =>
      simp only at h
      have hfr : ¬ G.dom tryNm := had.2 [1]
      have hs1 : Step (fun _ => False) (fun k => k = tryNm) G w (G.add tryNm w.heap.size none) (World.pushed w (.cells #[.bool false] tb)) := add_step hw hfr _ _ _
      obtain ⟨hd1, ho1⟩ := add_cells (cs := [.t (.bool false)]) (vs := [.bool false]) hw hfr (VRs.cons (.t _ _ (.bool false)) (VRs.nil G)) tb
      generalize hG1 : G.add tryNm w.heap.size none = G1 at hs1 hd1 ho1
      have hmu1 : G1.mu tryNm = w.heap.size := by rw [← hG1]; simp [Gh.add]
      have hdom1 : ∀ k, G1.dom k → G.dom k ∨ k = tryNm := fun k d => hs1.news k d
      have hH1 : HR G1 (World.pushed w (.cells #[.bool false] tb)) (argHeap 0 objs) := by
        intro k o hk
        obtain ⟨d, ho⟩ := hH k o hk
        exact ⟨hs1.le.dom _ d, hs1.keeps hw d (fun h => h) ho⟩
      have hvs1 : VRs G1 (fs ++ cs) (ls ++ ms) := (VRs.append ⟨hl1, h1⟩ ⟨hl2, h2⟩).mono hs1.le
      cases hcall : callT ev (argHeap 0 objs) f (fs ++ cs) 0 with
      | none => rw [hcall] at h; simp at h
      | some res =>
        rw [hcall] at h
        have hres := callT_ok hev hcall hs1.wf (hg.mono hs1.le) hH1 (fun p d => by
          rcases hdom1 _ d with d | d
          · exact had.2 _ d
          · simp [tryNm] at d) hvs1
        have hC : Calls C.P.prog f (ls.toArray ++ ms.toArray) (w.alloc (.cells #[.bool false] tb)) (ResOk 0 G1 (World.pushed w (.cells #[.bool false] tb)) res) := by
          rcases hres with ⟨_, hc⟩ | ⟨v, w', hc, _⟩
          · have e : (ls ++ ms).toArray = ls.toArray ++ ms.toArray := by simp
            rw [e] at hc
            exact hc
          · rw [bodied_enters hbod] at hc
            cases hc
        -- what the result cell is behind the call
        have hcell : ∀ (W N : Nm → Prop) (G2 : Gh) (w2 : World), Step W N G1 (World.pushed w (.cells #[.bool false] tb)) G2 w2 → ¬ W tryNm →
            G2.dom tryNm ∧ G2.mu tryNm = w.heap.size ∧ ∃ fr, w2.heap[w.heap.size]? = some (.cells #[.bool false] tb fr) ∧ thawed #[.bool false] fr ∧ ∀ o, G2.F w.heap.size o = none := by
          intro W N G2 w2 hst hnW
          have ho2 := hst.keeps hs1.wf hd1 hnW ho1
          have hmu2 := (hst.same _ hd1 hnW).1
          obtain ⟨_, us, ty', fr, hh, ⟨hth, rfl⟩, hvv, hF⟩ := ho2
          obtain ⟨us⟩ := us
          obtain ⟨x0, rfl, hx0⟩ := hvv.only
          cases hx0 with | t _ _ hx0 =>
          cases hx0
          rw [hmu2, hmu1] at hh hF
          exact ⟨hst.le.dom _ hd1, hmu2.trans hmu1, fr, hh, hth, hF⟩
        -- the end of it
        have hend : ∀ (W N : Nm → Prop) (G2 : Gh) (w2 : World) (H2 : Heap) (b : Bool) (r : FRes), Step W N G1 (World.pushed w (.cells #[.bool false] tb)) G2 w2 → ¬ W tryNm → (∀ k, N k → k.isLoc = true) →
            HR G2 w2 H2 → H2.get tryNm = none → tryEnd H2 objs.length b = some r → retP G w objs.length r (.returned (.bool b)) (w2.setCell ⟨w.heap.size, 0, none⟩ (.bool b)) := by
          intro W N G2 w2 H2 b r hst hnW hN hH2 hno hr
          obtain ⟨hd2, hmu2, fr, hh, hth, hF⟩ := hcell W N G2 w2 hst hnW
          rw [heap_modify_cells hh]
          have hh' : w2.heap[G2.mu tryNm]? = some (.cells #[.bool false] tb fr) := by rw [hmu2]; exact hh
          have hst3 := cells_step (vs := [.bool b]) hst.wf hd2 hh' (fun o ⟨u, hu⟩ => by rw [hmu2, hF] at hu; simp at hu)
          rw [hmu2] at hst3
          have hall : Step (fun _ => True) (fun k => k.isLoc = true) G w G2 (World.withCells w2 w.heap.size [.bool b].toArray tb fr) :=
            ((hs1.trans hst).trans hst3).mono (fun _ _ _ => trivial) (fun k hk => by
              rcases hk with (rfl | hk) | hk
              · rfl
              · exact hN k hk
              · exact hk.elim)
          refine tryEnd_ok hr (fun i hi => hall.le.dom _ (had.1 i hi)) ?_ hall
          intro k o hk
          obtain ⟨d, ho⟩ := hH2 k o hk
          refine ⟨d, hst3.keeps hst.wf d ?_ ho⟩
          intro e
          subst e
          rw [hno] at hk
          cases hk
        have hget0 : (argHeap 0 objs).get tryNm = none := by
          cases hq : (argHeap 0 objs).get tryNm with
          | none => rfl
          | some o =>
            obtain ⟨j, hj, _⟩ := argHeap_get hq
            simp [tryNm] at hj
        cases res with
        | val v u =>
          simp only at h
          split at h
          · rename_i hfree
            obtain ⟨hf1, _⟩ := freeOf_ok hfree
            have hnW : ¬ tryNm ∈ u.map (·.1) := by
              intro hm
              obtain ⟨⟨k, o⟩, hm, e⟩ := List.mem_map.1 hm
              exact hf1 k o hm e
            refine .inl ⟨hen _ _, (hw0 x f ls.toArray ms.toArray w _ (bodied_enters hbod) hC ?_).mono ?_⟩
            · rintro e w2 ⟨x2, G2, rfl, hst, hu, hx2⟩
              obtain ⟨_, hmu2, fr, hh, hth, hF⟩ := hcell _ _ _ _ hst hnW
              exact ⟨by rw [cell_of hh]; rfl, thawed_frozen hh hth (by simp), .inl ⟨_, rfl⟩⟩
            · rintro e w' ⟨e', w2, ⟨x2, G2, rfl, hst, hu, hx2⟩, hor⟩
              rcases hor with ⟨_, rfl, rfl⟩ | ⟨⟨pv, hpv⟩, _, _⟩
              · refine hend _ _ G2 w2 _ true r hst hnW (fun k ⟨p, hp⟩ => by rw [hp]; rfl) ?_ ?_ h
                · exact HR.puts hst hs1.wf hH1 hu (fun k _ hk => hk)
                · cases hq : ((argHeap 0 objs).puts u).get tryNm with
                  | none => rfl
                  | some o =>
                    rcases Heap.get_puts _ u _ o hq with h3 | ⟨h3, _⟩
                    · exact absurd rfl (hf1 _ _ h3)
                    · rw [hget0] at h3; cases h3
              · cases hpv
          · simp at h
        | panic v u l =>
          have key : ∀ (hstop : ∃ t z, (v = .iface t z ∨ ∃ z', v = .t (.iface t z')) ∧ t = stop) (hfree : freeOf u l = true) (h : tryEnd (((argHeap 0 objs).hide l).puts u) objs.length false = some r),
              CallsF C.P g [x, .func (.func f) ls.toArray ms.toArray].toArray w (retP G w objs.length r) := by
            rintro ⟨t, z, hvz, rfl⟩ hfree h
            obtain ⟨hf1, hf2⟩ := freeOf_ok hfree
            have hnW : ¬ tryNm ∈ u.map (·.1) ++ l := by
              intro hm
              rcases List.mem_append.1 hm with hm | hm
              · obtain ⟨⟨k, o⟩, hm, e⟩ := List.mem_map.1 hm
                exact hf1 k o hm e
              · exact hf2 _ hm rfl
            refine .inl ⟨hen _ _, (hw0 x f ls.toArray ms.toArray w _ (bodied_enters hbod) hC ?_).mono ?_⟩
            · rintro e w2 ⟨x2, G2, rfl, hst, hu, hx2⟩
              obtain ⟨_, hmu2, fr, hh, hth, hF⟩ := hcell _ _ _ _ hst hnW
              refine ⟨by rw [cell_of hh]; rfl, thawed_frozen hh hth (by simp), .inr ?_⟩
              rcases hvz with rfl | ⟨z', rfl⟩
              · cases hx2; exact ⟨_, rfl⟩
              · cases hx2 with | t _ _ hx2 => cases hx2; exact ⟨_, rfl⟩
            · rintro e w' ⟨e', w2, ⟨x2, G2, rfl, hst, hu, hx2⟩, hor⟩
              rcases hor with ⟨⟨v2, hv2⟩, _, _⟩ | ⟨_, rfl, rfl⟩
              · cases hv2
              · refine hend _ _ G2 w2 _ false r hst hnW (fun k ⟨p, hp⟩ => by rw [hp]; rfl) ?_ ?_ h
                · intro k o hk
                  rcases Heap.get_puts _ u k o hk with h1 | ⟨h1, hn⟩
                  · exact hu k o h1
                  · rw [Heap.get_hide] at h1
                    split at h1
                    · cases h1
                    · rename_i hl
                      obtain ⟨d, ho⟩ := hH1 k o h1
                      refine ⟨hst.le.dom _ d, hst.keeps hs1.wf d (fun hm => ?_) ho⟩
                      rcases List.mem_append.1 hm with hm | hm
                      · exact hn hm
                      · exact hl hm
                · cases hq : (((argHeap 0 objs).hide l).puts u).get tryNm with
                  | none => rfl
                  | some o =>
                    rcases Heap.get_puts _ u _ o hq with h3 | ⟨h3, _⟩
                    · exact absurd rfl (hf1 _ _ h3)
                    · rw [Heap.get_hide] at h3
                      split at h3
                      · cases h3
                      · rw [hget0] at h3; cases h3
          split at h
          · rename_i hq; cases hq
          · rename_i t z u' l' hq
            cases hq
            split at h
            · rename_i hc
              exact key ⟨_, _, .inl rfl, hc.1⟩ hc.2 h
            · simp at h
          · rename_i t z u' l' hq
            cases hq
            split at h
            · rename_i hc
              exact key ⟨_, .nils, .inr ⟨_, rfl⟩, hc.1⟩ hc.2 h
            · simp at h
          · simp at h
    · simp at h
  · simp at h

end
end Go.Abs
end
