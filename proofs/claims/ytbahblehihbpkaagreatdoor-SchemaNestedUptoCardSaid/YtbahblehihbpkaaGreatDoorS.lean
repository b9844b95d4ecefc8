/- More of it. -/
import Derived.Test.YtbahblehihbpkaaGreatDoorR
import Derived.Test.YtbahblehihbpkaaGreatDoorQ
namespace Go.Proofs.YtbahblehihbpkaaGreatDoor.w
open Go Go.Abs
set_option linter.unusedVariables false
set_option maxRecDepth 100000
set_option maxHeartbeats 1000000
noncomputable section


open Go.Proofs.YtbahblehihbpkaaGreatDoor.arg

theorem Tof {m : Int} {g : FuncId} {args : List TV} {r : FRes} (h : ∃ _ : Unit, CallRel (cf m) g args [] r) : CallRel (cf m) g args [] r := h.elim fun _ h => h
theorem lives_at (m : Int) : CallRel (cf m) 5 [] [] (.ret (.t (.bool true)) [] []) := by
  have hr := isYes_eq (live.yes5 m)
  rw [evalF_eq] at hr
  exact fun G w vs hw hg ha hh hv => evalN_ok (live.orders m) (live.ext_ok m) 300 5 [] [] _ hr G w vs hw hg ha hh hv
theorem rising_a (m k : Int) (s : List UInt8) (os bs : List Tree) : CallRel (cf m) 41 [.t (.sl [.agg [.str [97], .int .u8 k, .str s, .sl os, .sl bs]]), .t (.fn (.func 42))] [] (.ret (.t (.bool true)) [] []) := by
  have hr := isYes_eq (rec_rising m k s os bs)
  rw [evalF_eq] at hr
  exact fun G w vs hw hg ha hh hv => evalN_ok (live.orders m) (live.ext_ok m) 300 41 _ [] _ hr G w vs hw hg ha hh hv
theorem none_a (m k : Int) (s : List UInt8) (os bs : List Tree) : CallRel (cf m) 37 [.t (.sl [.agg [.str [97], .int .u8 k, .str s, .sl os, .sl bs]]), .t (.fn (.func 43))] [] (.ret (.t (.bool false)) [] []) := by
  have hr := isNo_eq (rec_none m k s os bs)
  rw [evalF_eq] at hr
  exact fun G w vs hw hg ha hh hv => evalN_ok (live.orders m) (live.ext_ok m) 300 37 _ [] _ hr G w vs hw hg ha hh hv

def sz (d : Int) (o : Bool) : FRes := .ret (.t (.tup [.int .i64 d, .bool o])) [] []
theorem set_at (m k : Int) (s : List UInt8) (os bs : List Tree) (d : Int) (o : Bool) (h0 : 0 ≤ d) (h1 : d ≤ 8388608) (hz : CallRel (cf m) 14 [.t (.agg [.int .u8 k, .str s, .sl os, .sl bs])] [] (sz d o)) : CallRel (cf m) 14 [.t (.agg [.int .u8 5, .str [], .sl [.agg [.int .u8 k, .str s, .sl os, .sl bs]], .sl []])] [] (sz (max 0 d + 1) o) :=
  Tof (size_set (ev := oneEv 14 (ct1 (fun x => x = .agg [.int .u8 k, .str s, .sl os, .sl bs]) fun _ => sz d o) noEv) (oneEv_ok (ct1_ok fun x hx => by subst hx; exact hz) noEv_ok) k s os bs d o h0 h1 (ct1_at (res := fun _ => sz d o) rfl))
theorem recd_at (m k : Int) (s : List UInt8) (os bs : List Tree) (d : Int) (o : Bool) (h0 : 0 ≤ d) (h1 : d ≤ 8388608) (hz : CallRel (cf m) 14 [.t (.agg [.int .u8 k, .str s, .sl os, .sl bs])] [] (sz d o)) : CallRel (cf m) 14 [.t (.agg [.int .u8 6, .str [], .sl [], .sl [.agg [.str [97], .int .u8 k, .str s, .sl os, .sl bs]]])] [] (sz (max 0 d + 1) o) :=
  Tof (size_rec (ev := oneEv 14 (ct1 (fun x => x = .agg [.int .u8 k, .str s, .sl os, .sl bs]) fun _ => sz d o) (oneEv 41 (ct2 (fun x y => x = .sl [.agg [.str [97], .int .u8 k, .str s, .sl os, .sl bs]] ∧ y = .fn (.func 42)) fun _ _ => .ret (.t (.bool true)) [] []) (oneEv 37 (ct2 (fun x y => x = .sl [.agg [.str [97], .int .u8 k, .str s, .sl os, .sl bs]] ∧ y = .fn (.func 43)) fun _ _ => .ret (.t (.bool false)) [] []) noEv)))
    (oneEv_ok (ct1_ok fun x hx => by subst hx; exact hz) (oneEv_ok (ct2_ok fun x y hx => by obtain ⟨rfl, rfl⟩ := hx; exact rising_a m k s os bs) (oneEv_ok (ct2_ok fun x y hx => by obtain ⟨rfl, rfl⟩ := hx; exact none_a m k s os bs) noEv_ok)))
    k s os bs d o h0 h1 (ev_there rfl (ct2_at (res := fun _ _ => .ret (.t (.bool true)) [] []) ⟨rfl, rfl⟩)) (ev_there rfl (ev_there rfl (ct2_at (res := fun _ _ => .ret (.t (.bool false)) [] []) ⟨rfl, rfl⟩))) (ct1_at (res := fun _ => sz d o) rfl))

def ckR (d : Int) (o : Bool) : Int := bif o then (if d > 8 then 4 else 0) else 7
theorem ck_at (m k : Int) (s : List UInt8) (os bs : List Tree) (d : Int) (o : Bool) (hz : CallRel (cf m) 14 [.t (.agg [.int .u8 k, .str s, .sl os, .sl bs])] [] (sz d o)) : CallRel (cf m) 6 [.t (.agg [.int .u8 k, .str s, .sl os, .sl bs])] [] (.ret (.t (.int .i64 (ckR d o))) [] []) := by
  have hev : CallOk (cf m) (oneEv 14 (ct1 (fun x => x = .agg [.int .u8 k, .str s, .sl os, .sl bs]) fun _ => sz d o) noEv) := oneEv_ok (ct1_ok fun x hx => by subst hx; exact hz) noEv_ok
  have e := ct1_at (g := 14) (P := fun x => x = .agg [.int .u8 k, .str s, .sl os, .sl bs]) (res := fun _ => sz d o) (ev := noEv) (x := .agg [.int .u8 k, .str s, .sl os, .sl bs]) rfl
  cases o with
  | false => exact Tof (ck_type hev k s os bs d e)
  | true =>
    by_cases hd : d > 8
    · rw [show ckR d true = 4 by simp [ckR, hd]]; exact Tof (ck_depth hev k s os bs d hd e)
    · rw [show ckR d true = 0 by simp [ckR, hd]]; exact Tof (ck_ok hev k s os bs d hd e)

def ck3 (T : Tree) (a b : FRes) : Tree → FRes := fun x => @ite FRes (x = T) (Classical.propDecidable _) a b
theorem ck3_pos {T : Tree} {a b : FRes} : ck3 T a b T = a := by unfold ck3; exact if_pos rfl
theorem ck3_neg {T x : Tree} {a b : FRes} (h : x ≠ T) : ck3 T a b x = b := by unfold ck3; exact if_neg h

theorem set_ne (k : Int) (s : List UInt8) (os bs : List Tree) : (.agg [.int .u8 5, .str [], .sl [.agg [.int .u8 k, .str s, .sl os, .sl bs]], .sl []] : Tree) ≠ .agg [.int .u8 k, .str s, .sl os, .sl bs] := fun h => by
  simp only [Tree.agg.injEq, List.cons.injEq, Tree.sl.injEq] at h
  have := congrArg (fun l : List Tree => SizeOf.sizeOf l) h.2.2.1
  simp at this
  omega
theorem rec_ne (k : Int) (s : List UInt8) (os bs : List Tree) : (.agg [.int .u8 6, .str [], .sl [], .sl [.agg [.str [97], .int .u8 k, .str s, .sl os, .sl bs]]] : Tree) ≠ .agg [.int .u8 k, .str s, .sl os, .sl bs] := fun h => by
  simp only [Tree.agg.injEq, List.cons.injEq, Tree.sl.injEq] at h
  have := congrArg (fun l : List Tree => SizeOf.sizeOf l) h.2.2.2.1
  simp at this
  omega

theorem law_at (m : Int) (n : Nat) (hn : n ≤ 8388608) (T : Tree) (hT : TyN n T) : CallRel (cf m) 3 [.t T] [] (.ret (.t (.bool true)) [] []) := by
  obtain ⟨f, h1, h2⟩ := size_pure m n hn
  have hz := h1 T hT
  obtain ⟨b0, b1⟩ := h2 T hT
  obtain ⟨k, s, os, bs, rfl⟩ := hT.form
  generalize (f _).1 = d at hz b0 b1
  generalize (f _).2 = o at hz
  have c1 := ck_at m k s os bs d o hz
  have c2 := ck_at m 5 [] _ _ _ o (set_at m k s os bs d o b0 (by omega) hz)
  have c3 := ck_at m 6 [] _ _ _ o (recd_at m k s os bs d o b0 (by omega) hz)
  generalize hb : ckR (max 0 d + 1) o = b at c2 c3
  generalize ha : ckR d o = a at c1
  have hev : CallOk (cf m) (oneEv 5 (ct0 (.ret (.t (.bool true)) [] [])) (oneEv 6 (ct1 (fun x => x = .agg [.int .u8 k, .str s, .sl os, .sl bs] ∨ x = .agg [.int .u8 5, .str [], .sl [.agg [.int .u8 k, .str s, .sl os, .sl bs]], .sl []] ∨ x = .agg [.int .u8 6, .str [], .sl [], .sl [.agg [.str [97], .int .u8 k, .str s, .sl os, .sl bs]]]) (ck3 (.agg [.int .u8 k, .str s, .sl os, .sl bs]) (.ret (.t (.int .i64 a)) [] []) (.ret (.t (.int .i64 b)) [] []))) noEv)) :=
    oneEv_ok (ct0_ok (lives_at m)) (oneEv_ok (ct1_ok fun x hx => by
      rcases hx with rfl | rfl | rfl
      · rw [ck3_pos]; exact c1
      · rw [ck3_neg (set_ne k s os bs)]; exact c2
      · rw [ck3_neg (rec_ne k s os bs)]; exact c3) noEv_ok)
  have e0 := ct0_at (g := 5) (r := .ret (.t (.bool true)) [] []) (ev := oneEv 6 (ct1 (fun x => x = .agg [.int .u8 k, .str s, .sl os, .sl bs] ∨ x = .agg [.int .u8 5, .str [], .sl [.agg [.int .u8 k, .str s, .sl os, .sl bs]], .sl []] ∨ x = .agg [.int .u8 6, .str [], .sl [], .sl [.agg [.str [97], .int .u8 k, .str s, .sl os, .sl bs]]]) (ck3 (.agg [.int .u8 k, .str s, .sl os, .sl bs]) (.ret (.t (.int .i64 a)) [] []) (.ret (.t (.int .i64 b)) [] []))) noEv)
  have e1 : oneEv 5 (ct0 (.ret (.t (.bool true)) [] [])) (oneEv 6 (ct1 (fun x => x = .agg [.int .u8 k, .str s, .sl os, .sl bs] ∨ x = .agg [.int .u8 5, .str [], .sl [.agg [.int .u8 k, .str s, .sl os, .sl bs]], .sl []] ∨ x = .agg [.int .u8 6, .str [], .sl [], .sl [.agg [.str [97], .int .u8 k, .str s, .sl os, .sl bs]]]) (ck3 (.agg [.int .u8 k, .str s, .sl os, .sl bs]) (.ret (.t (.int .i64 a)) [] []) (.ret (.t (.int .i64 b)) [] []))) noEv) 6 [.t (.agg [.int .u8 k, .str s, .sl os, .sl bs])] [] = some (.ret (.t (.int .i64 a)) [] []) :=
    ev_there rfl ((ct1_at (.inl rfl)).trans (by rw [ck3_pos]))
  have e2 : oneEv 5 (ct0 (.ret (.t (.bool true)) [] [])) (oneEv 6 (ct1 (fun x => x = .agg [.int .u8 k, .str s, .sl os, .sl bs] ∨ x = .agg [.int .u8 5, .str [], .sl [.agg [.int .u8 k, .str s, .sl os, .sl bs]], .sl []] ∨ x = .agg [.int .u8 6, .str [], .sl [], .sl [.agg [.str [97], .int .u8 k, .str s, .sl os, .sl bs]]]) (ck3 (.agg [.int .u8 k, .str s, .sl os, .sl bs]) (.ret (.t (.int .i64 a)) [] []) (.ret (.t (.int .i64 b)) [] []))) noEv) 6 [.t (.agg [.int .u8 5, .str [], .sl [.agg [.int .u8 k, .str s, .sl os, .sl bs]], .sl []])] [] = some (.ret (.t (.int .i64 b)) [] []) :=
    ev_there rfl ((ct1_at (.inr (.inl rfl))).trans (by rw [ck3_neg (set_ne k s os bs)]))
  have e3 : oneEv 5 (ct0 (.ret (.t (.bool true)) [] [])) (oneEv 6 (ct1 (fun x => x = .agg [.int .u8 k, .str s, .sl os, .sl bs] ∨ x = .agg [.int .u8 5, .str [], .sl [.agg [.int .u8 k, .str s, .sl os, .sl bs]], .sl []] ∨ x = .agg [.int .u8 6, .str [], .sl [], .sl [.agg [.str [97], .int .u8 k, .str s, .sl os, .sl bs]]]) (ck3 (.agg [.int .u8 k, .str s, .sl os, .sl bs]) (.ret (.t (.int .i64 a)) [] []) (.ret (.t (.int .i64 b)) [] []))) noEv) 6 [.t (.agg [.int .u8 6, .str [], .sl [], .sl [.agg [.str [97], .int .u8 k, .str s, .sl os, .sl bs]]])] [] = some (.ret (.t (.int .i64 b)) [] []) :=
    ev_there rfl ((ct1_at (.inr (.inr rfl))).trans (by rw [ck3_neg (rec_ne k s os bs)]))
  have cases4 : (a = 7 ∧ b = 7) ∨ (a = 4 ∧ b = 4) ∨ (a = 0 ∧ b = 0) ∨ (a = 0 ∧ b = 4) := by
    subst ha; subst hb
    cases o with
    | false => exact .inl ⟨rfl, rfl⟩
    | true =>
      simp only [ckR, cond_true]
      by_cases g1 : d > 8
      · have g2 : max 0 d + 1 > 8 := by omega
        rw [if_pos g1, if_pos g2]; exact .inr (.inl ⟨rfl, rfl⟩)
      · rw [if_neg g1]
        by_cases g2 : max 0 d + 1 > 8
        · rw [if_pos g2]; exact .inr (.inr (.inr ⟨rfl, rfl⟩))
        · rw [if_neg g2]; exact .inr (.inr (.inl ⟨rfl, rfl⟩))
  rcases cases4 with ⟨rfl, rfl⟩ | ⟨rfl, rfl⟩ | ⟨rfl, rfl⟩ | ⟨rfl, rfl⟩
  · exact Tof (lawn_77 hev k s os bs e0 e1 e2 e3)
  · exact Tof (lawn_44 hev k s os bs e0 e1 e2 e3)
  · exact Tof (lawn_00 hev k s os bs e0 e1 e2 e3)
  · exact Tof (lawn_04 hev k s os bs e0 e1 e2 e3)

theorem law_sh (m : Int) (Ts : List Tree) (h : ShAll PP 1048576 [26] Ts) : CallRel (cf m) 3 (Ts.map .t) [] (.ret (.t (.bool true)) [] []) := by
  match Ts, h with
  | [X], ⟨⟨n, ds, hn, h1, e⟩, _⟩ =>
    rw [show X = .agg ds by rw [e]; exact mk_T ds]
    exact law_at m n (by omega) _ (sh_type (by decide) n ds h1)
end
end Go.Proofs.YtbahblehihbpkaaGreatDoor.w
