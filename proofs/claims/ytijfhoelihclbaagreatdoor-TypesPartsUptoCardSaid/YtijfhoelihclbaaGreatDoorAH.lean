/- TypesParts: the given statement's card. -/
import Derived.Test.YtijfhoelihclbaaGreatDoorO
import Derived.Test.YtijfhoelihclbaaGreatDoorP
import Derived.Test.YtijfhoelihclbaaGreatDoorAG
namespace Go.Proofs.YtijfhoelihclbaaGreatDoor.tp
open Go Go.Abs Go.RowKit
set_option linter.unusedVariables false
set_option maxRecDepth 1000000
theorem KS (os:Os){H:Type}(enc:TypeId×Value→H):
  (Rows.OpenSpec.upto Rows.typesPartsSpec).preRow enc Tryz.prog Tryz.f3 Rows.typesPartsUptoRow.domain false Rows.typesPartsUptoRow.laid ((wit.rC os).forCall (fun _ _=>0) ⟨#[], #[.agg #[.int .u8 0,.int .i64 0,.string ⟨#[]⟩,.string ⟨#[]⟩,.slice none 0 0,.slice none 0 0],.agg #[.slice none 0 0,.slice none 0 0],.agg #[.string ⟨#[]⟩,.string ⟨#[]⟩,.slice none 0 0]],[]⟩).memory #[.agg #[.int .u8 0,.int .i64 0,.string ⟨#[]⟩,.string ⟨#[]⟩,.slice none 0 0,.slice none 0 0],.agg #[.slice none 0 0,.slice none 0 0],.agg #[.string ⟨#[]⟩,.string ⟨#[]⟩,.slice none 0 0]]:=by
 have hw:(DataW.whole enc Tryz.prog ((wit.rC os).forCall (fun _ _=>0) ⟨#[], #[.agg #[.int .u8 0,.int .i64 0,.string ⟨#[]⟩,.string ⟨#[]⟩,.slice none 0 0,.slice none 0 0],.agg #[.slice none 0 0,.slice none 0 0],.agg #[.string ⟨#[]⟩,.string ⟨#[]⟩,.slice none 0 0]],[]⟩).memory Tryz.f3.params.toList Rows.typesPartsSpec.vars false #[.agg #[.int .u8 0,.int .i64 0,.string ⟨#[]⟩,.string ⟨#[]⟩,.slice none 0 0,.slice none 0 0],.agg #[.slice none 0 0,.slice none 0 0],.agg #[.string ⟨#[]⟩,.string ⟨#[]⟩,.slice none 0 0]].toList 8).map (fun x=>(x.1,x.2.1))=
   some ([.agg [.lit (.int .u8 0),.lit (.int .i64 0),.lit (.string []),.lit (.string []),.nil,.nil],.agg [.nil,.nil],.agg [.lit (.string []),.lit (.string []),.nil]],[]):=by kernel_rfl
 obtain⟨⟨x1,x2,x3⟩,hx,hx1⟩:=Option.map_eq_some_iff.1 hw
 simp only[Prod.mk.injEq] at hx1
 obtain⟨rfl,rfl⟩:=hx1
 exact OpenSpec.preRow_of_cond 8 hx (by kernel_rfl) (fun k hk=>by cases hk;kernel_rfl) (by kernel_rfl) (wit.SG os _)
theorem QM:jF Tryz.prog [26,22,2,9,23,24,30,27,49,31,45,38,35,36,28,76,33]=true:=by kernel_rfl
theorem QN:(Tryz.f3.params.toList.all fun t=>[26,22,2,9,23,24,30,27,49,31,45,38,35,36,28,76,33].contains t&&(Tryz.prog.readableRec t&&decide (t<Tryz.prog.types.size)))=true:=by kernel_rfl
theorem lifted (os:Os)(started:os.Started)(H:Type)(enc:TypeId×Value→H)(F:Stop.Interp):
    ReturnsInHanded {} Tryz.checked os 3 .any ((Rows.OpenSpec.upto Rows.typesPartsSpec).preRow enc Tryz.prog Tryz.f3 Rows.typesPartsUptoRow.domain false Rows.typesPartsUptoRow.laid) (((Rows.OpenSpec.upto Rows.typesPartsSpec).at F).post enc Tryz.prog Tryz.f3 false true false false):=by
  refine returnsInHanded_of_row (C:=Tryz.checked) (s:=Rows.OpenSpec.upto Rows.typesPartsSpec) con.own started (by kernel_rfl) Tryz.func3
    (witness_row_atRef (enc:=enc) (C:=Tryz.checked) false (wit.rC os) #[.agg #[.int .u8 0,.int .i64 0,.string ⟨#[]⟩,.string ⟨#[]⟩,.slice none 0 0,.slice none 0 0],.agg #[.slice none 0 0,.slice none 0 0],.agg #[.string ⟨#[]⟩,.string ⟨#[]⟩,.slice none 0 0]] rfl (by kernel_rfl) (by kernel_rfl) (by kernel_rfl) (KS os enc)) ?_
  intro W base args ds gs before hval hW _ I7 _ hL hsh _
  refine con.contract (s:=Rows.typesPartsSpec) (F:=3) (fn:=Tryz.f3) (c:=_) (tb:=4) [26,22,2,9,23,24,30,27,49,31,45,38,35,36,28,76,33] QM Tryz.func3 (by kernel_rfl) rfl QN rfl Tryz.underlying4 rfl ?_ (fun m Ts h=> ?_) H enc W base args ds gs before hval hW (I7 _ rfl) hL hsh
  · intro H ds hl
    match ds,hl with
    | [_,_,_],_=>rfl
  · rw[Tryz.params3] at h
    exact w.e.YC m Ts h
theorem said:Rows.TypesPartsUptoSaid:=
 OpenClaim.holds_of_cond 3 Tryz.f3 rfl rfl rfl rfl rfl rfl rfl ⟨rfl,rfl,rfl,rfl,rfl⟩ rfl rfl rfl rfl rfl (by kernel_rfl) Tryz.func3 (by kernel_rfl)
  (of_decide_eq_true (by kernel_rfl)) (by unfold Func.isWrapper;first|(rw[if_pos (by decide+kernel)];kernel_rfl)|(rw[if_neg (by decide+kernel)];exact⟨rfl,rfl⟩))
  (fun os started H enc _ F=>by rw[OpenClaim.pre_eq_preRow];exact lifted os started H enc F)
theorem YD:(Tryz.f3.params.toList.all fun t=> !Tryz.prog.wantsStandIn t)=true:=by kernel_rfl
theorem plain (f:FuncId)(fn:Func)(hf:Tryz.pinned.checked.prog.funcNamed "lictor/lictorlaw13.TypesParts" =some f)(hfn:Tryz.pinned.checked.prog.funcs[f]?=some fn):
  true=Tryz.pinned.checked.prog.looks []∧∀(j:Nat) t,fn.params[j]?=some t→Tryz.pinned.checked.prog.wantsStandIn t=false:=by
 obtain rfl:f=3:=Option.some.inj ((show Tryz.prog.funcNamed "lictor/lictorlaw13.TypesParts" =some 3 by kernel_rfl).symm.trans hf)|>.symm
 obtain rfl:fn=Tryz.f3:=(Option.some.inj (Tryz.func3.symm.trans hfn)).symm
 refine⟨by kernel_rfl,fun j t ht=> ?_⟩
 have:=List.all_eq_true.1 YD t (by simpa using Array.mem_of_getElem? ht)
 have h2:Tryz.prog.wantsStandIn t=false:=by simpa using this
 exact h2
theorem holds:Rows.TypesPartsUptoCardSaid:=
 Claim7.holds_tied_plain_at .later [] _ _ _ _ said (fun _ h=>by cases h) (by kernel_rfl) (fun _ h=>by cases h) typesPartsUpto_row_tie rfl ⟨rfl,rfl⟩ (by kernel_rfl) rfl plain (by kernel_rfl)
#print axioms holds
end Go.Proofs.YtijfhoelihclbaaGreatDoor.tp
