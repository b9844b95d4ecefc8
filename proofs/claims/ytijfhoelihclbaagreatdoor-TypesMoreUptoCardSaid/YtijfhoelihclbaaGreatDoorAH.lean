/- TypesMore: the given statement's card. -/
import Derived.Test.YtijfhoelihclbaaGreatDoorO
import Derived.Test.YtijfhoelihclbaaGreatDoorP
import Derived.Test.YtijfhoelihclbaaGreatDoorAG
namespace Go.Proofs.YtijfhoelihclbaaGreatDoor.tm
open Go Go.Abs Go.RowKit
set_option linter.unusedVariables false
set_option maxRecDepth 1000000
theorem LQ (os:Os){H:Type}(enc:TypeId×Value→H):
  (Rows.OpenSpec.upto Rows.typesMoreSpec).preRow enc Tryz.prog Tryz.f4 Rows.typesMoreUptoRow.domain false Rows.typesMoreUptoRow.laid ((wit.sJ os).forCall (fun _ _=>0) ⟨#[], #[.agg #[.int .u8 0,.int .i64 0,.string ⟨#[]⟩,.string ⟨#[]⟩,.slice none 0 0,.slice none 0 0],.agg #[.slice none 0 0,.slice none 0 0],.agg #[.string ⟨#[]⟩,.string ⟨#[]⟩,.slice none 0 0],.string ⟨#[]⟩],[]⟩).memory #[.agg #[.int .u8 0,.int .i64 0,.string ⟨#[]⟩,.string ⟨#[]⟩,.slice none 0 0,.slice none 0 0],.agg #[.slice none 0 0,.slice none 0 0],.agg #[.string ⟨#[]⟩,.string ⟨#[]⟩,.slice none 0 0],.string ⟨#[]⟩]:=by
 have hw:(DataW.whole enc Tryz.prog ((wit.sJ os).forCall (fun _ _=>0) ⟨#[], #[.agg #[.int .u8 0,.int .i64 0,.string ⟨#[]⟩,.string ⟨#[]⟩,.slice none 0 0,.slice none 0 0],.agg #[.slice none 0 0,.slice none 0 0],.agg #[.string ⟨#[]⟩,.string ⟨#[]⟩,.slice none 0 0],.string ⟨#[]⟩],[]⟩).memory Tryz.f4.params.toList Rows.typesMoreSpec.vars false #[.agg #[.int .u8 0,.int .i64 0,.string ⟨#[]⟩,.string ⟨#[]⟩,.slice none 0 0,.slice none 0 0],.agg #[.slice none 0 0,.slice none 0 0],.agg #[.string ⟨#[]⟩,.string ⟨#[]⟩,.slice none 0 0],.string ⟨#[]⟩].toList 8).map (fun x=>(x.1,x.2.1))=
   some ([.agg [.lit (.int .u8 0),.lit (.int .i64 0),.lit (.string []),.lit (.string []),.nil,.nil],.agg [.nil,.nil],.agg [.lit (.string []),.lit (.string []),.nil],.lit (.string [])],[]):=by kernel_rfl
 obtain⟨⟨x1,x2,x3⟩,hx,hx1⟩:=Option.map_eq_some_iff.1 hw
 simp only[Prod.mk.injEq] at hx1
 obtain⟨rfl,rfl⟩:=hx1
 exact OpenSpec.preRow_of_cond 8 hx (by kernel_rfl) (fun k hk=>by cases hk;kernel_rfl) (by kernel_rfl) (wit.Tq os _)
theorem RD:ki Tryz.prog [26,22,2,9,23,24,30,27,49,31,45,38,35,36,28,76,33]=true:=by kernel_rfl
theorem RE:(Tryz.f4.params.toList.all fun t=>[26,22,2,9,23,24,30,27,49,31,45,38,35,36,28,76,33].contains t&&(Tryz.prog.readableRec t&&decide (t<Tryz.prog.types.size)))=true:=by kernel_rfl
theorem lifted (os:Os)(started:os.Started)(H:Type)(enc:TypeId×Value→H)(F:Stop.Interp):
    ReturnsInHanded {} Tryz.checked os 4 .any ((Rows.OpenSpec.upto Rows.typesMoreSpec).preRow enc Tryz.prog Tryz.f4 Rows.typesMoreUptoRow.domain false Rows.typesMoreUptoRow.laid) (((Rows.OpenSpec.upto Rows.typesMoreSpec).at F).post enc Tryz.prog Tryz.f4 false true false false):=by
  refine returnsInHanded_of_row (C:=Tryz.checked) (s:=Rows.OpenSpec.upto Rows.typesMoreSpec) con.own started (by kernel_rfl) Tryz.func4
    (witness_row_atRef (enc:=enc) (C:=Tryz.checked) false (wit.sJ os) #[.agg #[.int .u8 0,.int .i64 0,.string ⟨#[]⟩,.string ⟨#[]⟩,.slice none 0 0,.slice none 0 0],.agg #[.slice none 0 0,.slice none 0 0],.agg #[.string ⟨#[]⟩,.string ⟨#[]⟩,.slice none 0 0],.string ⟨#[]⟩] rfl (by kernel_rfl) (by kernel_rfl) (by kernel_rfl) (LQ os enc)) ?_
  intro W base args ds gs before hval hW _ JQ _ hL hsh _
  refine con.contract (s:=Rows.typesMoreSpec) (F:=4) (fn:=Tryz.f4) (c:=_) (tb:=4) [26,22,2,9,23,24,30,27,49,31,45,38,35,36,28,76,33] RD Tryz.func4 (by kernel_rfl) rfl RE rfl Tryz.underlying4 rfl ?_ (fun m Ts h=> ?_) H enc W base args ds gs before hval hW (JQ _ rfl) hL hsh
  · intro H ds hl
    match ds,hl with
    | [_,_,_,_],_=>rfl
  · rw[Tryz.params4] at h
    exact w.e.aeu m Ts h
theorem said:Rows.TypesMoreUptoSaid:=
 OpenClaim.holds_of_cond 4 Tryz.f4 rfl rfl rfl rfl rfl rfl rfl ⟨rfl,rfl,rfl,rfl,rfl⟩ rfl rfl rfl rfl rfl (by kernel_rfl) Tryz.func4 (by kernel_rfl)
  (of_decide_eq_true (by kernel_rfl)) (by unfold Func.isWrapper;first|(rw[if_pos (by decide+kernel)];kernel_rfl)|(rw[if_neg (by decide+kernel)];exact⟨rfl,rfl⟩))
  (fun os started H enc _ F=>by rw[OpenClaim.pre_eq_preRow];exact lifted os started H enc F)
theorem ZL:(Tryz.f4.params.toList.all fun t=> !Tryz.prog.wantsStandIn t)=true:=by kernel_rfl
theorem plain (f:FuncId)(fn:Func)(hf:Tryz.pinned.checked.prog.funcNamed "lictor/lictorlaw13.TypesMore" =some f)(hfn:Tryz.pinned.checked.prog.funcs[f]?=some fn):
  true=Tryz.pinned.checked.prog.looks []∧∀(j:Nat) t,fn.params[j]?=some t→Tryz.pinned.checked.prog.wantsStandIn t=false:=by
 obtain rfl:f=4:=Option.some.inj ((show Tryz.prog.funcNamed "lictor/lictorlaw13.TypesMore" =some 4 by kernel_rfl).symm.trans hf)|>.symm
 obtain rfl:fn=Tryz.f4:=(Option.some.inj (Tryz.func4.symm.trans hfn)).symm
 refine⟨by kernel_rfl,fun j t ht=> ?_⟩
 have:=List.all_eq_true.1 ZL t (by simpa using Array.mem_of_getElem? ht)
 have h2:Tryz.prog.wantsStandIn t=false:=by simpa using this
 exact h2
theorem holds:Rows.TypesMoreUptoCardSaid:=
 Claim7.holds_tied_plain_at .later [] _ _ _ _ said (fun _ h=>by cases h) (by kernel_rfl) (fun _ h=>by cases h) typesMoreUpto_row_tie rfl ⟨rfl,rfl⟩ (by kernel_rfl) rfl plain (by kernel_rfl)
#print axioms holds
end Go.Proofs.YtijfhoelihclbaaGreatDoor.tm
