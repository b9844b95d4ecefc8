/- EntityAbove: the given statement's card. -/
import Derived.Test.YtnfnihgmankidaaGreatDoorO
import Derived.Test.YtnfnihgmankidaaGreatDoorP
import Derived.Test.YtnfnihgmankidaaGreatDoorAH
set_option linter.unusedVariables false
set_option linter.unusedSimpArgs false
namespace Go.Proofs.YtnfnihgmankidaaGreatDoor.ea
open Go Go.Abs Go.RowKit
set_option maxRecDepth 1000000
set_option maxHeartbeats 4000000
theorem LX (os:Os){H:Type}(enc:TypeId×Value->H):
 (Rows.OpenSpec.upto Rows.entityAboveSpec).preRow enc Tryz.prog Tryz.f4 Rows.entityAboveUptoRow.domain false Rows.entityAboveUptoRow.laid ((wit.rO os).forCall (λ_ _=>0) ⟨#[], #[.slice none 0 0,.agg #[.string ⟨#[]⟩,.string ⟨#[]⟩]],[]⟩).memory #[.slice none 0 0,.agg #[.string ⟨#[]⟩,.string ⟨#[]⟩]]:=by
 have hw:(DataW.whole enc Tryz.prog ((wit.rO os).forCall (λ_ _=>0) ⟨#[], #[.slice none 0 0,.agg #[.string ⟨#[]⟩,.string ⟨#[]⟩]],[]⟩).memory Tryz.f4.params.toList Rows.entityAboveSpec.vars false #[.slice none 0 0,.agg #[.string ⟨#[]⟩,.string ⟨#[]⟩]].toList 8).map (λx=>(x.1,x.2.1))=
  some ([.nil,.agg [.lit (.string []),.lit (.string [])]],[]):=by kernel_rfl
 obtain⟨⟨x1,x2,x3⟩,hx,hx1⟩:=Option.map_eq_some_iff.1 hw
 simp only[Prod.mk.injEq] at hx1
 obtain⟨rfl,rfl⟩:=hx1
 exact OpenSpec.preRow_of_cond 8 hx (by kernel_rfl) (λk hk=>by cases hk;kernel_rfl) (by kernel_rfl) (wit.TM os _)
theorem RZ:jO Tryz.prog [22,32,24,9,25,30,26,4,2,27,28]=true:=by kernel_rfl
theorem R4:(Tryz.f4.params.toList.all λt=>[22,32,24,9,25,30,26,4,2,27,28].contains t&&(Tryz.prog.readableRec t&&decide (t<Tryz.prog.types.size)))=true:=by kernel_rfl
theorem lifted (os:Os)(started:os.Started)(H:Type)(enc:TypeId×Value->H)(F:Stop.Interp):
 ReturnsInHanded {} Tryz.checked os 4 .any ((Rows.OpenSpec.upto Rows.entityAboveSpec).preRow enc Tryz.prog Tryz.f4 Rows.entityAboveUptoRow.domain false Rows.entityAboveUptoRow.laid) (((Rows.OpenSpec.upto Rows.entityAboveSpec).at F).post enc Tryz.prog Tryz.f4 false true false false):=by
 refine returnsInHanded_of_row (C:=Tryz.checked) (s:=Rows.OpenSpec.upto Rows.entityAboveSpec) con.own started (by kernel_rfl) Tryz.func4
  (witness_row_atRef (enc:=enc) (C:=Tryz.checked) false (wit.rO os) #[.slice none 0 0,.agg #[.string ⟨#[]⟩,.string ⟨#[]⟩]] rfl (by kernel_rfl) (by kernel_rfl) (by kernel_rfl) (LX os enc)) ?_
 intro W base args ds gs before hval hW _ Te _ hL hsh _
 refine con.contract (s:=Rows.entityAboveSpec) (F:=4) (fn:=Tryz.f4) (c:=_) (tb:=4) [22,32,24,9,25,30,26,4,2,27,28] RZ Tryz.func4 (by kernel_rfl) rfl R4 rfl Tryz.underlying4 rfl ?_ (λm Ts h=> ?_) H enc W base args ds gs before hval hW (Te _ rfl) hL hsh
 ·intro H ds hl;match ds,hl with
  | [_,_],_=>rfl
 ·rw[Tryz.params4] at h;exact w.e.acP m Ts h
theorem closed:joinedFacts Tryz.pinned.checked.prog 4 Tryz.f4 (Rows.OpenSpec.upto Rows.entityAboveSpec).bare Rows.entityAboveUptoRow=true:=by
 unfold joinedFacts;simp only[Bool.and_eq_true];refine⟨⟨⟨⟨⟨⟨⟨⟨⟨⟨⟨⟨⟨⟨⟨⟨⟨⟨⟨⟨⟨⟨⟨⟨⟨⟨⟨⟨⟨⟨⟨?_, ?_⟩, ?_⟩, ?_⟩, ?_⟩, ?_⟩, ?_⟩, ?_⟩, ?_⟩, ?_⟩, ?_⟩, ?_⟩, ?_⟩, ?_⟩, ?_⟩, ?_⟩, ?_⟩, ?_⟩, ?_⟩, ?_⟩, ?_⟩, ?_⟩, ?_⟩, ?_⟩, ?_⟩, ?_⟩, ?_⟩, ?_⟩, ?_⟩, ?_⟩, ?_⟩, ?_⟩<;>as_aux_lemma=>kernel_rfl
theorem said:Rows.EntityAboveUptoSaid:=
 OpenClaim.holds_of_cond 4 Tryz.f4 rfl rfl rfl rfl rfl rfl rfl ⟨rfl,rfl,rfl,rfl,rfl⟩ rfl rfl rfl rfl rfl (by kernel_rfl) Tryz.func4 closed
  (of_decide_eq_true (by kernel_rfl)) (by unfold Func.isWrapper;first|(rw[if_pos (by decide+kernel)];kernel_rfl)|(rw[if_neg (by decide+kernel)];exact⟨rfl,rfl⟩))
  (λos started H enc _ F=>by rw[OpenClaim.pre_eq_preRow];exact lifted os started H enc F)
theorem Zr:(Tryz.f4.params.toList.all λt=> !Tryz.prog.wantsStandIn t)=true:=by kernel_rfl
theorem plain (f:FuncId)(fn:Func)(hf:Tryz.pinned.checked.prog.funcNamed "lictor/lictorlaw11.EntityAbove" =some f)(hfn:Tryz.pinned.checked.prog.funcs[f]?=some fn):
 true=Tryz.pinned.checked.prog.looks []/\∀(j:Nat) t,fn.params[j]?=some t->Tryz.pinned.checked.prog.wantsStandIn t=false:=by
 obtain rfl:f=4:=Option.some.inj ((show Tryz.prog.funcNamed "lictor/lictorlaw11.EntityAbove" =some 4 by kernel_rfl).symm.trans hf)|>.symm
 obtain rfl:fn=Tryz.f4:=(Option.some.inj (Tryz.func4.symm.trans hfn)).symm
 refine⟨by kernel_rfl,λj t ht=> ?_⟩
 have:=List.all_eq_true.1 Zr t (by simpa using Array.mem_of_getElem? ht)
 have h2:Tryz.prog.wantsStandIn t=false:=by simpa using this
 exact h2
theorem holds:Rows.EntityAboveUptoCardSaid:=
 Claim7.holds_tied_plain_at .later [] _ _ _ _ said (λ_ h=>by cases h) (by kernel_rfl) (λ_ h=>by cases h) entityAboveUpto_row_tie rfl ⟨rfl,rfl⟩ (by kernel_rfl) rfl plain (by kernel_rfl)
#print axioms holds
end Go.Proofs.YtnfnihgmankidaaGreatDoor.ea
