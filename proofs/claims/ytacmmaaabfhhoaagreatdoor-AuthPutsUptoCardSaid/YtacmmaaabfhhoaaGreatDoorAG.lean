/- AuthPuts: the given statement's card. -/
import Derived.Test.YtacmmaaabfhhoaaGreatDoorO
import Derived.Test.YtacmmaaabfhhoaaGreatDoorP
import Derived.Test.YtacmmaaabfhhoaaGreatDoorAF
set_option linter.unusedVariables false
set_option linter.unusedSimpArgs false
namespace Go.Proofs.YtacmmaaabfhhoaaGreatDoor.ap
open Go Go.Abs Go.RowKit
set_option maxRecDepth 1000000
set_option maxHeartbeats 4000000
theorem JQ (os:Os){H:Type}(enc:TypeId×Value->H):
 (Rows.OpenSpec.upto Rows.authPutsSpec).preRow enc Tryz.prog Tryz.f6 Rows.authPutsUptoRow.domain false Rows.authPutsUptoRow.laid ((wit.rR os).forCall (λ_ _=>0) ⟨#[], #[.slice none 0 0,.agg #[.string ⟨#[]⟩,.bool false,.int .u8 0,.slice none 0 0,.string ⟨#[]⟩,.int .u8 0,.slice none 0 0,.string ⟨#[]⟩,.int .u8 0,.slice none 0 0,.string ⟨#[]⟩,.slice none 0 0],.string ⟨#[]⟩],[]⟩).memory #[.slice none 0 0,.agg #[.string ⟨#[]⟩,.bool false,.int .u8 0,.slice none 0 0,.string ⟨#[]⟩,.int .u8 0,.slice none 0 0,.string ⟨#[]⟩,.int .u8 0,.slice none 0 0,.string ⟨#[]⟩,.slice none 0 0],.string ⟨#[]⟩]:=by
 have hw:(DataW.whole enc Tryz.prog ((wit.rR os).forCall (λ_ _=>0) ⟨#[], #[.slice none 0 0,.agg #[.string ⟨#[]⟩,.bool false,.int .u8 0,.slice none 0 0,.string ⟨#[]⟩,.int .u8 0,.slice none 0 0,.string ⟨#[]⟩,.int .u8 0,.slice none 0 0,.string ⟨#[]⟩,.slice none 0 0],.string ⟨#[]⟩],[]⟩).memory Tryz.f6.params.toList Rows.authPutsSpec.vars false #[.slice none 0 0,.agg #[.string ⟨#[]⟩,.bool false,.int .u8 0,.slice none 0 0,.string ⟨#[]⟩,.int .u8 0,.slice none 0 0,.string ⟨#[]⟩,.int .u8 0,.slice none 0 0,.string ⟨#[]⟩,.slice none 0 0],.string ⟨#[]⟩].toList 8).map (λx=>(x.1,x.2.1))=
  some ([.nil,.agg [.lit (.string []),.agg [.lit (.bool false),.agg [.lit (.int .u8 0),.nil,.lit (.string [])],.agg [.lit (.int .u8 0),.nil,.lit (.string [])],.agg [.lit (.int .u8 0),.nil,.lit (.string [])],.nil]],.lit (.string [])],[]):=by kernel_rfl
 obtain⟨⟨x1,x2,x3⟩,hx,hx1⟩:=Option.map_eq_some_iff.1 hw
 simp only[Prod.mk.injEq] at hx1
 obtain⟨rfl,rfl⟩:=hx1
 exact OpenSpec.preRow_of_cond 8 hx (by kernel_rfl) (λk hk=>by cases hk;kernel_rfl) (by kernel_rfl) (wit.Rj os _)
theorem Po:ku Tryz.prog [22,48,9,46,4,43,40,41,24,44,87,52,49,2,26,50]=true:=by kernel_rfl
theorem Pp:(Tryz.f6.params.toList.all λt=>[22,48,9,46,4,43,40,41,24,44,87,52,49,2,26,50].contains t&&(Tryz.prog.readableRec t&&decide (t<Tryz.prog.types.size)))=true:=by kernel_rfl
theorem lifted (os:Os)(started:os.Started)(H:Type)(enc:TypeId×Value->H)(F:Stop.Interp):
 ReturnsInHanded {} Tryz.checked os 6 .any ((Rows.OpenSpec.upto Rows.authPutsSpec).preRow enc Tryz.prog Tryz.f6 Rows.authPutsUptoRow.domain false Rows.authPutsUptoRow.laid) (((Rows.OpenSpec.upto Rows.authPutsSpec).at F).post enc Tryz.prog Tryz.f6 false true false false):=by
 refine returnsInHanded_of_row (C:=Tryz.checked) (s:=Rows.OpenSpec.upto Rows.authPutsSpec) con.own started (by kernel_rfl) Tryz.func6
  (witness_row_atRef (enc:=enc) (C:=Tryz.checked) false (wit.rR os) #[.slice none 0 0,.agg #[.string ⟨#[]⟩,.bool false,.int .u8 0,.slice none 0 0,.string ⟨#[]⟩,.int .u8 0,.slice none 0 0,.string ⟨#[]⟩,.int .u8 0,.slice none 0 0,.string ⟨#[]⟩,.slice none 0 0],.string ⟨#[]⟩] rfl (by kernel_rfl) (by kernel_rfl) (by kernel_rfl) (JQ os enc)) ?_
 intro W base args ds gs before hval hW _ QH _ hL hsh _
 refine con.contract (s:=Rows.authPutsSpec) (F:=6) (fn:=Tryz.f6) (c:=_) (tb:=4) [22,48,9,46,4,43,40,41,24,44,87,52,49,2,26,50] Po Tryz.func6 (by kernel_rfl) rfl Pp rfl Tryz.underlying4 rfl ?_ (λm Ts h=> ?_) H enc W base args ds gs before hval hW (QH _ rfl) hL hsh
 ·intro H ds hl;match ds,hl with
  | [_,_,_],_=>rfl
 ·rw[Tryz.params6] at h;exact w.e.XI m Ts h
theorem closed:joinedFacts Tryz.pinned.checked.prog 6 Tryz.f6 (Rows.OpenSpec.upto Rows.authPutsSpec).bare Rows.authPutsUptoRow=true:=by
 unfold joinedFacts;simp only[Bool.and_eq_true];refine⟨⟨⟨⟨⟨⟨⟨⟨⟨⟨⟨⟨⟨⟨⟨⟨⟨⟨⟨⟨⟨⟨⟨⟨⟨⟨⟨⟨⟨⟨⟨?_, ?_⟩, ?_⟩, ?_⟩, ?_⟩, ?_⟩, ?_⟩, ?_⟩, ?_⟩, ?_⟩, ?_⟩, ?_⟩, ?_⟩, ?_⟩, ?_⟩, ?_⟩, ?_⟩, ?_⟩, ?_⟩, ?_⟩, ?_⟩, ?_⟩, ?_⟩, ?_⟩, ?_⟩, ?_⟩, ?_⟩, ?_⟩, ?_⟩, ?_⟩, ?_⟩, ?_⟩<;>as_aux_lemma=>kernel_rfl
theorem said:Rows.AuthPutsUptoSaid:=
 OpenClaim.holds_of_cond 6 Tryz.f6 rfl rfl rfl rfl rfl rfl rfl ⟨rfl,rfl,rfl,rfl,rfl⟩ rfl rfl rfl rfl rfl (by kernel_rfl) Tryz.func6 closed
  (of_decide_eq_true (by kernel_rfl)) (by unfold Func.isWrapper;first|(rw[if_pos (by decide+kernel)];kernel_rfl)|(rw[if_neg (by decide+kernel)];exact⟨rfl,rfl⟩))
  (λos started H enc _ F=>by rw[OpenClaim.pre_eq_preRow];exact lifted os started H enc F)
theorem XJ:(Tryz.f6.params.toList.all λt=> !Tryz.prog.wantsStandIn t)=true:=by kernel_rfl
theorem plain (f:FuncId)(fn:Func)(hf:Tryz.pinned.checked.prog.funcNamed "lictor/lictorlaw15.AuthPuts" =some f)(hfn:Tryz.pinned.checked.prog.funcs[f]?=some fn):
 true=Tryz.pinned.checked.prog.looks []/\∀(j:Nat) t,fn.params[j]?=some t->Tryz.pinned.checked.prog.wantsStandIn t=false:=by
 obtain rfl:f=6:=Option.some.inj ((show Tryz.prog.funcNamed "lictor/lictorlaw15.AuthPuts" =some 6 by kernel_rfl).symm.trans hf)|>.symm
 obtain rfl:fn=Tryz.f6:=(Option.some.inj (Tryz.func6.symm.trans hfn)).symm
 refine⟨by kernel_rfl,λj t ht=> ?_⟩
 have:=List.all_eq_true.1 XJ t (by simpa using Array.mem_of_getElem? ht)
 have h2:Tryz.prog.wantsStandIn t=false:=by simpa using this
 exact h2
theorem holds:Rows.AuthPutsUptoCardSaid:=
 Claim7.holds_tied_plain_at .later [] _ _ _ _ said (λ_ h=>by cases h) (by kernel_rfl) (λ_ h=>by cases h) authPutsUpto_row_tie rfl ⟨rfl,rfl⟩ (by kernel_rfl) rfl plain (by kernel_rfl)
#print axioms holds
end Go.Proofs.YtacmmaaabfhhoaaGreatDoor.ap
