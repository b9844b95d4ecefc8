/- From a walk to a law's contract. -/
import Derived.Test.YtacmmaaabfhhoaaGreatDoorH
import Derived.Test.YtacmmaaabfhhoaaGreatDoorN
import Derived.Test.YtacmmaaabfhhoaaGreatDoorShelf
import Derived.Test.YtacmmaaabfhhoaaGreatDoorCards
import Derived.Test.YtacmmaaabfhhoaaGreatDoorTie
import Derived.Lib.LaidU8
import Derived.LaidSub
import Derived.Below
import Derived.WalkKit
import Derived.ProofKit
import Derived.Deep.DeepHandedRow
import Derived.Deep.DeepWitnessRowRef
set_option linter.unusedVariables false
set_option linter.unusedSimpArgs false
namespace Go.Proofs.YtacmmaaabfhhoaaGreatDoor.con
open Go Go.Abs Go.RowKit Go.ChangeShapes Go.WideShapes Go.ChangeAt
set_option maxRecDepth 100000
def A4 (W:World)(g:Nat)(tab:List Tree):Prop:=∀(j:Nat) c,tab[j]?=some c->∃k n,c=.int k n/\W.cell? ⟨g,j,none⟩=some (.int k n)
theorem abL (W:World):WF (qV W) W:=by
 refine⟨λb o v h=> ?_,λ_ _ h=>h.elim,λ_ h=>h.elim⟩;have h:W.cell? ⟨b,o,none⟩=some v:=h;unfold World.cell? at h;simp only at h;split at h
 ·rename_i c e fr hh;exact⟨c,e,fr,hh,by simpa using h⟩
 ·cases h
theorem rQ {W:World}{g:Nat}{tab:List Tree}(h:A4 W g tab):∃vals:Nat->Value,(∀(j:Nat) c,tab[j]?=some c->(qV W).F g (0+j)=some (vals j))/\∀(j:Nat) c,tab[j]?=some c->VT (qV W).F c (vals j):=by
 refine⟨λj=>(W.cell? ⟨g,j,none⟩).getD undef,λj c hc=> ?_,λj c hc=> ?_⟩
 ·obtain⟨k,n,rfl,hcell⟩:=h j c hc;show W.cell? ⟨g,0+j,none⟩=_;simp only[Nat.zero_add,hcell,Option.getD_some]
 ·obtain⟨k,n,rfl,hcell⟩:=h j c hc;simp only[hcell,Option.getD_some];exact .int k n
def Zf (ts:List Tree):Bool:=ts.all λ|.int _ _=>true|_=>false
theorem Bh {W:World}{n:String}{d:DataW Unit}{g t:Nat}{S:List TypeId}(hS:ku Tryz.prog S=true)(hg:Tryz.prog.globalNamed n=some g)(ht:(Tryz.prog.globals[g]?).map (·.type)=some t)(hm:S.contains t=true)
 {tab:List Tree}(hd:cellsD d=tab)(hi:Zf tab=true)(h:Lib.VarReads Tryz.prog W n d):A4 W g tab:=by
 obtain⟨g',t',cs,fuel,p,h1,h2,h3,h4⟩:=h
 obtain rfl:=Option.some.inj (hg.symm.trans h1)
 obtain rfl:=Option.some.inj (ht.symm.trans h2)
 obtain⟨⟨hlen,hall⟩,_⟩:=trod_good hS fuel t cs.toList _ (by simpa using hm) h4
 subst hd
 intro j c hc
 have hj:=(List.getElem?_eq_some_iff.1 hc).1
 have hcell:=World.var?_cell hg h3 j
 obtain⟨v,hv⟩:∃v,cs.toList[j]?=some v:=⟨_,List.getElem?_eq_getElem (by rw[hlen];exact hj)⟩
 have HM:=hall j c v hc hv
 have hn:=List.all_eq_true.1 hi c (List.mem_of_getElem? hc)
 cases c with
 |int k n=>
  cases HM
  exact⟨k,n,rfl,by rw[hcell];simpa using hv⟩
 |_=>cases hn
theorem vL:ku Tryz.prog [145,5,148,147,369,192]=true:=by kernel_rfl
theorem N5:(Rows.authPutsUptoRow.laid.all λx=>x.2.handleName?.isNone)=true:=by kernel_rfl
theorem Ks:cellsD Rows.laid_unicode_utf8_first=live.rO:=by kernel_rfl
theorem Iz:cellsD (Rows.laid_unicode_utf8_acceptRanges:DataW Unit)=live.rP:=by kernel_rfl
theorem Kt:cellsD (Rows.laid_strings_asciiSpace:DataW Unit)=live.yz:=by kernel_rfl
noncomputable def Zg:List Tree:=cellsD (Rows.laid_internal_strconv_uint64pow10:DataW Unit)
theorem Rf {W:World}(h:A4 W 7 Zg):A4 W 7 [.int .u64 1]:=λj c hc=>by
 cases j with
 |zero=>exact h 0 c hc
 |succ j=>simp at hc
theorem Ku {W:World}(h:laidMetH Tryz.prog Rows.authPutsUptoRow.laid W):laidMet Tryz.prog Rows.authPutsUptoRow.laid W:=by
 have h:=(laidMetH_iff.1 h).1;have e:Rows.authPutsUptoRow.laid.filter (λx=>x.2.handleName?.isNone)=Rows.authPutsUptoRow.laid:=List.filter_eq_self.2 (List.all_eq_true.1 N5);rwa [e] at h
theorem tables {W:World}(h:laidMetH Tryz.prog Rows.authPutsUptoRow.laid W):A4 W 0 live.rO/\A4 W 1 live.rP/\A4 W 2 live.yz/\A4 W 7 [.int .u64 1]:=by
 have h:=Ku h;exact⟨Bh vL (n:= "unicode/utf8.first") (by kernel_rfl) (by kernel_rfl) (t:=145) (by kernel_rfl) Ks (by kernel_rfl) (Lib.laidMet.reads h (by simp[Rows.authPutsUptoRow])),
  Bh vL (n:= "unicode/utf8.acceptRanges") (by kernel_rfl) (by kernel_rfl) (t:=148) (by kernel_rfl) Iz (by kernel_rfl) (Lib.laidMet.reads h (by simp[Rows.authPutsUptoRow])),
  Bh vL (n:= "strings.asciiSpace") (by kernel_rfl) (by kernel_rfl) (t:=145) (by kernel_rfl) Kt (by kernel_rfl) (Lib.laidMet.reads h (by simp[Rows.authPutsUptoRow])),
  Rf (Bh vL (n:= "internal/strconv.uint64pow10") (by kernel_rfl) (by kernel_rfl) (t:=369) (by kernel_rfl) rfl (by kernel_rfl) (Lib.laidMet.reads h (by simp[Rows.authPutsUptoRow])))⟩
theorem Rh {F:FuncId}{fn:Func}{c:Code}(hfn:Tryz.prog.funcs[F]?=some fn)(hname:(fn.name== "runtime.NumGoroutine")=false)(hbody:fn.body=some c){m:Int}{Ts:List Tree}{vs:List Value}
 (h:ai (w.cf m) F (Ts.map .t) [] (.ret (.t (.bool true)) [] []))(W:World)(h0:A4 W 0 live.rO)(h1:A4 W 1 live.rP)(h2:A4 W 2 live.yz)(h5:A4 W 7 [.int .u64 1])(h4:W.cell? ⟨3,0,none⟩=some (.int .i64 m))
 (hv:cr (qV W) (Ts.map .t) vs):Calls Tryz.prog F vs.toArray W λe W'=>e=.returned (.bool true)/\Below W.heap.size W W':=by
 have hg :iA (w.cf m) (qV W):=by
  intro g cs hcs;unfold w.cf live.cfg at hcs;simp only at hcs;split at hcs<;>first
   |( obtain rfl:=Option.some.inj hcs
      first
       |exact rQ h0
       |exact rQ h1
       |exact rQ h2
       |exact rQ h5
       |exact rQ (g:=3) (tab:=[.int .i64 m]) (λj c hc=>by
           cases j with
           |zero=>simp at hc;subst hc;exact⟨_,_,rfl,h4⟩
           |succ j=>simp at hc))
   |cases hcs
 rcases h (qV W) W vs (abL W) hg ⟨λi hi=>by simp at hi,λ_ h=>h⟩ (λk o hk=>by simp[bK,Heap.get] at hk) hv with ⟨_,hc⟩|⟨v,W',hc,_⟩
 ·refine Calls.mono hc ?_;rintro e W' ⟨x,G',rfl,hst,_,_,_,hx⟩;have e1:x=.bool true:=by cases hx with|t _ _ h=>cases h;rfl
  subst e1;exact⟨rfl,⟨hst.os,hst.tape,hst.output,hst.size,λk hk=>(hst.blocks k hk (λ_ _ h=>h.elim)).1⟩⟩
 ·have h1:fn.name≠ "runtime.NumGoroutine" :=by simpa using hname
  have h6:(callFunc F vs.toArray).run Tryz.prog W=.ok (.enter F vs.toArray) W:=by simp[callFunc,hfn,h1,hbody,mark]
  rw[show Sem.run Tryz.prog (callFunc F vs.toArray) W=.ok (.value v) W' from hc] at h6;cases h6
section
variable {H:Type}{enc:TypeId×Value->H}{P:Program}
theorem Kv {f:Func}{s:ChangeSpec}{apart fresh handsOn again:Bool}{W W':World}{args:Array Value}{v:Value}{ds gs:List (DataW H)}{before pa pv:List MemPlace}
 (hW:DataW.Whole enc P f.params.toList s.vars apart W args.toList ds gs before)
 (hres:∀(b:Nat) (sp:Nat->Bool) (hd:Bool),DataW.TrodAll enc P W' b sp hd f.resultTypes.toList (v.resultList f.resultTypes.size) (s.fn H (ds++gs)).results [])
 (hargs:∀sp:Nat->Bool,(∀p∈before,sp p.block=true)->DataW.TrodAll enc P W' 0 sp true f.params.toList args.toList (s.fn H (ds++gs)).args pa)
 (hvars:∀sp:Nat->Bool,(∀p∈before,sp p.block=true)->DataW.TrodVars enc P W' sp s.vars (s.fn H (ds++gs)).vars pv)
 (hps:before=pa++pv)(hb:Below W.heap.size W W')
 (hok:∀(j:Nat) (t:TypeId) (r:Value),f.resultTypes[j]?=some t->(v.resultList f.resultTypes.size)[j]?=some r->Value.okWide P W' .any 0 t r):
 s.post enc P f apart fresh handsOn again W args v W':=by
 have hlt:∀p∈before,p.block<W.heap.size:=λp hp=>hW.lt p hp
 have hold:∀p∈before,(λb=>decide (b<W.heap.size)) p.block=true:=λp hp=>by simpa using hlt p hp
 refine⟨ds,gs,before,[],pa,pv,hW,hres _ _ _,hargs _ hold,hvars _ hold,World.keptBut_mono (λp hp=>⟨hp, ?_⟩) (hb.frame (· ∈before)),λ_=> ?_⟩
 ·rw[hps,List.mem_append] at hp;exact Or.inr hp
 ·obtain⟨_,_,_,_,_,hz,hn⟩:=hW;refine⟨hok,_,_,([]++pa)++pv,⟨[]++pa,pv,trodAll_append (hargs _ (λ_ _=>rfl)) (hres _ _ _),hvars _ (λ_ _=>rfl),rfl, ?_, ?_⟩, ?_⟩
  ·intro b off hp;have hm:MemPlace.cell b off∈before:=by rw[hps];simpa using hp
   rw[hb.frozen (p:=⟨b,off,none⟩) (hlt _ hm)];exact hz b off hm
  ·intro ha;have:=hn ha;rw[hps] at this;simpa using this
  ·intro p hp _;rw[hps];simpa using hp
end
theorem own:ownKnob Tryz.prog.godebug=none:=by kernel_rfl
theorem laidOut:laidOutB Tryz.prog=true:=by kernel_rfl
theorem contract {s:ChangeSpec}{F:FuncId}{fn:Func}{c:Code}(S:List TypeId)(hS:ku Tryz.prog S=true)(hfn:Tryz.prog.funcs[F]?=some fn)(hname:(fn.name== "runtime.NumGoroutine")=false)(hbody:fn.body=some c)
 (hpar:(fn.params.toList.all λt=>S.contains t&&(Tryz.prog.readableRec t&&decide (t<Tryz.prog.types.size)))=true){tb:TypeId}(hres:fn.resultTypes= #[tb])(htb:Tryz.prog.underlying tb=some .bool)(hvars:s.vars=[])
 (hspec:∀(H:Type) (ds:List (DataW H)),ds.length=fn.params.size->s.fn H ds={results:=[.lit (.bool true)],args:=ds})
 (law:∀(m:Int) (Ts:List Tree),arg.Mg Tryz.prog 1048576 fn.params.toList Ts->ai (w.cf m) F (Ts.map .t) [] (.ret (.t (.bool true)) [] []))
 (H:Type)(enc:TypeId×Value->H)(W:World)(base:Nat)(args:Array Value)(ds gs:List (DataW H))(before:List MemPlace)
 (hval:∀(j:Nat) t v,fn.params[j]?=some t->args[j]?=some v->Value.okWide Tryz.prog W .any base t v)
 (hW:DataW.Whole enc Tryz.prog fn.params.toList s.vars false W args.toList ds gs before)(hk:Rows.uptoSmall H (ds++gs)=true)(hL:laidMetH Tryz.prog Rows.authPutsUptoRow.laid W)(hsh:W.ShapedOpen Tryz.prog):
 Calls Tryz.prog F args W λe W'=>∃v,e=.returned v/\s.post enc Tryz.prog fn false true false false W args v W':=by
 have hW':=hW
 obtain⟨p,q,hA0,hV,rfl,hfz,hnd⟩:=hW
 have hA:DataW.TrodAll enc Tryz.prog W 0 (λ_=>true) true fn.params.toList args.toList ds p:=hA0
 rw[hvars] at hV
 obtain⟨rfl,rfl⟩:=trodVars_none hV
 clear hA0
 simp only[List.append_nil] at hW' hk
 have abM:Rows.uptoBulkAll ds<=1048576:=of_decide_eq_true hk
 have hp:∀t∈fn.params.toList,t∈S/\Tryz.prog.readableRec t=true/\t<Tryz.prog.types.size:=λt ht=>by
  have:=List.all_eq_true.1 hpar t ht;simp only[Bool.and_eq_true,List.contains_iff_mem,decide_eq_true_eq] at this;exact this
 obtain⟨h1,h2,h3⟩:=arg.Vz hS fn.params.toList args.toList ds p (λt ht=>(hp t ht).1) (λj t v ht hv=>hval j t v (by simpa using ht) (by simpa using hv)) hA abM
 obtain⟨b0,b1,b2,b3⟩:=tables hL
 obtain⟨m,hm⟩:=Tryz.laysM219.s1_3 W hsh
 have hlt:∀x∈p,x.block<W.heap.size:=λx hx=>hW'.lt x (by simpa using hx)
 have tO:=Rh hfn hname hbody (law m _ h1) W b0 b1 b2 b3 hm h2
 rw[show args.toList.toArray=args by simp] at tO
 refine tO.mono λe W' ⟨he,hb⟩=> ?_
 subst he
 have hsp:=hspec H ds (by simpa using h3)
 refine⟨_,rfl,Kv (pa:=p) (pv:=[]) hW' (λ_ _ _=> ?_) (λsp hs=> ?_) (λsp hs=> ?_) (by simp) hb ?_⟩
 ·simp only[List.append_nil,hsp,hres];exact trodAll_cons_mk (shut_bool htb _) trodAll_mk0
 ·simp only[List.append_nil,hsp];exact arg.NU laidOut _ _ _ _ (λt ht=>(hp t ht).2) hA (λx hx=>hb.same (hlt x hx)) (λx hx=>hs x (by simpa using hx))
 ·simp only[List.append_nil,hsp,hvars];rfl
 ·exact ok_one hres rfl (okWide_bool_mk htb _)
end Go.Proofs.YtacmmaaabfhhoaaGreatDoor.con
