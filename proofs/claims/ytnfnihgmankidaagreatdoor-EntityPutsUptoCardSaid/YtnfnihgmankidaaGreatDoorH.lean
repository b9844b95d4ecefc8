/- Arguments that came in: trees of the types' forms, not too great. -/
import Derived.Test.YtnfnihgmankidaaGreatDoorE
import Derived.Test.YtnfnihgmankidaaGreatDoorF
import Derived.Test.YtnfnihgmankidaaGreatDoorG
import Derived.Test.YtnfnihgmankidaaGreatDoorRows
import Derived.ChangeArms
import Derived.ChangeShapes
import Derived.RowKit
import Derived.WideShapes
import Derived.OpenShut
import Derived.Carry
set_option linter.unusedVariables false
set_option linter.unusedSimpArgs false
namespace Go.Proofs.YtnfnihgmankidaaGreatDoor.arg
open Go Go.Abs Go.RowKit Go.ChangeShapes Go.WideShapes
open Go.Abs.Ty (bulk bulks)
def nc (P:Program)(t:TypeId)(ds:List Tree):Tree:=match P.underlying t with
 |some (.struct _)=>.agg ds
 |some (.array _ _)=>.agg ds
 |_=>ds.headD .bT
def yI (R:TypeId->List Tree->Prop):List Field->List Tree->Prop
 | [],cs=>cs=[]
 |f::r,cs=>∃a b,cs=a++b/\R f.type a/\yI R r b
def jI (P:Program)(B:Nat):Nat->TypeId->List Tree->Prop
 |0,_,_=>False
 |n+1,t,cs=>match P.underlying t with
  |some .bool=>∃b,cs=[.bool b]
  |some (.int k)=>∃x,cs=[.int k x]/\(Lit.int k x).wf=true
  |some .string=>∃s,cs=[.str s]/\s.length<=B
  |some (.slice e)=>∃l,cs=[.sl l]/\l.length<=B/\∀x∈l,∃ds,jI P B n e ds/\x=nc P e ds
  |some (.struct fs)=>yI (jI P B n) fs.toList cs
  |_=>True
def ShT (P:Program)(B:Nat)(t:TypeId)(T:Tree):Prop:=∃n ds,(n<=B/\bulk T<=B)/\jI P B n t ds/\T=nc P t ds
theorem yI.mono {R R':TypeId->List Tree->Prop}(h:∀t cs,R t cs->R' t cs):∀(fs:List Field) (cs:List Tree),yI R fs cs->yI R' fs cs
 | [],_,hc=>hc
 |f::r,_,⟨a,b,e,h1,h2⟩=>⟨a,b,e,h _ _ h1,yI.mono h r b h2⟩
theorem jI.up {P:Program}{B:Nat}:∀(n:Nat) (t:TypeId) (cs:List Tree),jI P B n t cs->jI P B (n+1) t cs
 |0,_,_,h=>h.elim
 | n + 1,t,cs,h=>by
   cases hu:P.underlying t with
   |none=>simp only[jI,hu]
   | some d=>
     cases d<;>simp only[jI,hu] at h ⊢<;>try exact h
     · obtain⟨l,h1,h2,h3⟩:=h
       exact⟨l,h1,h2,λx hx=>by obtain⟨ds,h4,h5⟩:=h3 x hx;exact⟨ds,jI.up n _ ds h4,h5⟩⟩
     · exact yI.mono (λt cs=>jI.up n t cs) _ _ h
theorem jI.mono {P:Program}{B n m:Nat}(hle:n<=m){t:TypeId}{cs:List Tree}(h:jI P B n t cs):jI P B m t cs:=by
 induction hle with
 |refl=>exact h
 |step _ ih=>exact jI.up _ _ _ ih
section
variable {H:Type}{enc:TypeId×Value->H}{P:Program}{w:World}{base:Nat}{spare:Nat->Bool}{held:Bool}
theorem yJ:∀(l:List (DataW H)) (d:DataW H),d∈l->Rows.uptoBulk d<=Rows.uptoBulkAll l
 | [],d,h=>by cases h
 | a ::r,d,h=>by
   rcases List.mem_cons.1 h with rfl|h
   · simp[Rows.uptoBulkAll]
   · have:=yJ r d h
     simp[Rows.uptoBulkAll];omega
theorem DC:∀(d:DataW H),1<=Rows.uptoBulk d
 |.lit l=>by cases l<;>simp[Rows.uptoBulk]
 |.nil=>by simp[Rows.uptoBulk]
 |.ptr d=>by simp[Rows.uptoBulk]
 |.slice es sp=>by simp[Rows.uptoBulk]
 |.agg ps=>by simp[Rows.uptoBulk]
 |.iface _ d=>by simp[Rows.uptoBulk]
 |.map es=>by simp[Rows.uptoBulk]
 |.held _=>by simp[Rows.uptoBulk]
theorem Kl:∀(l:List (DataW H)),l.length<=Rows.uptoBulkAll l
 | []=>by simp
 |a::r=>by
  have:=Kl r
  have:=DC a
  simp[Rows.uptoBulkAll];omega
theorem zH:∀(a b:List Tree),bulks (a++b)=bulks a+bulks b
 | [],b=>by simp[bulks]
 |x::r,b=>by
  have:=zH r b
  simp only[List.cons_append,bulks,this];omega
theorem DD (l:Lit):bulk (zG l)=1:=by cases l<;>rfl
theorem Km (l:Lit):1<=Rows.uptoBulk (.lit l:DataW H):=DC _
mutual
theorem DE:∀(d:DataW H),bulk (fK d)<=Rows.uptoBulk d
 |.lit l=>by
  have:=Km (H:=H) l
  show bulk (zG l)<=_
  rw[DD];exact this
 |.nil=>by simp[fK,bulk,bulks,Rows.uptoBulk]
 |.slice es sp=>by
  have:=uh es
  simp only[fK,bulk,Rows.uptoBulk];omega
 |.agg ps=>by
  have:=si ps
  simp only[fK,bulk,Rows.uptoBulk];omega
 |.ptr d=>by simp[fK,bulk,Rows.uptoBulk]
 |.iface _ d=>by simp[fK,bulk,Rows.uptoBulk]
 |.map es=>by simp[fK,bulk,Rows.uptoBulk]
 |.held _=>by simp[fK,bulk,Rows.uptoBulk]
theorem uh:∀(l:List (DataW H)),bulks (mz l)<=Rows.uptoBulkAll l
 | []=>by simp[mz,bulks]
 |d::r=>by
  have h1:=DE d
  have h2:=uh r
  rw[nt,List.map_cons,← nt]
  simp only[bulks,Rows.uptoBulkAll];omega
theorem Ie:∀(d:DataW H),bulks (cellsD d)<=Rows.uptoBulk d
 |.lit l=>by
  have:=Km (H:=H) l
  show bulk (zG l)+0<=_
  rw[DD];exact this
 |.nil=>by simp[cellsD,bulk,bulks,Rows.uptoBulk]
 |.slice es sp=>by
  have:=uh es
  simp only[cellsD,bulk,bulks,Rows.uptoBulk];omega
 |.agg ps=>by
  have:=si ps
  simp only[cellsD,Rows.uptoBulk];omega
 |.ptr d=>by simp[cellsD,bulks]
 |.iface _ d=>by simp[cellsD,bulks]
 |.map es=>by simp[cellsD,bulks]
 |.held _=>by simp[cellsD,bulks]
theorem si:∀(l:List (DataW H)),bulks (fM l)<=Rows.uptoBulkAll l
 | []=>by simp[fM,bulks]
 |d::r=>by
  have h1:=Ie d
  have h2:=si r
  simp only[fM,Rows.uptoBulkAll]
  rw[zH];omega
end
theorem OP {R:TypeId->List Tree->Prop}:∀(fs:List Field) (xs:List (DataW H×List MemPlace)),xs.length=fs.length->
  (∀(i:Nat) f x,fs[i]?=some f->xs[i]?=some x->R f.type (cellsD x.1))->yI R fs (fM (xs.map (·.1)))
 | [],[],_,_=>by simp[yI,fM]
 |f::r,x::xs,hl,h=>by
  refine⟨cellsD x.1,fM (xs.map (·.1)),by simp[fM],h 0 f x rfl rfl,OP r xs (by simpa using hl) λi g y hg hy=>h (i+1) g y (by simpa using hg) (by simpa using hy)⟩
 | [],x::xs,hl,_=>by simp at hl
 |f::r,[],hl,_=>by simp at hl
theorem aa6 {S:List TypeId}(hS:j6 P S=true){B:Nat}:∀(fuel:Nat) (t:TypeId) (cs:List Value) (x:DataW H×List MemPlace),t∈S->DataW.trod enc P w base spare held fuel t cs=some x->
 Rows.uptoBulk x.1<=B->jI P B (Rows.uptoBulk x.1) t (cellsD x.1)/\fK x.1=nc P t (cellsD x.1):=by
 intro fuel
 induction fuel with
 |zero=>intro t cs x _ h;simp[DataW.trod] at h
 | succ fuel ih=>
   intro t cs x ht h hb
   have hp:=List.all_eq_true.1 hS t ht
   cases hu:P.underlying t with
   |none=>rw[hu] at hp;cases hp
   | some d=>
     rw[hu] at hp
     cases d with
     | bool=>
       obtain⟨b,_,rfl⟩:=DataW.trod_bool hu h
       refine⟨?_,by simp only[nc,hu,fK,zG,cellsD];rfl⟩
       show jI P B (0+1) t _
       simp only[jI,hu]
       exact⟨b,rfl⟩
     | int k=>
       obtain⟨n,_,rfl,hw⟩:=DataW.trod_int hu h
       refine⟨?_,by simp only[nc,hu,fK,zG,cellsD];rfl⟩
       show jI P B (0+1) t _
       simp only[jI,hu]
       exact⟨n,rfl,hw⟩
     | string=>
       obtain⟨s,_,rfl,hw⟩:=DataW.trod_string hu h
       simp only[Rows.uptoBulk] at hb ⊢
       refine⟨?_,by simp only[nc,hu,fK,zG,cellsD];rfl⟩
       simp only[jI,hu]
       exact⟨_,rfl,by omega⟩
     | slice e=>
       simp only[Bool.and_eq_true,List.contains_iff_mem] at hp
       rcases DataW.trod_slice hu h with ⟨_,rfl⟩|⟨a,len,cap,els,rest,n,hn,_,rfl,_,_,_,hlen,hel,_⟩
       · refine⟨?_,by simp only[nc,hu,fK,cellsD];rfl⟩
         show jI P B (0+1) t _
         simp only[jI,hu]
         exact⟨[],rfl,by simp,by simp⟩
       · obtain rfl:n=fuel:=by omega
         simp only[Rows.uptoBulk] at hb ⊢
         simp only[jI,nc,hu,cellsD,fK]
         have hl:=Kl (els.map (·.1))
         refine⟨⟨_,rfl,by rw[nt,List.length_map];omega,λy hy=> ?_⟩,rfl⟩
         rw[nt] at hy
         obtain⟨d,hd,rfl⟩:=List.mem_map.1 hy
         have hbd:=yJ _ _ hd
         obtain⟨z,hz,rfl⟩:=List.mem_map.1 hd
         obtain⟨i,hi,hzi⟩:=List.getElem_of_mem hz
         have:=hel i (by omega)
         rw[List.getElem?_eq_getElem hi,hzi,Option.bind_eq_some_iff] at this
         obtain⟨cs',_,hc⟩:=this
         obtain⟨h1,h2⟩:=ih e cs' z hp.1 hc (by omega)
         exact⟨_,h1.mono (by omega),h2⟩
     | struct fs=>
       simp only[Bool.and_eq_true,List.all_eq_true,List.contains_iff_mem] at hp
       obtain⟨xs,n,hn,rfl,_,hxl,hf⟩:=DataW.trod_struct hu h
       obtain rfl:n=fuel:=by omega
       simp only[Rows.uptoBulk] at hb ⊢
       simp only[jI,nc,hu,cellsD,fK]
       refine⟨OP fs.toList xs (by simpa using hxl) λi f y hfi hy=> ?_,trivial⟩
       have hbd:=yJ (xs.map (·.1)) y.1 (List.mem_map.2 ⟨y,List.mem_of_getElem? hy,rfl⟩)
       have:=hf i f (by simpa using hfi)
       rw[hy] at this
       exact(ih f.type _ y (hp.1 f (List.mem_of_getElem? hfi)) this (by omega)).1.mono (by omega)
     | array m e=>
       unfold DataW.trod at h
       rw[hu] at h
       simp only at h
       split at h
       · rw[Option.map_eq_some_iff] at h
         obtain⟨xs,_,rfl⟩:=h
         simp only[Rows.uptoBulk,jI,nc,hu,cellsD,fK]
         exact⟨trivial,trivial⟩
       · cases h
     |_=>cases hp
theorem aa7 {S:List TypeId}(hS:j6 P S=true){B:Nat}{r:Reach}{b0:Nat}{t:TypeId}{v:Value}{d:DataW H}{p:List MemPlace}(ht:t∈S)(hval:Value.okWide P w r b0 t v)
 (h:DataW.Trod enc P w 0 (λ_=>true) true t v d p)(hb:Rows.uptoBulk d<=B):ShT P B t (fK d)/\VT (sg w).F (fK d) v:=by
 obtain⟨fuel,h⟩:=h
 obtain⟨h1,h2⟩:=aa6 hS fuel t _ _ ht h hb
 obtain⟨hr,hcells⟩:=trod_good hS fuel t _ _ ht h
 refine⟨⟨_,_,⟨hb,Nat.le_trans (DE d) hb⟩,h1,h2⟩, ?_⟩
 have hp:=List.all_eq_true.1 hS t ht
 simp only at h2 hr hcells
 have one:∀T,cellsD d=[T]->fK d=T->v.cells= #[v]->VT (sg w).F (fK d) v:=by
  intro T e1 e2 e3;rw[e1,e3] at hr;rw[e2];exact hr.2 0 T v rfl rfl
 cases hu:P.underlying t with
 |none=>rw[hu] at hp;cases hp
 | some u=>
  rw[hu] at hp
  simp only[nc,hu] at h2
  have Sc:=hval
  simp only[Value.okWide,hu] at hval
  generalize Rows.uptoBulk d=fl at h1
  cases fl with
  |zero=>exact h1.elim
  | succ fl=>
   simp only[jI,hu] at h1
   cases u with
   |bool=>obtain⟨b,e⟩:=h1;refine one _ e (by rw[h2,e];rfl) ?_;obtain⟨_,rfl⟩:=okWide_bool hu Sc;rfl
   |int k=>obtain⟨b,e,_⟩:=h1;refine one _ e (by rw[h2,e];rfl) ?_;obtain⟨_,rfl⟩:=okWide_int hu Sc;rfl
   |string=>obtain⟨b,e,_⟩:=h1;refine one _ e (by rw[h2,e];rfl) ?_;obtain⟨_,rfl⟩:=okWide_string hu Sc;rfl
   |slice e'=>obtain⟨b,e,_⟩:=h1;refine one _ e (by rw[h2,e];rfl) ?_;obtain⟨_,_,_,rfl⟩:=okWide_slice hu Sc;rfl
   |struct fs=>
    obtain⟨cs,rfl,_⟩:=hval
    rw[h2]
    simp only[Value.cells] at hr
    have:=VT.agg (F:=(sg w).F) _ _ hr.1 hr.2
    simpa using this
   |array m e=>
    obtain⟨cs,rfl,_⟩:=hval
    rw[h2]
    simp only[Value.cells] at hr
    have:=VT.agg (F:=(sg w).F) _ _ hr.1 hr.2
    simpa using this
   |_=>cases hp
def OQ (P:Program)(B:Nat):List TypeId->List Tree->Prop
 | [],[]=>True
 |t::ts,c::cs=>ShT P B t c/\OQ P B ts cs
 |_,_=>False
theorem XQ {S:List TypeId}(hS:j6 P S=true){B:Nat}{r:Reach}{b0:Nat}:∀(ts:List TypeId) (vs:List Value) (ds:List (DataW H)) (ps:List MemPlace),(∀t∈ts,t∈S)->
 (∀(j:Nat) t v,ts[j]?=some t->vs[j]?=some v->Value.okWide P w r b0 t v)->DataW.TrodAll enc P w 0 (λ_=>true) true ts vs ds ps->Rows.uptoBulkAll ds<=B->
 OQ P B ts (ds.map fK)/\cB (sg w) ((ds.map fK).map .t) vs/\ds.length=ts.length:=by
 intro ts
 induction ts with
 |nil=>
  intro vs ds ps _ _ h _
  obtain⟨rfl,rfl,rfl⟩:=trodAll_nil h
  exact⟨trivial,cB.nil _,rfl⟩
 |cons t ts ih=>
  intro vs ds ps hm hv h hb
  obtain⟨v,vs',d,ds',p,q,rfl,rfl,rfl,hd,hr⟩:=trodAll_cons h
  simp only[Rows.uptoBulkAll] at hb
  obtain⟨h1,h2⟩:=aa7 hS (hm t (by simp)) (hv 0 t v rfl rfl) hd (B:=B) (by omega)
  obtain⟨h3,h4,h5⟩:=ih vs' ds' q (λx hx=>hm x (by simp[hx])) (λj t' v' ht vz=>hv (j+1) t' v' (by simpa using ht) (by simpa using vz)) hr (by omega)
  exact⟨⟨h1,h3⟩,cB.cons (.t _ _ h2) h4,by simp[h5]⟩
theorem QJ (hl:laidOutB P=true){W W':World}{sp':Nat->Bool}:∀(ts:List TypeId) (vs:List Value) (ds:List (DataW H)) (ps:List MemPlace),(∀t∈ts,P.readableRec t=true/\t<P.types.size)->
 DataW.TrodAll enc P W 0 (λ_=>true) true ts vs ds ps->(∀p∈ps,W.sameAt W' p)->(∀p∈ps,sp' p.block=true)->DataW.TrodAll enc P W' 0 sp' true ts vs ds ps:=by
 intro ts
 induction ts with
 |nil=>
  intro vs ds ps _ h _ _
  obtain⟨rfl,rfl,rfl⟩:=trodAll_nil h
  exact trodAll_mk0
 | cons t ts ih=>
  intro vs ds ps hm h h1 h2
  obtain⟨v,vs',d,ds',p,q,rfl,rfl,rfl,hd,hr⟩:=trodAll_cons h
  exact trodAll_cons_mk (WideElems.Trod_stays hl (hm t (by simp)).1 (hm t (by simp)).2 hd (λx hx=>h1 x (by simp[hx])) (λx hx=>h2 x (by simp[hx])))
   (ih vs' ds' q (λx hx=>hm x (by simp[hx])) hr (λx hx=>h1 x (by simp[hx])) (λx hx=>h2 x (by simp[hx])))
end
end Go.Proofs.YtnfnihgmankidaaGreatDoor.arg
