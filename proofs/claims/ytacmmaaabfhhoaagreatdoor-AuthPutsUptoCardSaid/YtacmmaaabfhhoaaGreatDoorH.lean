/- Arguments that came in: trees of the types' forms, not too great. -/
import Derived.Test.YtacmmaaabfhhoaaGreatDoorE
import Derived.Test.YtacmmaaabfhhoaaGreatDoorF
import Derived.Test.YtacmmaaabfhhoaaGreatDoorG
import Derived.Test.YtacmmaaabfhhoaaGreatDoorRows
import Derived.ChangeArms
import Derived.ChangeShapes
import Derived.RowKit
import Derived.WideShapes
import Derived.OpenShut
import Derived.Carry
set_option linter.unusedVariables false
set_option linter.unusedSimpArgs false
namespace Go.Proofs.YtacmmaaabfhhoaaGreatDoor.arg
open Go Go.Abs Go.RowKit Go.ChangeShapes Go.WideShapes
open Go.Abs.Ty (bulk bulks)
def jL (P:Program)(t:TypeId)(ds:List Tree):Tree:=match P.underlying t with
 |some (.struct _)=>.agg ds
 |some (.array _ _)=>.agg ds
 |_=>ds.headD .fq
def k4 (R:TypeId->List Tree->Prop):List Field->List Tree->Prop
 | [],cs=>cs=[]
 |f::r,cs=>∃a b,cs=a++b/\R f.type a/\k4 R r b
def gy (P:Program)(B:Nat):Nat->TypeId->List Tree->Prop
 |0,_,_=>False
 |n+1,t,cs=>match P.underlying t with
  |some .bool=>∃b,cs=[.bool b]
  |some (.int k)=>∃x,cs=[.int k x]/\(Lit.int k x).wf=true
  |some .string=>∃s,cs=[.str s]/\s.length<=B
  |some (.slice e)=>∃l,cs=[.sl l]/\l.length<=B/\∀x∈l,∃ds,gy P B n e ds/\x=jL P e ds
  |some (.struct fs)=>k4 (gy P B n) fs.toList cs
  |_=>True
def ShT (P:Program)(B:Nat)(t:TypeId)(T:Tree):Prop:=∃n ds,(n<=B/\bulk T<=B)/\gy P B n t ds/\T=jL P t ds
theorem k4.mono {R R':TypeId->List Tree->Prop}(h:∀t cs,R t cs->R' t cs):∀(fs:List Field) (cs:List Tree),k4 R fs cs->k4 R' fs cs
 | [],_,hc=>hc
 |f::r,_,⟨a,b,e,h1,h2⟩=>⟨a,b,e,h _ _ h1,k4.mono h r b h2⟩
theorem gy.up {P:Program}{B:Nat}:∀(n:Nat) (t:TypeId) (cs:List Tree),gy P B n t cs->gy P B (n+1) t cs
 |0,_,_,h=>h.elim
 | n + 1,t,cs,h=>by
   cases hu:P.underlying t with
   |none=>simp only[gy,hu]
   | some d=>
     cases d<;>simp only[gy,hu] at h ⊢<;>try exact h
     · obtain⟨l,h1,h2,h3⟩:=h
       exact⟨l,h1,h2,λx hx=>by obtain⟨ds,h4,h5⟩:=h3 x hx;exact⟨ds,gy.up n _ ds h4,h5⟩⟩
     · exact k4.mono (λt cs=>gy.up n t cs) _ _ h
theorem gy.mono {P:Program}{B n m:Nat}(hle:n<=m){t:TypeId}{cs:List Tree}(h:gy P B n t cs):gy P B m t cs:=by
 induction hle with
 |refl=>exact h
 |step _ ih=>exact gy.up _ _ _ ih
section
variable {H:Type}{enc:TypeId×Value->H}{P:Program}{w:World}{base:Nat}{spare:Nat->Bool}{held:Bool}
theorem w8:∀(l:List (DataW H)) (d:DataW H),d∈l->Rows.uptoBulk d<=Rows.uptoBulkAll l
 | [],d,h=>by cases h
 | a ::r,d,h=>by
   rcases List.mem_cons.1 h with rfl|h
   · simp[Rows.uptoBulkAll]
   · have:=w8 r d h
     simp[Rows.uptoBulkAll];omega
theorem Cc:∀(d:DataW H),1<=Rows.uptoBulk d
 |.lit l=>by cases l<;>simp[Rows.uptoBulk]
 |.nil=>by simp[Rows.uptoBulk]
 |.ptr d=>by simp[Rows.uptoBulk]
 |.slice es sp=>by simp[Rows.uptoBulk]
 |.agg ps=>by simp[Rows.uptoBulk]
 |.iface _ d=>by simp[Rows.uptoBulk]
 |.map es=>by simp[Rows.uptoBulk]
 |.held _=>by simp[Rows.uptoBulk]
theorem Ig:∀(l:List (DataW H)),l.length<=Rows.uptoBulkAll l
 | []=>by simp
 |a::r=>by
  have:=Ig r
  have:=Cc a
  simp[Rows.uptoBulkAll];omega
theorem yl:∀(a b:List Tree),bulks (a++b)=bulks a+bulks b
 | [],b=>by simp[bulks]
 |x::r,b=>by
  have:=yl r b
  simp only[List.cons_append,bulks,this];omega
theorem Cd (l:Lit):bulk (yj l)=1:=by cases l<;>rfl
theorem Ih (l:Lit):1<=Rows.uptoBulk (.lit l:DataW H):=Cc _
mutual
theorem Ce:∀(d:DataW H),bulk (gj d)<=Rows.uptoBulk d
 |.lit l=>by
  have:=Ih (H:=H) l
  show bulk (yj l)<=_
  rw[Cd];exact this
 |.nil=>by simp[gj,bulk,bulks,Rows.uptoBulk]
 |.slice es sp=>by
  have:=sP es
  simp only[gj,bulk,Rows.uptoBulk];omega
 |.agg ps=>by
  have:=qW ps
  simp only[gj,bulk,Rows.uptoBulk];omega
 |.ptr d=>by simp[gj,bulk,Rows.uptoBulk]
 |.iface _ d=>by simp[gj,bulk,Rows.uptoBulk]
 |.map es=>by simp[gj,bulk,Rows.uptoBulk]
 |.held _=>by simp[gj,bulk,Rows.uptoBulk]
theorem sP:∀(l:List (DataW H)),bulks (mH l)<=Rows.uptoBulkAll l
 | []=>by simp[mH,bulks]
 |d::r=>by
  have h1:=Ce d
  have h2:=sP r
  rw[nt,List.map_cons,← nt]
  simp only[bulks,Rows.uptoBulkAll];omega
theorem FO:∀(d:DataW H),bulks (cellsD d)<=Rows.uptoBulk d
 |.lit l=>by
  have:=Ih (H:=H) l
  show bulk (yj l)+0<=_
  rw[Cd];exact this
 |.nil=>by simp[cellsD,bulk,bulks,Rows.uptoBulk]
 |.slice es sp=>by
  have:=sP es
  simp only[cellsD,bulk,bulks,Rows.uptoBulk];omega
 |.agg ps=>by
  have:=qW ps
  simp only[cellsD,Rows.uptoBulk];omega
 |.ptr d=>by simp[cellsD,bulks]
 |.iface _ d=>by simp[cellsD,bulks]
 |.map es=>by simp[cellsD,bulks]
 |.held _=>by simp[cellsD,bulks]
theorem qW:∀(l:List (DataW H)),bulks (gp l)<=Rows.uptoBulkAll l
 | []=>by simp[gp,bulks]
 |d::r=>by
  have h1:=FO d
  have h2:=qW r
  simp only[gp,Rows.uptoBulkAll]
  rw[yl];omega
end
theorem Mf {R:TypeId->List Tree->Prop}:∀(fs:List Field) (xs:List (DataW H×List MemPlace)),xs.length=fs.length->
  (∀(i:Nat) f x,fs[i]?=some f->xs[i]?=some x->R f.type (cellsD x.1))->k4 R fs (gp (xs.map (·.1)))
 | [],[],_,_=>by simp[k4,gp]
 |f::r,x::xs,hl,h=>by
  refine⟨cellsD x.1,gp (xs.map (·.1)),by simp[gp],h 0 f x rfl rfl,Mf r xs (by simpa using hl) λi g y hg hy=>h (i+1) g y (by simpa using hg) (by simpa using hy)⟩
 | [],x::xs,hl,_=>by simp at hl
 |f::r,[],hl,_=>by simp at hl
theorem YY {S:List TypeId}(hS:ku P S=true){B:Nat}:∀(fuel:Nat) (t:TypeId) (cs:List Value) (x:DataW H×List MemPlace),t∈S->DataW.trod enc P w base spare held fuel t cs=some x->
 Rows.uptoBulk x.1<=B->gy P B (Rows.uptoBulk x.1) t (cellsD x.1)/\gj x.1=jL P t (cellsD x.1):=by
 intro fuel
 induction fuel with
 |zero=>intro t cs x _ h;simp[DataW.trod] at h
 | succ fuel ih=>
   intro t cs x ht h hb
   have hp:=List.all_eq_true.1 hS t ht
   cases hu:P.underlying t with
   |none=>rw[hu] at hp;cases hp
   | some d=>
     rw[hu] at hp
     cases d with
     | bool=>
       obtain⟨b,_,rfl⟩:=DataW.trod_bool hu h
       refine⟨?_,by simp only[jL,hu,gj,yj,cellsD];rfl⟩
       show gy P B (0+1) t _
       simp only[gy,hu]
       exact⟨b,rfl⟩
     | int k=>
       obtain⟨n,_,rfl,hw⟩:=DataW.trod_int hu h
       refine⟨?_,by simp only[jL,hu,gj,yj,cellsD];rfl⟩
       show gy P B (0+1) t _
       simp only[gy,hu]
       exact⟨n,rfl,hw⟩
     | string=>
       obtain⟨s,_,rfl,hw⟩:=DataW.trod_string hu h
       simp only[Rows.uptoBulk] at hb ⊢
       refine⟨?_,by simp only[jL,hu,gj,yj,cellsD];rfl⟩
       simp only[gy,hu]
       exact⟨_,rfl,by omega⟩
     | slice e=>
       simp only[Bool.and_eq_true,List.contains_iff_mem] at hp
       rcases DataW.trod_slice hu h with ⟨_,rfl⟩|⟨a,len,cap,els,rest,n,hn,_,rfl,_,_,_,hlen,hel,_⟩
       · refine⟨?_,by simp only[jL,hu,gj,cellsD];rfl⟩
         show gy P B (0+1) t _
         simp only[gy,hu]
         exact⟨[],rfl,by simp,by simp⟩
       · obtain rfl:n=fuel:=by omega
         simp only[Rows.uptoBulk] at hb ⊢
         simp only[gy,jL,hu,cellsD,gj]
         have hl:=Ig (els.map (·.1))
         refine⟨⟨_,rfl,by rw[nt,List.length_map];omega,λy hy=> ?_⟩,rfl⟩
         rw[nt] at hy
         obtain⟨d,hd,rfl⟩:=List.mem_map.1 hy
         have hbd:=w8 _ _ hd
         obtain⟨z,hz,rfl⟩:=List.mem_map.1 hd
         obtain⟨i,hi,hzi⟩:=List.getElem_of_mem hz
         have:=hel i (by omega)
         rw[List.getElem?_eq_getElem hi,hzi,Option.bind_eq_some_iff] at this
         obtain⟨cs',_,hc⟩:=this
         obtain⟨h1,h2⟩:=ih e cs' z hp.1 hc (by omega)
         exact⟨_,h1.mono (by omega),h2⟩
     | struct fs=>
       simp only[Bool.and_eq_true,List.all_eq_true,List.contains_iff_mem] at hp
       obtain⟨xs,n,hn,rfl,_,hxl,hf⟩:=DataW.trod_struct hu h
       obtain rfl:n=fuel:=by omega
       simp only[Rows.uptoBulk] at hb ⊢
       simp only[gy,jL,hu,cellsD,gj]
       refine⟨Mf fs.toList xs (by simpa using hxl) λi f y hfi hy=> ?_,trivial⟩
       have hbd:=w8 (xs.map (·.1)) y.1 (List.mem_map.2 ⟨y,List.mem_of_getElem? hy,rfl⟩)
       have:=hf i f (by simpa using hfi)
       rw[hy] at this
       exact(ih f.type _ y (hp.1 f (List.mem_of_getElem? hfi)) this (by omega)).1.mono (by omega)
     | array m e=>
       unfold DataW.trod at h
       rw[hu] at h
       simp only at h
       split at h
       · rw[Option.map_eq_some_iff] at h
         obtain⟨xs,_,rfl⟩:=h
         simp only[Rows.uptoBulk,gy,jL,hu,cellsD,gj]
         exact⟨trivial,trivial⟩
       · cases h
     |_=>cases hp
theorem YZ {S:List TypeId}(hS:ku P S=true){B:Nat}{r:Reach}{b0:Nat}{t:TypeId}{v:Value}{d:DataW H}{p:List MemPlace}(ht:t∈S)(hval:Value.okWide P w r b0 t v)
 (h:DataW.Trod enc P w 0 (λ_=>true) true t v d p)(hb:Rows.uptoBulk d<=B):ShT P B t (gj d)/\VT (qV w).F (gj d) v:=by
 obtain⟨fuel,h⟩:=h
 obtain⟨h1,h2⟩:=YY hS fuel t _ _ ht h hb
 obtain⟨hr,hcells⟩:=trod_good hS fuel t _ _ ht h
 refine⟨⟨_,_,⟨hb,Nat.le_trans (Ce d) hb⟩,h1,h2⟩, ?_⟩
 have hp:=List.all_eq_true.1 hS t ht
 simp only at h2 hr hcells
 have one:∀T,cellsD d=[T]->gj d=T->v.cells= #[v]->VT (qV w).F (gj d) v:=by
  intro T e1 e2 e3;rw[e1,e3] at hr;rw[e2];exact hr.2 0 T v rfl rfl
 cases hu:P.underlying t with
 |none=>rw[hu] at hp;cases hp
 | some u=>
  rw[hu] at hp
  simp only[jL,hu] at h2
  have Qy:=hval
  simp only[Value.okWide,hu] at hval
  generalize Rows.uptoBulk d=fl at h1
  cases fl with
  |zero=>exact h1.elim
  | succ fl=>
   simp only[gy,hu] at h1
   cases u with
   |bool=>obtain⟨b,e⟩:=h1;refine one _ e (by rw[h2,e];rfl) ?_;obtain⟨_,rfl⟩:=okWide_bool hu Qy;rfl
   |int k=>obtain⟨b,e,_⟩:=h1;refine one _ e (by rw[h2,e];rfl) ?_;obtain⟨_,rfl⟩:=okWide_int hu Qy;rfl
   |string=>obtain⟨b,e,_⟩:=h1;refine one _ e (by rw[h2,e];rfl) ?_;obtain⟨_,rfl⟩:=okWide_string hu Qy;rfl
   |slice e'=>obtain⟨b,e,_⟩:=h1;refine one _ e (by rw[h2,e];rfl) ?_;obtain⟨_,_,_,rfl⟩:=okWide_slice hu Qy;rfl
   |struct fs=>
    obtain⟨cs,rfl,_⟩:=hval
    rw[h2]
    simp only[Value.cells] at hr
    have:=VT.agg (F:=(qV w).F) _ _ hr.1 hr.2
    simpa using this
   |array m e=>
    obtain⟨cs,rfl,_⟩:=hval
    rw[h2]
    simp only[Value.cells] at hr
    have:=VT.agg (F:=(qV w).F) _ _ hr.1 hr.2
    simpa using this
   |_=>cases hp
def Mg (P:Program)(B:Nat):List TypeId->List Tree->Prop
 | [],[]=>True
 |t::ts,c::cs=>ShT P B t c/\Mg P B ts cs
 |_,_=>False
theorem Vz {S:List TypeId}(hS:ku P S=true){B:Nat}{r:Reach}{b0:Nat}:∀(ts:List TypeId) (vs:List Value) (ds:List (DataW H)) (ps:List MemPlace),(∀t∈ts,t∈S)->
 (∀(j:Nat) t v,ts[j]?=some t->vs[j]?=some v->Value.okWide P w r b0 t v)->DataW.TrodAll enc P w 0 (λ_=>true) true ts vs ds ps->Rows.uptoBulkAll ds<=B->
 Mg P B ts (ds.map gj)/\cr (qV w) ((ds.map gj).map .t) vs/\ds.length=ts.length:=by
 intro ts
 induction ts with
 |nil=>
  intro vs ds ps _ _ h _
  obtain⟨rfl,rfl,rfl⟩:=trodAll_nil h
  exact⟨trivial,cr.nil _,rfl⟩
 |cons t ts ih=>
  intro vs ds ps hm hv h hb
  obtain⟨v,vs',d,ds',p,q,rfl,rfl,rfl,hd,hr⟩:=trodAll_cons h
  simp only[Rows.uptoBulkAll] at hb
  obtain⟨h1,h2⟩:=YZ hS (hm t (by simp)) (hv 0 t v rfl rfl) hd (B:=B) (by omega)
  obtain⟨h3,h4,h5⟩:=ih vs' ds' q (λx hx=>hm x (by simp[hx])) (λj t' v' ht uy=>hv (j+1) t' v' (by simpa using ht) (by simpa using uy)) hr (by omega)
  exact⟨⟨h1,h3⟩,cr.cons (.t _ _ h2) h4,by simp[h5]⟩
theorem NU (hl:laidOutB P=true){W W':World}{sp':Nat->Bool}:∀(ts:List TypeId) (vs:List Value) (ds:List (DataW H)) (ps:List MemPlace),(∀t∈ts,P.readableRec t=true/\t<P.types.size)->
 DataW.TrodAll enc P W 0 (λ_=>true) true ts vs ds ps->(∀p∈ps,W.sameAt W' p)->(∀p∈ps,sp' p.block=true)->DataW.TrodAll enc P W' 0 sp' true ts vs ds ps:=by
 intro ts
 induction ts with
 |nil=>
  intro vs ds ps _ h _ _
  obtain⟨rfl,rfl,rfl⟩:=trodAll_nil h
  exact trodAll_mk0
 | cons t ts ih=>
  intro vs ds ps hm h h1 h2
  obtain⟨v,vs',d,ds',p,q,rfl,rfl,rfl,hd,hr⟩:=trodAll_cons h
  exact trodAll_cons_mk (WideElems.Trod_stays hl (hm t (by simp)).1 (hm t (by simp)).2 hd (λx hx=>h1 x (by simp[hx])) (λx hx=>h2 x (by simp[hx])))
   (ih vs' ds' q (λx hx=>hm x (by simp[hx])) hr (λx hx=>h1 x (by simp[hx])) (λx hx=>h2 x (by simp[hx])))
end
end Go.Proofs.YtacmmaaabfhhoaaGreatDoor.arg
