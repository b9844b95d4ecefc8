/- What an argument reads as, as a tree. -/
import Derived.Test.YtacmmaaabfhhoaaGreatDoorD
import GoSem.ClaimChange
set_option linter.unusedVariables false
set_option linter.unusedSimpArgs false
noncomputable section
namespace Go.Abs
open Go
def yj:Lit->Tree
 |.bool b=>.bool b
 |.int k n=>.int k n
 |.string s=>.str s
 |_=>.fq
mutual
def cellsD {H:Type}:DataW H->List Tree
 |.lit l=>[yj l]
 |.nil=>[.sl []]
 |.slice es _=>[.sl (mH es)]
 |.agg ps=>gp ps
 |_=>[]
def gp {H:Type}:List (DataW H)->List Tree
 | []=>[]
 |d::r=>cellsD d++gp r
def mH {H:Type}:List (DataW H)->List Tree
 | []=>[]
 |.lit l::r=>yj l::mH r
 |.nil::r=>.sl []::mH r
 |.slice es _::r=>.sl (mH es)::mH r
 |.agg ps::r=>.agg (gp ps)::mH r
 |_::r=>.fq::mH r
end
def gj {H:Type}:DataW H->Tree
 |.lit l=>yj l
 |.nil=>.sl []
 |.slice es _=>.sl (mH es)
 |.agg ps=>.agg (gp ps)
 |_=>.fq
theorem nt {H:Type}:∀(l:List (DataW H)),mH l=l.map gj
 | []=>rfl
 |d::r=>by cases d<;>simp[mH,gj,nt r]
theorem sO {H:Type}:∀(l:List (DataW H)),gp l=l.flatMap cellsD
 | []=>rfl
 |d::r=>by simp[gp,sO r]
def H9 (P:Program)(n:Nat):Nat->List Field->Bool
 |o,[]=>o==n
 |o,f::r=>f.offset==o&&H9 P n (o+P.cellsOf f.type) r
def ku (P:Program)(S:List TypeId):Bool:=S.all λt=>match P.underlying t with
 |some .bool=>true
 |some (.int _)=>true
 |some .string=>true
 |some (.slice e)=>S.contains e&&decide (0<P.cellsOf e)
 |some (.struct fs)=>(fs.toList.all λf=>S.contains f.type)&&H9 P (P.cellsOf t) 0 fs.toList
 |some (.array n e)=>S.contains e&&P.cellsOf t==n*P.cellsOf e
 |_=>false
def qV (w:World):Gh:={
 F:=λb o=>w.cell? ⟨b,o,none⟩
 mu:=λ_=>0
 arr:=λ_=>none
 dom:=λ_=>False}
def uH (F:uh)(ts:List Tree)(vs:List Value):Prop:=vs.length=ts.length/\∀(j:Nat) c v,ts[j]?=some c->vs[j]?=some v->VT F c v
theorem uH.append {F:uh}{a b:List Tree}{u v:List Value}(h:uH F a u)(k:uH F b v):uH F (a++b) (u++v):=by
 refine⟨by simp[h.1,k.1],λj c x hc hx=> ?_⟩;by_cases hj:j<a.length
 ·rw[List.getElem?_append_left hj] at hc;rw[List.getElem?_append_left (by rw[h.1];exact hj)] at hx;exact h.2 j c x hc hx
 ·rw[List.getElem?_append_right (by omega)] at hc;rw[List.getElem?_append_right (by rw[h.1];omega),h.1] at hx;exact k.2 _ c x hc hx
theorem uH.one {F:uh}{a:Tree}{u:Value}(h:VT F a u):uH F [a] [u]:=by
 refine⟨rfl,λj c x hc hx=> ?_⟩;cases j with
 |zero=>simp at hc hx;subst hc;subst hx;exact h
 |succ j=>simp at hc
theorem mapM_some {α β:Type}{f:α->Option β}:∀{l:List α} {r:List β},l.mapM f=some r->r.length=l.length/\∀(i:Nat) a,l[i]?=some a->∃b,r[i]?=some b/\f a=some b
 | [],r,h=>by simp at h;subst h;simp
 | x ::l,r,h=>by
   rw[List.mapM_cons] at h
   cases hx:f x with
   |none=>rw[hx] at h;simp at h
   | some b=>
    rw[hx] at h
    cases hl:l.mapM f with
    |none=>rw[hl] at h;simp at h
    |some bs=>
     rw[hl] at h
     simp at h
     subst h
     obtain⟨e1,e2⟩:=mapM_some hl
     refine⟨by simp[e1],λi a ha=> ?_⟩
     cases i with
     |zero=>simp at ha;subst ha;exact⟨b,rfl,hx⟩
     |succ i=>simpa using e2 i a (by simpa using ha)
theorem cells?_some {w:World}{base:Nat}{a:Addr}{n:Nat}{cs:List Value}(h:w.cells? base a n=some cs):cs.length=n/\∀i,i<n->cs[i]?=w.cell? (a.add i):=by
 unfold World.cells? at h;split at h
 ·obtain⟨e1,e2⟩:=mapM_some h;refine⟨by simpa using e1,λi hi=> ?_⟩;obtain⟨b,hb,hc⟩:=e2 i i (by rw[List.getElem?_range hi]);rw[hb,hc]
 ·cases h
variable {H:Type}{enc:TypeId×Value->H}{P:Program}{w:World}{base:Nat}{spare:Nat->Bool}{held:Bool}
def Reads (w:World)(d:DataW H)(cs:List Value):Prop:=uH (qV w).F (cellsD d) cs/\(gj d).cells=cellsD d
theorem B7 {fs0:List Field}{n:Nat}{cs:List Value}{rd:Field->Option (DataW H×List MemPlace)}{g:Field->List Value}(hg:∀f,g f=(cs.drop f.offset).take (P.cellsOf f.type))(hcs:cs.length=n)
  (ih:∀f∈fs0,∀x,rd f=some x->uH (qV w).F (cellsD x.1) (g f)):
  ∀(fs:List Field) (o:Nat) (xs:List (DataW H×List MemPlace)),(∀f∈fs,f∈fs0)->H9 P n o fs=true->fs.mapM rd=some xs->uH (qV w).F (gp (xs.map (·.1))) (cs.drop o)
 | [],o,xs,_,ht,h=>by
   simp at h
   subst h
   simp[H9] at ht
   subst ht
   rw[List.drop_eq_nil_of_le (by omega)]
   exact⟨rfl,by simp[gp]⟩
 | f ::r,o,xs,hin,ht,h=>by
   simp only[H9,Bool.and_eq_true,beq_iff_eq] at ht
   obtain⟨ho,ht⟩:=ht
   rw[List.mapM_cons] at h
   cases hx:rd f with
   |none=>rw[hx] at h;simp at h
   | some x=>
    rw[hx] at h
    cases hl:r.mapM rd with
    |none=>rw[hl] at h;simp at h
    | some ys=>
     rw[hl] at h
     simp at h
     subst h
     have h2:=B7 hg hcs ih r _ ys (λf hf=>hin f (by simp[hf])) ht hl
     have h1:=ih f (hin f (by simp)) x hx
     rw[hg,ho] at h1
     have e:cs.drop o=(cs.drop o).take (P.cellsOf f.type)++cs.drop (o+P.cellsOf f.type):=by
      rw[← List.drop_drop,List.take_append_drop]
     rw[e]
     simp only[List.map_cons,gp]
     exact h1.append h2
theorem NR {cs:List Value}{n ce:Nat}{rd:List Value->Option (DataW H×List MemPlace)}(hcs:cs.length=n*ce)
 (ih:∀l x,rd l=some x->uH (qV w).F (cellsD x.1) l){xs:List (DataW H×List MemPlace)}(h:(List.range n).mapM (λi=>rd ((cs.drop (i*ce)).take ce))=some xs):
 uH (qV w).F (gp (xs.map (·.1))) cs:=by
 obtain⟨hl,hat⟩:=mapM_some h
 rw[List.length_range] at hl
 have all:∀k,k<=n->uH (qV w).F (gp ((xs.take k).map (·.1))) (cs.take (k*ce)):=by
  intro k;induction k with
  |zero=>intro _;simp only[List.take_zero,List.map_nil,Nat.zero_mul,gp];exact⟨rfl,by simp⟩
  | succ k ihk=>
   intro hk
   obtain⟨x,hx,hr⟩:=hat k k (List.getElem?_range (by omega))
   have e1:xs.take (k+1)=xs.take k++[x]:=by rw[List.take_add_one,hx];rfl
   have e2:cs.take ((k+1) *ce)=cs.take (k*ce)++(cs.drop (k*ce)).take ce:=by rw[Nat.add_mul,Nat.one_mul,List.take_add]
   have e3:gp ((xs.take (k+1)).map (·.1))=gp ((xs.take k).map (·.1))++cellsD x.1:=by
    rw[e1,sO,sO];simp
   rw[e2,e3]
   exact(ihk (by omega)).append (ih _ x hr)
 have:=all n (Nat.le_refl _)
 rwa [List.take_of_length_le (by omega),List.take_of_length_le (by omega)] at this
theorem add_add (a:Addr)(i j:Nat)(h:w.cell? ((a.add i).add j)=w.cell? ((a.add i).add j)):w.cell? ((a.add i).add j)=if i+j=0 then w.cell? a else w.cell? ⟨a.block,a.off+(i+j),none⟩:=by
 unfold Addr.add;by_cases hi:i=0<;>by_cases hj:j=0<;>simp[hi,hj,Nat.add_assoc]
theorem cell?_spot {a:Addr}{v:Value}(h:w.cell? a=some v):a.spot=none:=by
 unfold World.cell? at h;split at h
 ·split at h
  ·cases h
  ·rename_i hs;simpa using hs
 ·cases h
theorem Kg {n:Nat}{e:TypeId}{a:Addr}{len cap:Nat}{els:List (DataW H×List MemPlace)}(hpos:0<P.cellsOf e)(hlc:len<=cap)
 (h:(List.range len).mapM (λi=>(w.cells? base (a.add (i*P.cellsOf e)) (P.cellsOf e)).bind (DataW.trod enc P w base spare held n e))=some els)
 (ih:∀cs x,DataW.trod enc P w base spare held n e cs=some x->Reads w x.1 cs):VT (qV w).F (.sl (mH (els.map (·.1)))) (.slice (some a) len cap):=by
 obtain⟨hl,hat⟩:=mapM_some h
 rw[List.length_range] at hl
 have hel:∀i x,els[i]?=some x->∃cs,w.cells? base (a.add (i*P.cellsOf e)) (P.cellsOf e)=some cs/\Reads w x.1 cs:=by
  intro i x hx;have hi:i<els.length:=(List.getElem?_eq_some_iff.1 hx).1;obtain⟨b,hb,hf⟩:=hat i i (by rw[List.getElem?_range (by omega)]);rw[hx] at hb;cases hb;cases hc:w.cells? base (a.add (i*P.cellsOf e)) (P.cellsOf e) with
  |none=>rw[hc] at hf;simp at hf
  |some cs=>rw[hc] at hf;exact⟨cs,rfl,ih cs x hf⟩
 have htr:mH (els.map (·.1))=els.map λx=>gj x.1:=by rw[nt];simp
 rw[htr]
 cases els with
 | nil=>
   simp at hl
   subst hl
   exact .zm _ _
 | cons x0 r=>
   have hsp:a.spot=none:=by
     obtain⟨cs,hc,_⟩:=hel 0 x0 rfl
     obtain⟨h1,h2⟩:=cells?_some hc
     have:=h2 0 hpos
     have hlt:0<cs.length:=by omega
     rw[List.getElem?_eq_getElem hlt] at this
     rw[add_add _ _ _ rfl] at this
     simp at this
     exact cell?_spot this.symm
   obtain⟨ab,ao,asp⟩:=a
   simp only at hsp
   subst hsp
   have hcell:∀i x k,(x0::r)[i]?=some x->k<P.cellsOf e->∃v,w.cell? ⟨ab,ao+(i*P.cellsOf e+k),none⟩=some v/\∀c,(gj x.1).cells[k]?=some c->VT (qV w).F c v:=by
     intro i x k hx hk
     obtain⟨cs,hc,hg1,hg2⟩:=hel i x hx
     obtain⟨h1,h2⟩:=cells?_some hc
     have:=h2 k hk
     have hlt:k<cs.length:=by omega
     rw[List.getElem?_eq_getElem hlt,add_add _ _ _ rfl] at this
     refine⟨cs[k], ?_,λc hcc=> ?_⟩
     · by_cases h0:i*P.cellsOf e+k=0
       · rw[if_pos h0] at this
         rw[h0]
         exact this.symm
       · rw[if_neg h0] at this
         exact this.symm
     · rw[hg2] at hcc
       exact hg1.2 k c _ hcc (List.getElem?_eq_getElem hlt)
   have hu:∀t∈(x0::r).map λx=>gj x.1,t.cells.length=P.cellsOf e:=by
     intro t ht
     obtain⟨x,hx,rfl⟩:=List.mem_map.1 ht
     obtain⟨i,hi⟩:=List.getElem?_of_mem hx
     obtain⟨cs,hc,hg1,hg2⟩:=hel i x hi
     obtain⟨h1,_⟩:=cells?_some hc
     rw[hg2,← hg1.1,h1]
   have hlen:((x0::r).map λx=>gj x.1).length=len:=by simpa using hl
   have hfl:∀(j:Nat) c,(flat ((x0::r).map λx=>gj x.1))[j]?=some c->∃v,w.cell? ⟨ab,ao+j,none⟩=some v/\VT (qV w).F c v:=by
     intro j c hj
     have hjl:j<(flat ((x0::r).map λx=>gj x.1)).length:=(List.getElem?_eq_some_iff.1 hj).1
     have hfl:(flat ((x0::r).map λx=>gj x.1)).length=len*P.cellsOf e:=by
       rw[← hlen]
       unfold flat
       generalize (x0::r).map (λx=>gj x.1)=l at hu
       induction l with
       |nil=>simp
       | cons t l ihl=>
         rw[List.flatMap_cons,List.length_append,hu t (by simp),ihl (λt ht=>hu t (by simp[ht])),List.length_cons,Nat.add_mul]
         omega
     have qv:=Nat.div_add_mod j (P.cellsOf e)
     have hmod:=Nat.mod_lt j hpos
     have hi:j / P.cellsOf e<len:=by
       rw[hfl] at hjl
       exact Nat.div_lt_of_lt_mul (by rw[Nat.mul_comm];exact hjl)
     have hi':j / P.cellsOf e<(x0::r).length:=by simp at hl;simp;omega
     obtain⟨v,Vn,hv2⟩:=hcell _ _ _ (List.getElem?_eq_getElem hi') hmod
     have he:((x0::r).map λx=>gj x.1)[j / P.cellsOf e]?=some (gj ((x0::r)[j / P.cellsOf e]).1):=by
       rw[List.getElem?_map,List.getElem?_eq_getElem hi']
       rfl
     have hjj:j / P.cellsOf e*P.cellsOf e+j % P.cellsOf e=j:=by rw[Nat.mul_comm];exact qv
     have Qx:=x6 hu he hmod
     rw[hjj,hj] at Qx
     rw[hjj] at Vn
     exact⟨v,Vn,hv2 c Qx.symm⟩
   have:=VT.sl (F:=(qV w).F) (P.cellsOf e) ((x0::r).map λx=>gj x.1) ab ao cap (λj=>(w.cell? ⟨ab,ao+j,none⟩).getD undef) (by simp) (by omega) hu
     (λj c hj=>by
       obtain⟨v,hv,_⟩:=hfl j c hj
       show w.cell? ⟨ab,ao+j,none⟩=_
       rw[hv];rfl)
     (λj c hj=>by
       obtain⟨v,hv,HM⟩:=hfl j c hj
       simp only[hv,Option.getD_some]
       exact HM)
   rw[hlen] at this
   exact this
theorem trod_good {S:List TypeId}(hS:ku P S=true):∀(fuel:Nat) (t:TypeId) (cs:List Value) (x:DataW H×List MemPlace),t∈S->DataW.trod enc P w base spare held fuel t cs=some x->Reads w x.1 cs:=by
 intro fuel;induction fuel with
 |zero=>intro t cs x _ h;simp[DataW.trod] at h
 | succ fuel ih=>
   intro t cs x ht h
   have hp:=List.all_eq_true.1 hS t ht
   unfold DataW.trod at h
   generalize hu:P.underlying t=u at h hp
   split at h
   case h_1 b=>obtain rfl:=Option.some.inj h;exact⟨uH.one (.bool b),rfl⟩
   case h_2 k k' n=>
     split at h
     · rename_i hc
       obtain⟨rfl,_⟩:=hc
       obtain rfl:=Option.some.inj h
       exact⟨uH.one (.int _ n),rfl⟩
     · cases h
   case h_4 s=>
     split at h
     · obtain rfl:=Option.some.inj h
       refine⟨uH.one ?_,rfl⟩
       exact .str s.data.toList
     · cases h
   case h_7 e=>obtain rfl:=Option.some.inj h;exact⟨uH.one (.zm none 0),rfl⟩
   case h_8 e a len cap=>
     simp only[Bool.and_eq_true,List.contains_iff_mem,decide_eq_true_eq] at hp
     simp only at h
     split at h
     · rename_i hc
       cases hm:(List.range len).mapM (λi=>(w.cells? base (a.add (i*P.cellsOf e)) (P.cellsOf e)).bind (DataW.trod enc P w base spare held fuel e)) with
       |none=>rw[hm] at h;simp at h
       | some els=>
         rw[hm] at h
         simp only[Option.bind_some,Option.map_eq_some_iff] at h
         obtain⟨rest,_,rfl⟩:=h
         exact⟨uH.one (Kg hp.2 hc.2.1 hm (λcs x hx=>ih e cs x hp.1 hx)),rfl⟩
     · cases h
   case h_9 fs=>
     simp only[Bool.and_eq_true,List.all_eq_true,List.contains_iff_mem] at hp
     split at h
     · rename_i hl
       rw[Option.map_eq_some_iff] at h
       obtain⟨xs,hm,rfl⟩:=h
       refine⟨?_,rfl⟩
       have:=B7 (fs0:=fs.toList) (w:=w) (cs:=cs) (n:=P.cellsOf t) (g:=λf=>(cs.drop f.offset).take (P.cellsOf f.type)) (λ_=>rfl) hl (λf hf x hx=>(ih f.type _ x (hp.1 f hf) hx).1) fs.toList 0 xs (λ_ h=>h) hp.2 hm
       simpa [cellsD] using this
     · cases h
   case h_10 n e=>
     simp only[Bool.and_eq_true,List.contains_iff_mem,beq_iff_eq] at hp
     split at h
     · rename_i hl
       rw[Option.map_eq_some_iff] at h
       obtain⟨xs,hm,rfl⟩:=h
       exact⟨NR (by rw[hl,hp.2]) (λl x hx=>(ih e l x hp.1 hx).1) hm,rfl⟩
     · cases h
   all_goals first|(simp at hp;done)|(cases h;done)
end Go.Abs
