/- slices.SortFunc of attributes, by their names: the row in order. -/
import Derived.WalkKit
import Derived.OwnWalkIn
import Derived.TacticsInMore
import Derived.Shelf.Abstract
import Derived.Shelf.SlSortCmp.WholeK
import Derived.Sort.LotA
import Derived.Test.YtijfhoelihclbaaGreatDoorSrt
import Derived.Test.YtijfhoelihclbaaGreatDoorShelf
import Derived.Test.YtijfhoelihclbaaGreatDoorS
import Derived.Test.YtijfhoelihclbaaGreatDoorAE
namespace Go.Proofs.YtijfhoelihclbaaGreatDoor.w
open Go Go.Abs Go.RowKit Go.Sort Go.Shelf
set_option linter.unusedVariables false
attribute [local go_sem] Oper.semAt_some
def Wt:Tree→List UInt8
 |.agg (.str n::_)=>n
 |_=>[]
def Ks (a b:List UInt8):Int:=if a<b then -1 else if b<a then 1 else 0
def cfA (l:List Tree)(i j:Nat):Int:=Ks (Wt (l[i]?.getD .cg)) (Wt (l[j]?.getD .cg))
def permA (l:List Tree):Array Nat:=pdq (ltOf (cfA l)) (Array.range l.length) 0 l.length (Lib.bitLen l.length) true true
def gM (l:List Tree):List Tree:=(permA l).toList.map fun i=>l[i]?.getD .cg
def AtF (e:Tree):Prop:=∃n k s os bs,e=.agg [.str n,.int .u8 k,.str s,.sl os,.sl bs]
theorem D2 (l:List Tree)(i j:Nat):ltOf (cfA l) i j=ltStr (Wt (l[i]?.getD .cg)) (Wt (l[j]?.getD .cg)):=by
 unfold ltOf cfA Ks ltStr
 by_cases h1:Wt (l[i]?.getD .cg)<Wt (l[j]?.getD .cg)
 · simp[h1]
 · by_cases h2:Wt (l[j]?.getD .cg)<Wt (l[i]?.getD .cg)<;>simp[h1,h2]
theorem afS (l:List Tree):SWO (ltOf (cfA l)) where
 irrefl x:=by rw[D2];exact swo_ltStr.irrefl _
 trans x y z h1 h2:=by rw[D2] at*;exact swo_ltStr.trans _ _ _ h1 h2
 ntrans x y z h1 h2:=by rw[D2] at*;exact swo_ltStr.ntrans _ _ _ h1 h2
theorem D3 (l:List Tree):(permA l).toList.Perm (List.range l.length):=by
 have h:=(pdq_sorts (ltOf (cfA l)) (afS l) (Array.range l.length) 0 (Array.range l.length).size (Lib.bitLen l.length) true true (Nat.zero_le _) (Nat.le_refl _) (Or.inl rfl)).1
 have h3:=h.2.2
 have hs:=h.1
 simp only[Array.size_range] at h3 hs
 have e1:(permA l).extract 0 l.length=permA l:=by
  have:(permA l).size=l.length:=hs
  rw[← this];exact Array.extract_size
 have e2:(Array.range l.length).extract 0 l.length=Array.range l.length:=by
  have:=Array.extract_size (xs:=Array.range l.length)
  rwa [Array.size_range] at this
 have h4:((permA l).extract 0 l.length).toList.Perm ((Array.range l.length).extract 0 l.length).toList:=h3
 rw[e1,e2] at h4
 simpa using h4
theorem s4 (l:List Tree):(permA l).size=l.length:=by
 have:=(D3 l).length_eq
 simpa using this
theorem gu (l:List Tree):(gM l).length=l.length:=by simp[gM,s4]
theorem D4 {l:List Tree}{j:Nat}(hj:j<l.length):(permA l)[j]! <l.length:=by
 have hj':j<(permA l).size:=by rw[s4];exact hj
 rw[getElem!_pos _ j hj']
 have:(permA l)[j]∈(permA l).toList:=by simp
 have:=(D3 l).mem_iff.1 this
 simpa using this
theorem D5 {l:List Tree}{j:Nat}(hj:j<l.length):(gM l)[j]?=l[(permA l)[j]!]?:=by
 have hj':j<(permA l).size:=by rw[s4];exact hj
 have h:=D4 hj
 rw[getElem!_pos _ j hj'] at h ⊢
 simp only[gM,List.getElem?_map,Array.getElem?_toList,Array.getElem?_eq_getElem hj',Option.map_some,List.getElem?_eq_getElem h,Option.getD_some]
theorem rO {l:List Tree}{x:Tree}(h:x∈gM l):x∈l:=by
 obtain⟨j,hj,e⟩:=List.getElem_of_mem h
 rw[gu] at hj
 have h1:=D5 hj
 rw[List.getElem?_eq_getElem (by rw[gu];exact hj),e] at h1
 exact List.mem_of_getElem? h1.symm
theorem FY (x:Tree):gM [x]=[x]:=by
 have h1:=D5 (l:=[x]) (j:=0) (by simp)
 have h2:=D4 (l:=[x]) (j:=0) (by simp)
 have h3:=gu [x]
 match h:gM [x],h3 with
 | [y],_=>
  rw[h] at h1
  have e:(permA [x])[0]! =0:=by simp at h2;exact h2
  rw[e] at h1
  simpa using h1
theorem vq:∀(L:List Tree) (hu:∀e∈L,e.cells.length=5) (j:Nat),(flat L)[j]?=(L[j / 5]?).bind fun e=>e.cells[j % 5]?
  | [],_,j=>by simp[flat]
  | a ::L,hu,j=>by
    have ha:a.cells.length=5:=hu a List.mem_cons_self
    have ih:=vq L (fun e he=>hu e (List.mem_cons_of_mem _ he))
    have e:flat (a::L)=a.cells++flat L:=rfl
    rw[e]
    by_cases h:j<5
    · rw[List.getElem?_append_left (by omega),Nat.div_eq_of_lt h,Nat.mod_eq_of_lt h];rfl
    · obtain⟨k,rfl⟩:∃k,j=k+5:=⟨j - 5,by omega⟩
      rw[List.getElem?_append_right (by omega),ha,Nat.add_sub_cancel,ih,Nat.add_div_right _ (by decide),Nat.add_mod_right]
      rfl
theorem Yh (x:ByteArray)(w:World):Calls Tryz.prog 98 #[.string x] w fun e w'=>e=.returned (.bool false)∧w'=w:=by
 go_enter Tryz.func98,Tryz.ntmps98
 go_wp2
 go_ret
 exact⟨by simp,rfl⟩
theorem bytesLess_eq:∀(x y:List UInt8),Op.bytesLess x y=decide (x<y)
 | [],[]=>by simp[Op.bytesLess]
 |_::_,[]=>by simp[Op.bytesLess]
 | [],_::_=>by simp[Op.bytesLess]
 |a::x,b::y=>by
  rw[Op.bytesLess,bytesLess_eq x y]
  simp only[List.cons_lt_cons_iff]
  by_cases h1:a<b<;>by_cases h2:a=b<;>by_cases h3:x<y<;>simp[h1,h2,h3]
theorem afT (x y:List UInt8)(w:World):Sem.run Tryz.prog (binOp .gtr 9 (.string ⟨x.toArray⟩) (.string ⟨y.toArray⟩)) w=.ok (.bool (!(Op.bytesLess x y||x==y))) w:=by
 simp[binOp,Op.stringOp,Lib.toList_data]
theorem afU {x y:List UInt8}(h1:¬x<y)(h2:x≠y):y<x:=by
 by_cases h:y<x
 · exact h
 · exact absurd (List.le_antisymm (List.not_lt.1 h) (List.not_lt.1 h1)) h2
set_option maxHeartbeats 1000000 in
theorem QK (x y:List UInt8)(w:World):Calls Tryz.prog 60 #[.string ⟨x.toArray⟩,.string ⟨y.toArray⟩] w fun e w'=>e=.returned (.int .i64 (Ks x y))∧w'=w:=by
  go_enter Tryz.func60,Tryz.ntmps60
  go_wp2_with (go_at_call 98;refine(Yh _ _).mono ?_;rintro e w' ⟨rfl,rfl⟩)
  · rename_i h
    have h:=of_decide_eq_true ((bytesLess_eq x y).symm.trans h)
    rw[show Ks x y=-1 from if_pos h]
    go_ret
    exact⟨rfl,rfl⟩
  · rename_i h _ _ _ _ _ _
    have hx:¬x<y:=of_decide_eq_false ((bytesLess_eq x y).symm.trans h)
    rw[afT,h,Bool.false_or]
    simp only[Result.andThen_ok]
    obtain⟨b,hb⟩:∃b,b=(x==y):=⟨_,rfl⟩
    have hc:Ks x y=if b=true then 0 else 1:=by
      unfold Ks
      rw[if_neg hx]
      by_cases e:x=y
      · subst e;simp[hb,hx]
      · have:(x==y)=false:=by simpa using e
        rw[if_pos (afU hx e),hb,this];rfl
    rw[← hb]
    clear hb
    cases b
    · go_wp2
      go_ret
      exact⟨by first|rfl|(rw[hc];rfl),rfl⟩
    · go_wp2
      go_ret
      exact⟨by first|rfl|(rw[hc];rfl),rfl⟩
def p0 (us:Array Value)(n i:Nat):List Value:=if i<n then(us.toList.drop (i*5)).take 5 else [.string ⟨#[]⟩,.int .u8 0,.string ⟨#[]⟩,.slice none 0 0,.slice none 0 0]
set_option maxHeartbeats 1000000 in
theorem Vr (a b:List UInt8)(k k2:Int)(s s2:ByteArray)(p1 p2 p3 p4:Option Addr)(n1 n2 n3 n4 c1 c2 c3 c4:Nat)(W:World):
  Calls Tryz.prog 59 #[.agg #[.string ⟨a.toArray⟩,.int .u8 k,.string s,.slice p1 n1 c1,.slice p2 n2 c2],.agg #[.string ⟨b.toArray⟩,.int .u8 k2,.string s2,.slice p3 n3 c3,.slice p4 n4 c4]] W fun e w'=>e=.returned (.int .i64 (Ks a b))∧∃q os',w'=grow (W.drewN q) os':=by
 have Vs:=fun W'=>QK a b W'
 generalize Ks a b=r at Vs ⊢
 go_enter Tryz.func59,Tryz.ntmps59
 go_wp2_with (go_at_call 60;refine(Vs _).mono ?_;rintro e w' ⟨rfl,rfl⟩)
 go_ret
 exact⟨rfl,0,_,by rw[alloc_eq_grow,alloc_eq_grow,grow_grow];rfl⟩
set_option maxHeartbeats 1000000 in
theorem Vt (m:Int)(l:List Tree)(hl:l.length≤4194304)(hne:l≠ [])(hf:∀e∈l,AtF e):
    ay (cf m) 58 [.ref (.arg 0) 0 l.length,.t (.fn (.func 59))] [.arr (45,true) 5 false ((flat l).map .t)] (.ret (.t (.bN [])) [.arr (45,true) 5 false ((flat (gM l)).map .t)] []):=by
  intro G w vs hw hg had hH hv
  obtain⟨x,vs1,rfl,hx,hv⟩:=hv.iN
  obtain⟨y,rfl,hy⟩:=hv.only
  obtain⟨hd,ho⟩:=hH (.arg 0) _ rfl
  obtain⟨_,cap,us,ty,fr,ha,hh,⟨qQ,hty⟩,hsz,hcl,Ep,hF⟩:=ho
  have hu:∀e∈l,e.cells.length=5:=fun e he=>by obtain⟨n,k,s,os,bs,rfl⟩:=hf e he;rfl
  have EZ:∀e∈gM l,e.cells.length=5:=fun e he=>hu e (rO he)
  have hn:((flat l).map TV.t).length=l.length*5:=by rw[List.length_map,gZ hu]
  have hn2:((flat (gM l)).map TV.t).length=l.length*5:=by rw[List.length_map,gZ EZ,gu]
  rw[hn] at ha hcl Ep
  have hpos:0<l.length:=by cases l with|nil=>exact absurd rfl hne|cons=>simp
  obtain rfl:y=.func (.func 59) #[] #[]:=by
    cases hy with|t _ _ hy=>cases hy;rfl
  obtain rfl:x=.slice (some ⟨G.mu (.arg 0),0,none⟩) l.length cap:=by
    cases hx with
    | ref k off len n bR cap' v hd' ha' hle' ho' hv'=>
      rw[ha] at ha';cases ha'
      obtain⟨a,rfl,h2⟩:=hv' (by omega)
      have:=h2 (by omega)
      subst this;rfl
  have hcell:∀q c,(flat l)[q]?=some c→∃v,us[q]?=some v∧VT G.F c v:=fun q c hc=>by
    have hq:q<l.length*5:=by rw[← gZ hu];exact(List.getElem?_eq_some_iff.1 hc).1
    obtain⟨v,YG,hv2⟩:=Ep.at (j:=q) (c:=.t c) (by rw[List.getElem?_map,hc];rfl)
    rw[List.getElem?_take_of_lt hq,Array.getElem?_toList] at YG
    cases hv2 with|t _ _ h=>exact⟨v,YG,h⟩
  have Yi:∀i,∃(k:Int) (s:ByteArray) (p1:Option Addr) (n1 c1:Nat) (p2:Option Addr) (n2 c2:Nat),p0 us l.length i=[.string ⟨(Wt (l[i]?.getD .cg)).toArray⟩,.int .u8 k,.string s,.slice p1 n1 c1,.slice p2 n2 c2]:=fun i=>by
    by_cases hi:i<l.length
    · obtain⟨n,k,s,os,bs,he⟩:=hf l[i] (List.getElem_mem hi)
      have hat:∀r,r<5→(flat l)[i*5+r]?=(Tree.agg [.str n,.int .u8 k,.str s,.sl os,.sl bs]).cells[r]?:=fun r hr=>by
        rw[vq l hu,show(i*5+r)/ 5=i by omega,show(i*5+r) % 5=r by omega,List.getElem?_eq_getElem hi,he];rfl
      obtain⟨v0,h0,w0⟩:=hcell _ _ (hat 0 (by decide))
      obtain⟨v1,h1,w1⟩:=hcell _ _ (hat 1 (by decide))
      obtain⟨v2,h2,w2⟩:=hcell _ _ (hat 2 (by decide))
      obtain⟨v3,h3,w3⟩:=hcell _ _ (hat 3 (by decide))
      obtain⟨v4,h4,w4⟩:=hcell _ _ (hat 4 (by decide))
      have hnm:Wt (l[i]?.getD .cg)=n:=by rw[List.getElem?_eq_getElem hi,Option.getD_some,he];rfl
      have XM:p0 us l.length i=[v0,v1,v2,v3,v4]:=by
        unfold p0
        rw[if_pos hi]
        apply List.ext_getElem?
        intro r
        by_cases hr:r<5
        · rw[List.getElem?_take_of_lt hr,List.getElem?_drop,Array.getElem?_toList]
          match r,hr with
          |0,_=>exact h0
          |1,_=>exact h1
          |2,_=>exact h2
          |3,_=>exact h3
          |4,_=>exact h4
        · rw[List.getElem?_eq_none (by simp;omega),List.getElem?_eq_none (by simp;omega)]
      rw[XM,hnm]
      cases w0;cases w1;cases w2
      obtain⟨p1,n1,c1,rfl⟩:∃p n c,v3=.slice p n c:=by
        cases w3 with
        |vO a c=>exact⟨_,_,_,rfl⟩
        |sl bR es b o c vals=>exact⟨_,_,_,rfl⟩
      obtain⟨p2,n2,c2,rfl⟩:∃p n c,v4=.slice p n c:=by
        cases w4 with
        |vO a c=>exact⟨_,_,_,rfl⟩
        |sl bR es b o c vals=>exact⟨_,_,_,rfl⟩
      exact⟨_,_,_,_,_,_,_,_,rfl⟩
    · refine⟨0,⟨#[]⟩,none,0,0,none,0,0, ?_⟩
      unfold p0
      rw[if_neg hi,List.getElem?_eq_none (by omega)]
      rfl
  have hk:∀i,(p0 us l.length i).length=5:=fun i=>by obtain⟨k,s,p1,n1,c1,p2,n2,c2,e⟩:=Yi i;rw[e];rfl
  have h1:∀i,∀v∈p0 us l.length i,v.oneCell'=true:=fun i v hv=>by
    obtain⟨k,s,p1,n1,c1,p2,n2,c2,e⟩:=Yi i
    rw[e] at hv
    simp only[List.mem_cons,List.not_mem_nil,or_false] at hv
    rcases hv with rfl|rfl|rfl|rfl|rfl<;>rfl
  have hcmp:CmpLays Tryz.prog 59 #[] (p0 us l.length) 5 (cfA l) (G.mu (.arg 0)) 0 (Array.range l.length).size w:=fun mm os dk _ i j=>by
    obtain⟨k,s,p1,n1,c1,p2,n2,c2,e⟩:=Yi i
    obtain⟨k',s',p3,n3,c3,p4,n4,c4,e'⟩:=Yi j
    generalize sortWorldK (p0 us l.length) 5 w (G.mu (.arg 0)) 0 mm dk os=W
    rw[e,e']
    exact Vr _ _ _ _ _ _ _ _ _ _ _ _ _ _ _ _ _ _ W
  have hrd:∀i,i<l.length→(Array.range l.length)[i]! =i:=fun i hi=>by simp[hi]
  have afV:∀(D:Array Nat),D.size=l.length→(∀q,q<l.length→D[q]! <l.length)→∀j,j<l.length*5→us[D[j / 5]! *5+j % 5]?=some (flatK (p0 us l.length) 5 D)[j]!:=fun D hD hlt j hj=>by
    have hj5:j / 5<l.length:=by omega
    have hq:=hlt _ hj5
    rw[get_flatK _ _ _ _ (by rw[hD];exact hj)]
    have hlen:D[j / 5]! *5+j % 5<us.size:=by omega
    have:(p0 us l.length D[j / 5]!)[j % 5]?=us[D[j / 5]! *5+j % 5]?:=by
      unfold p0
      rw[if_pos hq,List.getElem?_take_of_lt (by omega),List.getElem?_drop,Array.getElem?_toList]
    rw[← this]
    have h5:j % 5<(p0 us l.length D[j / 5]!).length:=by rw[hk];omega
    rw[List.getElem?_eq_getElem h5,getElem!_pos (p0 us l.length D[j / 5]!) (j % 5) h5]
  have afW:HoldsK (p0 us l.length) 5 w (G.mu (.arg 0)) 0 (Array.range l.length):=fun j hj=>by
    have hj':j<l.length*5:=by simpa using hj
    have hju:j<us.size:=by omega
    refine⟨?_,by rw[Nat.zero_add];exact j8 hh qQ hju⟩
    have:=afV (Array.range l.length) (by simp) (fun q hq=>by rw[hrd q hq];exact hq) j hj'
    rw[hrd _ (by omega),show j / 5*5+j % 5=j by omega] at this
    simp only[World.cell?,hh,Nat.zero_add]
    exact this
  have eg:∀args w,(callFunc 59 args).run Tryz.prog w=.ok (.enter 59 args) w:=enters_of Tryz.func59 (by kernel_rfl) rfl
  have es:∀args w,(callFunc 58 args).run Tryz.prog w=.ok (.enter 58 args) w:=enters_of Tryz.func58 (by kernel_rfl) rfl
  have Vs:=AnyQ.slices_SortFunc_eq Tryz.sortf58 5 Tryz.isAgg45 Tryz.sizeOf45 (p0 us l.length) hk h1 (cfA l) (afS l) 59 #[] (G.mu (.arg 0)) 0 cap (Array.range l.length) w eg hcmp afW (hw.lt _ hd) (by simp;omega)
  rw[Array.size_range] at Vs
  refine .inl ⟨es _ _,Calls.mono Vs ?_⟩
  rintro e w' ⟨rfl,q,os,rfl⟩
  have hps:=s4 l
  obtain⟨D,hD⟩:∃D,D=permA l:=⟨_,rfl⟩
  have hDs:D.size=l.length:=by rw[hD];exact hps
  have hDl:∀q,q<l.length→D[q]! <l.length:=fun q hq=>by rw[hD];exact D4 hq
  change vw G w 1 _ _ (sortWorldK (p0 us l.length) 5 w (G.mu (.arg 0)) 0 q (permA l) os)
  rw[← hD]
  obtain⟨w',hw'⟩:∃w',w'=sortWorldK (p0 us l.length) 5 w (G.mu (.arg 0)) 0 q D os:=⟨_,rfl⟩
  rw[← hw']
  have gB:w.grownBy w' (some (G.mu (.arg 0))):=by
    rw[hw']
    unfold sortWorldK putRowK
    refine⟨rfl,rfl,rfl,by simp,fun k hk hne=> ?_⟩
    rw[heap_grow_old _ _ (by simpa using hk)]
    have:G.mu (.arg 0)≠k:=fun e=>hne (by rw[e])
    simp[putRow,mapBlock,Sort.ahead,Array.getElem?_modify,this]
  have hblk:w'.heap[G.mu (.arg 0)]?=some (.cells (putCells id 0 (flatK (p0 us l.length) 5 D) us) ty fr):=by
    rw[hw']
    unfold sortWorldK putRowK
    rw[heap_grow_old _ _ (by simpa using hw.lt _ hd)]
    simp only[putRow,mapBlock,Sort.ahead,Array.getElem?_modify,if_true,hh,Option.map_some,onCells]
  have hcs:(putCells id 0 (flatK (p0 us l.length) 5 D) us).size=us.size:=by simp[putCells]
  refine⟨_,G,rfl,⟨.refl G,⟨fun b o v hf=> ?_,hw.inj,fun k d=>Nat.lt_of_lt_of_le (hw.lt k d) gB.size⟩,fun _ _ h=>absurd trivial h,fun b hlt hn=>⟨gB.block b hlt fun e=>hn _ trivial hd (Option.some.inj e).symm,fun _=>rfl⟩,fun _ d=>.inl d,fun _ d=>.inl ⟨d,rfl⟩,gB.size,gB.os,gB.tape,gB.output⟩,rfl,fun i o ho=> ?_,fun _ _ h=>by simp at h, ?_⟩
  · obtain⟨us',t',f',h1,h2⟩:=hw.F b o v hf
    have hb:b≠G.mu (.arg 0):=fun e=>by
      subst e
      rw[hF o (.inl rfl)] at hf;cases hf
    exact⟨us',t',f',by rw[gB.block b (Array.getElem?_eq_some_iff.1 h1).1 fun e=>hb (Option.some.inj e)];exact h1,h2⟩
  · match i,ho with
    | 0,ho=>
      simp at ho;subst ho
      refine⟨hd,by decide,cap,_,ty,fr,by rw[hn2];exact ha,hblk,⟨fun o ho=>qQ o (by rw[hcs] at ho;exact ho),hty⟩,by rw[hcs];exact hsz,by rw[hn2,hcs];exact hcl, ?_,fun o _=>hF o (.inl rfl)⟩
      rw[hn2]
      have hlq:(putCells id 0 (flatK (p0 us l.length) 5 D) us).toList.length=us.size:=(Array.length_toList (xs:=putCells id 0 (flatK (p0 us l.length) 5 D) us)).trans hcs
      refine⟨by rw[List.length_take,hlq,hn2];omega,fun j c v hc hv=> ?_⟩
      rw[List.getElem?_map,Option.map_eq_some_iff] at hc
      obtain⟨c,hc,rfl⟩:=hc
      have hj:j<l.length*5:=by rw[← hn2,List.length_map];exact(List.getElem?_eq_some_iff.1 hc).1
      rw[List.getElem?_take_of_lt hj,Array.getElem?_toList] at hv
      have hju:j<us.size:=by omega
      have hv2:v=(flatK (p0 us l.length) 5 D)[j]!:=by
        simp only[putCells,Array.getElem?_mapIdx,Array.getElem?_eq_getElem hju,Option.map_some,size_flatK,hDs,Nat.zero_le,true_and,Nat.zero_add,if_pos hj,Option.some.injEq,Nat.sub_zero,id] at hv
        exact hv.symm
      have h3:=afV D hDs hDl j hj
      rw[vq _ EZ,D5 (by omega),← hD] at hc
      have bE:(flat l)[D[j / 5]! *5+j % 5]?=some c:=by
        rw[vq l hu,show(D[j / 5]! *5+j % 5)/ 5=D[j / 5]! by omega,show(D[j / 5]! *5+j % 5) % 5=j % 5 by omega]
        exact hc
      obtain⟨v',h4,h5⟩:=hcell _ _ bE
      rw[h3] at h4
      cases h4
      rw[hv2]
      exact .t _ _ h5
  · exact .t _ _ (.bN [] [] rfl (by simp))
end Go.Proofs.YtijfhoelihclbaaGreatDoor.w

namespace Go.Proofs.YtijfhoelihclbaaGreatDoor.w.e
open Go Go.Abs Go.Abs.Ty
set_option linter.unusedVariables false
set_option maxRecDepth 100000
set_option maxHeartbeats 2000000
noncomputable section
abbrev ajW:TI:={size:=1,bytes:=1,agg:=false,zero:=some (.t (.int .u8 0)),desc:=.int .u8}
theorem acJ {m:Int}:(cf m).P.ty 22=some ajW:=by kernel_rfl
abbrev ajX:TI:={size:=1,bytes:=8,agg:=false,zero:=some (.t .gN),desc:=.map 22 109}
theorem afX {m:Int}:(cf m).P.ty 65=some ajX:=by kernel_rfl
abbrev afY:TI:={size:=3,bytes:=3,agg:=true,zero:=some (.t (.agg [.int .u8 0,.int .u8 0,.int .u8 0])),desc:=descOf 109}
theorem Vu {m:Int}:(cf m).P.ty 109=some afY:=by kernel_rfl
theorem acK {m:Int}:fN (cf m).P 68 2=some 5:=by kernel_rfl
theorem Vv (P:kK)(kt:TypeId)(a b:Int):Is P kt (.int .u8) (.t (.int .u8 a)) (.t (.int .u8 b))=some (a==b):=rfl
theorem ajY {m:Int}(b:Bool)(a:Int):s8 (cf m).P b 22 (.t (.int .u8 a))=true:=by cases b<;>kernel_rfl
theorem Kt {P:kK}{kt:TypeId}{op:Int}:∀{es:List (TV×TV×Nat)},(∀e∈es,∃k:Int,e.1=.t (.int .u8 k)∧op≠k)→∀i,j5 P kt (.int .u8) (.t (.int .u8 op)) es i=some none
 | [],_,_=>rfl
 |(x,v,b)::r,h,i=>by
  obtain⟨k,hk,hne⟩:=h _ List.mem_cons_self
  simp only at hk
  subst hk
  unfold j5
  rw[Vv,show(op==k)=false from beq_eq_false_iff_ne.2 hne]
  exact Kt (fun e he=>h e (List.mem_cons_of_mem _ he)) (i+1)
def OG (op:Int):Prop:=op≠9∧op≠10∧op≠11∧op≠12∧op≠13∧op≠23∧op≠27
theorem Yj {m:Int}{ev:aS}{f:FuncId}{H:Heap}{n:Nat}{sp:List (Nat×TV)}{t:Nat}{d:Option Tmp}{x k:Operand}{nm:Nm}{op:Int}(ho:OG op)(h1:bO (cf m) n sp x=some (.map nm))(h2:bO (cf m) n sp k=some (.t (.int .u8 op)))(hg:H.get nm=some aI):
  cq (cf m) ev f H n sp t d (.lookup 65 x k true) (.t (.bN [.agg [.int .u8 0,.int .u8 0,.int .u8 0],.bool false])) []:=fun _ _ _ _=>by
 obtain⟨o1,o2,o3,o4,o5,o6,o7⟩:=ho
 have hf:j5 (cf m).P 22 (.int .u8) (.t (.int .u8 op)) [(.t (.int .u8 9),.t (.agg [.int .u8 6,.int .u8 0,.int .u8 1]),0),(.t (.int .u8 10),.t (.agg [.int .u8 4,.int .u8 0,.int .u8 1]),1),(.t (.int .u8 11),.t (.agg [.int .u8 3,.int .u8 0,.int .u8 1]),2),(.t (.int .u8 12),.t (.agg [.int .u8 1,.int .u8 0,.int .u8 1]),3),(.t (.int .u8 13),.t (.agg [.int .u8 2,.int .u8 0,.int .u8 2]),4),(.t (.int .u8 23),.t (.agg [.int .u8 4,.int .u8 7,.int .u8 1]),5),(.t (.int .u8 27),.t (.agg [.int .u8 5,.int .u8 0,.int .u8 1]),6)] 0=some none:=Kt (fun e he=>by
  simp only[List.mem_cons,List.not_mem_nil,or_false] at he
  rcases he with rfl|rfl|rfl|rfl|rfl|rfl|rfl
  · exact⟨_,rfl,o1⟩
  · exact⟨_,rfl,o2⟩
  · exact⟨_,rfl,o3⟩
  · exact⟨_,rfl,o4⟩
  · exact⟨_,rfl,o5⟩
  · exact⟨_,rfl,o6⟩
  · exact⟨_,rfl,o7⟩) 0
 have hl:nO (cf m).P H 65 (.map nm) (.t (.int .u8 op)) true=some (.t (.bN [.agg [.int .u8 0,.int .u8 0,.int .u8 0],.bool false])):=by
  unfold aI at hg
  simp only[nO,bf,afX,acJ,Vu,mapOf,hg,ajY,if_true,hf]
  rfl
 simp only[aX,evalOp,bL h1,bL h2,hl,vQ,Option.map_some]
theorem MY (m:Int)(E:Env)(hE:qK E)(op:Int)(hk:OG op):ay (cf m) 63 [.ptr (.arg 0) 0,.t (.int .u8 op)] [.cells 68 [.t (.sl E.ts),.t (.sl E.ac),.t (.str E.p),.t (.str E.r),.t (.sl E.c),.map (.arg 1)],aI] (.ret (.t (.agg [.int .u8 (aO op).1,.int .u8 (aO op).2.1,.int .u8 (aO op).2.2])) [.cells 68 [.t (.sl E.ts),.t (.sl E.ac),.t (.str E.p),.t (.str E.r),.t (.sl E.c),.map (.arg 1)],aI] []):=by
  obtain⟨lt,ht,la,ha,lc,hc⟩:=hE
  obtain⟨ev,ai⟩:∃ev,aF (cf m) ev:=⟨_,aH⟩
  refine ay.gL ?_
  refine AX.start 35 2 Tryz.func63 rfl (by decide) rfl rfl (by decide) ?_
  refine AX.frames ?_
  refine Io (f:=0) (n:=3000) (once:=[]) (k:=35) (T:=1) (S:=[.loc [0]]) (ks:=[.loc [0],.arg 0,.arg 1]) (live:=[0,1,4]) ah ai (Tryz.f63.body.getD .skip) 1 rfl (⟨bX 35 [(0,.ptr (.arg 0) 0),(1,.t (.int .u8 op)),(4,.ptr (.loc [0]) 0)],[(.loc [0],.cells 109 [.t (.int .u8 0),.t (.int .u8 0),.t (.int .u8 0)]),(.arg 0,.cells 68 [.t (.sl E.ts),.t (.sl E.ac),.t (.str E.p),.t (.str E.r),.t (.sl E.c),.map (.arg 1)]),(.arg 1,aI)],1⟩) [oN (o:=aI) (fun _=>rfl)] (by kernel_rfl) ?_
  refine AX.region ?_
  refine au.go (f:=0) ai (ak rfl) ?_
  refine au.go (f:=0) ai (Y0 rfl rfl) ?_
  refine au.go (f:=0) ai (aD rfl acK rfl) ?_
  refine au.go (f:=0) ai (bg rfl (ld afX rfl rfl)) ?_
  refine au.go (f:=0) ai (ak rfl) ?_
  refine au.go (f:=0) ai (Yj hk rfl rfl rfl) ?_
  refine au.go (f:=0) ai (ak rfl) ?_
  refine au.go (f:=0) ai (dK rfl rfl) ?_
  refine au.go (f:=0) ai (dK rfl rfl) ?_
  refine au.go (f:=0) ai (ic Vu rfl rfl) ?_
  refine au.qd (f:=0) ai (bT rfl rfl (sx Vu rfl rfl)) ?_
  refine au.go (f:=0) ai (aj rfl) ?_
  refine au.nil ?_
  rcases aL (decide (op≤16)) with hc1|hc1
  ·
   have Aj:=of_decide_eq_true hc1
   obtain⟨o1,o2,o3,o4,o5,o6,o7⟩:=hk
   have hres:aO op=(1,1,1):=by
     unfold aO
     rw[if_neg o1,if_neg o2,if_neg o3,if_neg o4,if_neg o5,if_neg o6,if_neg o7]
     rw[if_pos (of_decide_eq_true hc1)]
   show ∃_:Unit,KE (cf m) (cv (cf m) _ 2 (.ret (.t (.agg [.int .u8 (aO op).1,.int .u8 (aO op).2.1,.int .u8 (aO op).2.2])) [.cells 68 [.t (.sl E.ts),.t (.sl E.ac),.t (.str E.p),.t (.str E.r),.t (.sl E.c),.map (.arg 1)],aI] [])) _ _ _
   rw[hres]
   exact⟨(),kF ah ai [oF,oB hc1] (by kernel_rfl)⟩
  ·
   have Aj:=of_decide_eq_false hc1
   rcases aL (decide (op≤18)) with bE|bE
   ·
    have gR:=of_decide_eq_true bE
    obtain⟨o1,o2,o3,o4,o5,o6,o7⟩:=hk
    have hres:aO op=(0,0,1):=by
      unfold aO
      rw[if_neg o1,if_neg o2,if_neg o3,if_neg o4,if_neg o5,if_neg o6,if_neg o7]
      rw[if_neg (of_decide_eq_false hc1)]
      rw[if_pos (of_decide_eq_true bE)]
    show ∃_:Unit,KE (cf m) (cv (cf m) _ 2 (.ret (.t (.agg [.int .u8 (aO op).1,.int .u8 (aO op).2.1,.int .u8 (aO op).2.2])) [.cells 68 [.t (.sl E.ts),.t (.sl E.ac),.t (.str E.p),.t (.str E.r),.t (.sl E.c),.map (.arg 1)],aI] [])) _ _ _
    rw[hres]
    exact⟨(),kF ah ai [oF,oB hc1,oB bE] (by kernel_rfl)⟩
   ·
    have gR:=of_decide_eq_false bE
    rcases aL (decide (op≤22)) with bF|bF
    ·
     have kH:=of_decide_eq_true bF
     obtain⟨o1,o2,o3,o4,o5,o6,o7⟩:=hk
     have hres:aO op=(2,2,1):=by
       unfold aO
       rw[if_neg o1,if_neg o2,if_neg o3,if_neg o4,if_neg o5,if_neg o6,if_neg o7]
       rw[if_neg (of_decide_eq_false hc1)]
       rw[if_neg (of_decide_eq_false bE)]
       rw[if_pos (of_decide_eq_true bF)]
     show ∃_:Unit,KE (cf m) (cv (cf m) _ 2 (.ret (.t (.agg [.int .u8 (aO op).1,.int .u8 (aO op).2.1,.int .u8 (aO op).2.2])) [.cells 68 [.t (.sl E.ts),.t (.sl E.ac),.t (.str E.p),.t (.str E.r),.t (.sl E.c),.map (.arg 1)],aI] [])) _ _ _
     rw[hres]
     exact⟨(),kF ah ai [oF,oB hc1,oB bE,oB bF] (by kernel_rfl)⟩
    ·
     have kH:=of_decide_eq_false bF
     rcases aL (decide (op≤26)) with rU|rU
     ·
      have Hq:=of_decide_eq_true rU
      obtain⟨o1,o2,o3,o4,o5,o6,o7⟩:=hk
      have hres:aO op=(2,2,2):=by
        unfold aO
        rw[if_neg o1,if_neg o2,if_neg o3,if_neg o4,if_neg o5,if_neg o6,if_neg o7]
        rw[if_neg (of_decide_eq_false hc1)]
        rw[if_neg (of_decide_eq_false bE)]
        rw[if_neg (of_decide_eq_false bF)]
        rw[if_pos (of_decide_eq_true rU)]
      show ∃_:Unit,KE (cf m) (cv (cf m) _ 2 (.ret (.t (.agg [.int .u8 (aO op).1,.int .u8 (aO op).2.1,.int .u8 (aO op).2.2])) [.cells 68 [.t (.sl E.ts),.t (.sl E.ac),.t (.str E.p),.t (.str E.r),.t (.sl E.c),.map (.arg 1)],aI] [])) _ _ _
      rw[hres]
      exact⟨(),kF ah ai [oF,oB hc1,oB bE,oB bF,oB rU] (by kernel_rfl)⟩
     ·
      have Hq:=of_decide_eq_false rU
      obtain⟨o1,o2,o3,o4,o5,o6,o7⟩:=hk
      have hres:aO op=(5,5,1):=by
        unfold aO
        rw[if_neg o1,if_neg o2,if_neg o3,if_neg o4,if_neg o5,if_neg o6,if_neg o7]
        rw[if_neg (of_decide_eq_false hc1)]
        rw[if_neg (of_decide_eq_false bE)]
        rw[if_neg (of_decide_eq_false bF)]
        rw[if_neg (of_decide_eq_false rU)]
      show ∃_:Unit,KE (cf m) (cv (cf m) _ 2 (.ret (.t (.agg [.int .u8 (aO op).1,.int .u8 (aO op).2.1,.int .u8 (aO op).2.2])) [.cells 68 [.t (.sl E.ts),.t (.sl E.ac),.t (.str E.p),.t (.str E.r),.t (.sl E.c),.map (.arg 1)],aI] [])) _ _ _
      rw[hres]
      exact⟨(),kF ah ai [oF,oB hc1,oB bE,oB bF,oB rU] (by kernel_rfl)⟩
theorem Vw (m:Int)(E:Env)(hE:qK E)(op:Int):ay (cf m) 63 [.ptr (.arg 0) 0,.t (.int .u8 op)] [.cells 68 [.t (.sl E.ts),.t (.sl E.ac),.t (.str E.p),.t (.str E.r),.t (.sl E.c),.map (.arg 1)],aI] (.ret (.t (.agg [.int .u8 (aO op).1,.int .u8 (aO op).2.1,.int .u8 (aO op).2.2])) [.cells 68 [.t (.sl E.ts),.t (.sl E.ac),.t (.str E.p),.t (.str E.r),.t (.sl E.c),.map (.arg 1)],aI] []):=by
  by_cases h:OG op
  · exact MY m E hE op h
  · have h2:op=9∨op=10∨op=11∨op=12∨op=13∨op=23∨op=27:=by unfold OG at h;omega
    rcases h2 with rfl|rfl|rfl|rfl|rfl|rfl|rfl
    · exact sZ m E 9 (by omega)
    · exact sZ m E 10 (by omega)
    · exact sZ m E 11 (by omega)
    · exact sZ m E 12 (by omega)
    · exact sZ m E 13 (by omega)
    · exact sZ m E 23 (by omega)
    · exact sZ m E 27 (by omega)
def Vx (n:Int):Prop:=n=0∨n=1∨n=2∨n=3∨n=4∨n=5∨n=6∨n=7
theorem D6 (op:Int):Vx (aO op).1∧Vx (aO op).2.1:=by
 unfold aO
 repeat' split
 all_goals (unfold Vx;exact⟨by decide,by decide⟩)
theorem OH (s:List UInt8):T .aB (WO s):=.aB _ _ _ _ (by simp) (by simp) (by simp) (by simp)
theorem OI (k:Int):T .aB (aC k [] [] []):=.aB _ _ _ _ (by simp) (by simp) (by simp) (by simp)
theorem MZ {E:Env}(hE:qK E)(s:List UInt8):T .aB (qC E s):=by
  unfold qC
  split
  · exact OH _
  · split
    · exact OH _
    · split
      · exact OH _
      · exact .aB _ _ _ _ (by simp) (by simp) hE.lc hE.hc
theorem afZ {a:Tree}(h:T .bx a):T .aB (zI a):=by
 obtain⟨n,k,s,os,bs,rfl,h1,h2,h3,h4⟩:=T.eY h
 exact .aB k s os bs h1 h2 h3 h4
theorem Ku {t:Tree}(n:List UInt8)(h:T .aB t):T .bx (Im n t):=by
 obtain⟨k,s,os,bs,rfl,h1,h2,h3,h4⟩:=T.aT h
 exact .bx n k s os bs h1 h2 h3 h4
theorem OJ {bs:List Tree}{n:List UInt8}(h:∀y∈bs,T .bx y):T .aB (AP bs n).1:=by
 cases hf:pz n bs with
 |none=>rw[pE hf];exact nx
 |some a=>rw[ug hf];exact afZ (h a (z6 hf))
theorem af0 {t:Tree}(h:T .aG t):∀y∈Gu t,T .bx y:=by
 obtain⟨n,p,a,rfl,h1,h2,h3,h4⟩:=T.bu h
 exact h4
theorem af1 {t:Tree}(h:T .aB t):∀y∈tyB t,T .bx y:=by
 obtain⟨k,s,os,bs,rfl,h1,h2,h3,h4⟩:=T.aT h
 exact h4
theorem OL {E:Env}(hE:qK E){t:Tree}(ht:T .aB t)(n:List UInt8):T .aB (dS E t n).1:=by
  unfold dS
  split
  · exact OJ (af0 (vp Kn hE.ht))
  · split
    · exact OJ (af1 ht)
    · exact nx
theorem Vy:∀{ns l:List Tree},(∀y∈l,T .aB y)→∀y∈kC ns l,T .bx y
 | [],_,_,y,hy=>by simp[kC] at hy
 |_::_,[],_,y,hy=>by simp[kC] at hy
 |n::ns,t::l,h,y,hy=>by
  rw[show kC (n::ns) (t::l)=Im (Ty.strOf n) t::kC ns l from rfl] at hy
  rcases List.mem_cons.1 hy with rfl|hy
  · exact Ku _ (h t List.mem_cons_self)
  · exact Vy (fun y hy=>h y (List.mem_cons_of_mem _ hy)) y hy
theorem OM:∀{ns l:List Tree},(kC ns l).length≤l.length
 | [],_=>by simp[kC]
 |_::_,[]=>by simp[kC]
 |n::ns,t::l=>by
  have:=OM (ns:=ns) (l:=l)
  show(Im (Ty.strOf n) t::kC ns l).length≤_
  simp only[List.length_cons];omega
theorem Vz {l:List Tree}(h:∀y∈l,T .aB y)(i:Nat):T .aB (zJ l i):=by
 unfold zJ
 cases hi:l[i]? with
 |none=>exact nx
 |some e=>exact h e (List.mem_of_getElem? hi)
theorem pU {l:List Tree}{i:Nat}{e:Tree}(h:l[i]?=some e):zJ l i=e:=by unfold zJ;rw[h];rfl
def OP (m:Int):WN:=⟨JF m,HK m,aO,gM⟩
theorem JFT (m:Int):∀x y,T .aB x→T .aB y→T .aB (JF m x y).1:=fun x y hx hy=>ace m hx hy
theorem acL (m:Int){E:Env}(hE:qK E){op:Int}{s t:List UInt8}{ns l:List Tree}(hl:l.length≤4194304)(h:∀y∈l,T .aB y):T .aB (jg (OP m) E op s t ns l).1:=by
  unfold jg
  split
  · exact OI _
  split
  · split
    · exact nx
    · exact OH _
  split
  · exact MZ hE _
  split
  · split
    · exact nx
    · exact .aB _ _ _ _ (by simp) (fun y hy=>by rw[List.mem_singleton.1 hy];exact vn (JFT m) nx h) (by simp) (by simp)
  split
  · exact .aB _ _ _ _ (by simp) (by simp) (by show(gM (kC ns l)).length≤_;rw[gu];have:=OM (ns:=ns) (l:=l);omega) (fun y hy=>Vy h y (rO hy))
  split
  · exact OL hE (Vz h 0) _
  split
  · split
    · exact JFT m _ _ (Vz h 1) (Vz h 2)
    · exact nx
  split
  · exact nx
  · exact OI _
theorem acM (m:Int){E:Env}(hE:qK E){f:Tree→Tree×Int}{x:Tree}(hx:T .aW x)(hf:∀k∈eR x,T .aB (f k).1):T .aB (bQ (OP m) E f x).1:=by
  obtain⟨op,n,s,t,ns,ks,rfl,h1,h2,h3,h4⟩:=T.cG hx
  by_cases hz:fZ f ks=0
  · rw[bH hz]
    exact acL m hE (by rw[List.length_map];exact h3) fun y hy=>by obtain⟨k,hk,rfl⟩:=List.mem_map.1 hy;exact hf k hk
  · rw[CG hz];exact nx
theorem OO {f:Tree→Tree×Int}{ks:List Tree}{i:Nat}{e t:Tree}(he:ks[i]?=some e)(ht:(f e).1=t):(ks.take i).map (fun k=>(f k).1)++[t]=(ks.take (i+1)).map fun k=>(f k).1:=by
 rw[q8 he,List.map_append,← ht];rfl
theorem zk {ns kl:List Tree}{i:Nat}{n:List UInt8}{r:List Tree}(hn:ns[i]?=some (.str n))(hk:kl[i]?=some (.agg r)):kC (ns.take i) (kl.take i)++[.agg (.str n::r)]=kC (ns.take (i+1)) (kl.take (i+1)):=by
 have hl:(ns.take i).length=(kl.take i).length:=by
  have h1:=(List.getElem?_eq_some_iff.1 hn).1
  have h2:=(List.getElem?_eq_some_iff.1 hk).1
  rw[List.length_take,List.length_take];omega
 rw[q8 hn,q8 hk]
 unfold kC
 rw[List.zipWith_append hl];rfl
theorem QL (m:Int):ay (cf m) 58 [.t (.sl []),.t (.fn (.func 59))] [] (.ret (.t (.bN [])) [] []):=dR (by kernel_rfl)
theorem F0 {l:List Tree}{ag:Bool}{sz:Nat}(h:fA ag sz l):fA ag sz (gM l):=fun y hy=>h y (rO hy)
end
end Go.Proofs.YtijfhoelihclbaaGreatDoor.w.e

namespace Go.Proofs.YtijfhoelihclbaaGreatDoor.w.e
open Go Go.Abs Go.Abs.Ty
set_option linter.unusedVariables false
set_option maxRecDepth 100000
set_option maxHeartbeats 8000000
noncomputable section
theorem VA {m:Int}:fN (cf m).P 26 0=some 0:=by kernel_rfl
def intOf:Tree→Int
 |.int _ n=>n
 |_=>0
theorem F1:gM []=[]:=List.eq_nil_of_length_eq_zero (gu [])
theorem Kv:∀{l l':List Tree},(∀e∈l,AtF e)→(∀e∈l',AtF e)→flat l=flat l'→l=l'
 | [],[],_,_,_=>rfl
 |a::l,b::l',h1,h2,h=>by
  obtain⟨n,k,s,os,bs,rfl⟩:=h1 a List.mem_cons_self
  obtain⟨n',k',s',os',bs',rfl⟩:=h2 b List.mem_cons_self
  have h:[Tree.str n,.int .u8 k,.str s,.sl os,.sl bs]++flat l=[Tree.str n',.int .u8 k',.str s',.sl os',.sl bs']++flat l':=h
  obtain⟨e1,e2⟩:=List.append_inj h rfl
  rw[e1,Kv (fun e he=>h1 e (List.mem_cons_of_mem _ he)) (fun e he=>h2 e (List.mem_cons_of_mem _ he)) e2]
 | [],b::l',_,h2,h=>by
  obtain⟨n',k',s',os',bs',rfl⟩:=h2 b List.mem_cons_self
  exact absurd (show([]:List Tree)=[Tree.str n',.int .u8 k',.str s',.sl os',.sl bs']++flat l' from h) (by simp)
 |a::l,[],h1,_,h=>by
  obtain⟨n',k',s',os',bs',rfl⟩:=h1 a List.mem_cons_self
  exact absurd (show [Tree.str n',.int .u8 k',.str s',.sl os',.sl bs']++flat l=([]:List Tree) from h) (by simp)
def SfP (args:List TV)(aR:List aQ)(l:List Tree):Prop:=args=[.ref (.arg 0) 0 l.length,.t (.fn (.func 59))]∧aR=[.arr (45,true) 5 false ((flat l).map .t)]∧l≠ []∧l.length≤4194304∧∀e∈l,AtF e
open Classical in
def sfS:List TV→List aQ→Option bG:=fun args aR=>if args=[.t (.sl []),.t (.fn (.func 59))]∧aR=[] then some (.ret (.t (.bN [])) [] []) else
 if h:∃l,SfP args aR l then some (.ret (.t (.bN [])) [.arr (45,true) 5 false ((flat (gM h.choose)).map .t)] []) else none
theorem acN (m:Int):j7 (cf m) 58 sfS:=fun args aR r h=>by
  unfold sfS at h
  split at h
  · rename_i hc;obtain⟨rfl,rfl⟩:=hc;cases h;exact QL m
  · split at h
    · rename_i hc
      cases h
      have hs:=hc.choose_spec
      generalize hc.choose=l at hs
      obtain⟨rfl,rfl,h1,h2,h3⟩:=hs
      exact Vt m l h2 h1 h3
    · cases h
theorem OQ {ev:aS}(h:Has ev 58 sfS):ev 58 [.t (.sl []),.t (.fn (.func 59))] []=some (.ret (.t (.bN [])) [] []):=h _ _ _ (if_pos ⟨rfl,rfl⟩)
theorem OS {ev:aS}(h:Has ev 58 sfS){l:List Tree}(hne:l≠ [])(hl:l.length≤4194304)(hf:∀e∈l,T .bx e):ev 58 [.ref (.arg 0) 0 l.length,.t (.fn (.func 59))] [.arr (45,true) 5 false ((flat l).map .t)]=some (.ret (.t (.bN [])) [.arr (45,true) 5 false ((flat (gM l)).map .t)] []):=h _ _ _ (by
 have ha:∀e∈l,AtF e:=fun e he=>by
  obtain⟨n,k,s,os,bs,rfl,_⟩:=T.eY (hf e he)
  exact⟨n,k,s,os,bs,rfl⟩
 have hx:∃l',SfP [.ref (.arg 0) 0 l.length,.t (.fn (.func 59))] [.arr (45,true) 5 false ((flat l).map .t)] l':=⟨l,rfl,rfl,hne,hl,ha⟩
 unfold sfS
 rw[if_neg (fun q=>by cases q.2),dif_pos hx]
 have hs:=hx.choose_spec
 generalize hx.choose=l' at hs
 obtain⟨_,e,_,_,h3⟩:=hs
 have e2:flat l=flat l':=by
  injection e with e _
  injection e with _ _ _ e
  exact C7 e
 rw[Kv ha h3 e2])
theorem VB       (m:Int)(E:Env)(hE:qK E)(op n:Int)(s t:List UInt8)(ns ks:List Tree)(ln:ns.length≤4194304)(Il:∀y∈ns,T .string y)(lk:ks.length≤4194304)(hks:∀y∈ks,T .aW y)(hM:Ut op ns.length ks.length)(f:Tree→Tree×Int)(hf:∀k∈ks,ay (cf m) 19 [.ptr (.arg 0) 0,.t k] [.cells 68 [.t (.sl E.ts),.t (.sl E.ac),.t (.str E.p),.t (.str E.r),.t (.sl E.c),.map (.arg 1)],aI] (.ret (.t (.bN [(f k).1,.int .i64 (f k).2])) [.cells 68 [.t (.sl E.ts),.t (.sl E.ac),.t (.str E.p),.t (.str E.r),.t (.sl E.c),.map (.arg 1)],aI] [])∧T .aB (f k).1):ay (cf m) 19 [.ptr (.arg 0) 0,.t (.agg [.int .u8 op,.int .i64 n,.str s,.str t,.sl ns,.sl ks])] [.cells 68 [.t (.sl E.ts),.t (.sl E.ac),.t (.str E.p),.t (.str E.r),.t (.sl E.c),.map (.arg 1)],aI] (.ret (.t (.bN [(bQ (OP m) E f (.agg [.int .u8 op,.int .i64 n,.str s,.str t,.sl ns,.sl ks])).1,.int .i64 (bQ (OP m) E f (.agg [.int .u8 op,.int .i64 n,.str s,.str t,.sl ns,.sl ks])).2])) [.cells 68 [.t (.sl E.ts),.t (.sl E.ac),.t (.str E.p),.t (.str E.r),.t (.sl E.c),.map (.arg 1)],aI] []):=by
  obtain⟨lt,ht,la,ha,lc,hc⟩:=hE
  obtain⟨ev,ai,e_self,OT,QI,ZJ,af2,Yk,acO,acP,uB,HV⟩:∃ev,aF (cf m) ev∧Has ev 19 (pm [.cells 68 [.t (.sl E.ts),.t (.sl E.ac),.t (.str E.p),.t (.str E.r),.t (.sl E.c),.map (.arg 1)],aI] (fun xs=>∃k∈ks,xs=[k]) (fun xs=>.bN [(f (xs.headD .cg)).1,.int .i64 (f (xs.headD .cg)).2]))∧Has ev 54 (px [.ptr (.arg 0) 0,.t (.str t),.t (.str s)] [.cells 68 [.t (.sl E.ts),.t (.sl E.ac),.t (.str E.p),.t (.str E.r),.t (.sl E.c),.map (.arg 1)],aI] (.ret (.t (.int .i64 (Bn E t s))) [.cells 68 [.t (.sl E.ts),.t (.sl E.ac),.t (.str E.p),.t (.str E.r),.t (.sl E.c),.map (.arg 1)],aI] []))∧Has ev 55 (kY (fun x=>∃s,x=.str s) fun x=>WO (Ty.strOf x))∧Has ev 56 (px [.ptr (.arg 0) 0,.t (.str s)] [.cells 68 [.t (.sl E.ts),.t (.sl E.ac),.t (.str E.p),.t (.str E.r),.t (.sl E.c),.map (.arg 1)],aI] (.ret (.t (qC E s)) [.cells 68 [.t (.sl E.ts),.t (.sl E.ac),.t (.str E.p),.t (.str E.r),.t (.sl E.c),.map (.arg 1)],aI] []))∧Has ev 57 (kY (fun x=>∃l,x=.sl l∧l.length≤4194304∧∀y∈l,T .aB y) fun x=>.bN [(br (JF m) ei (kI x)).1,.int .i64 (br (JF m) ei (kI x)).2])∧Has ev 58 sfS∧Has ev 61 (pm [.cells 68 [.t (.sl E.ts),.t (.sl E.ac),.t (.str E.p),.t (.str E.r),.t (.sl E.c),.map (.arg 1)],aI] (fun xs=>∃t nm,T .aB t∧xs=[t,.str nm]) (fun xs=>.bN [(dS E (xs.headD .cg) (Ty.strOf (xs.getD 1 .cg))).1,.int .i64 (dS E (xs.headD .cg) (Ty.strOf (xs.getD 1 .cg))).2]))∧Has ev 62 (rD (fun x y=>∃n,x=.int .u8 n∧Vx n∧T .aB y) fun x y=>.bool (HK m (intOf x) y))∧Has ev 12 (rD (fun x y=>T .aB x∧T .aB y) fun x y=>.bN [(JF m x y).1,.int .i64 (JF m x y).2])∧Has ev 63 (px [.ptr (.arg 0) 0,.t (.int .u8 op)] [.cells 68 [.t (.sl E.ts),.t (.sl E.ac),.t (.str E.p),.t (.str E.r),.t (.sl E.c),.map (.arg 1)],aI] (.ret (.t (.agg [.int .u8 (aO op).1,.int .u8 (aO op).2.1,.int .u8 (aO op).2.2])) [.cells 68 [.t (.sl E.ts),.t (.sl E.ac),.t (.str E.p),.t (.str E.r),.t (.sl E.c),.map (.arg 1)],aI] [])):=⟨_,(ax ((SV fun xs h=>by obtain⟨k,hk,e⟩:=h;subst e;exact(hf k hk).1)) (ax ((kV (MV m E ⟨lt,ht,la,ha,lc,hc⟩ t s))) (ax (bD fun x ⟨s,e⟩=>by subst e;exact Km m s) (ax ((kV (Ko m E ⟨lt,ht,la,ha,lc,hc⟩ s))) (ax ((bD fun x h=>by obtain⟨l,e,h1,h2⟩:=h;subst e;exact QC m l h1 h2)) (ax ((acN m)) (ax ((SV fun xs h=>by obtain⟨t,nm,h1,e⟩:=h;subst e;obtain⟨k,s,os,bs,rfl,g1,g2,g3,g4⟩:=T.aT h1;exact Yg m E ⟨lt,ht,la,ha,lc,hc⟩ k s os bs nm g1 g2 g3 g4)) (ax ((dn fun x y h=>by obtain⟨n,e,h1,h2⟩:=h;subst e;exact acg m n y ⟨h1,h2⟩)) (ax (dn (ZE m)) (ax ((kV (Vw m E ⟨lt,ht,la,ha,lc,hc⟩ op))) aH)))))))))),az,(aq rfl az),(aq rfl (aq rfl az)),(aq rfl (aq rfl (aq rfl az))),(aq rfl (aq rfl (aq rfl (aq rfl az)))),(aq rfl (aq rfl (aq rfl (aq rfl (aq rfl az))))),(aq rfl (aq rfl (aq rfl (aq rfl (aq rfl (aq rfl az)))))),(aq rfl (aq rfl (aq rfl (aq rfl (aq rfl (aq rfl (aq rfl az))))))),(aq rfl (aq rfl (aq rfl (aq rfl (aq rfl (aq rfl (aq rfl (aq rfl az)))))))),(aq rfl (aq rfl (aq rfl (aq rfl (aq rfl (aq rfl (aq rfl (aq rfl (aq rfl az)))))))))⟩
  refine ay.gL ?_
  refine AX.start 170 2 Tryz.func19 rfl (by decide) rfl rfl (by decide) ?_
  refine AX.frames ?_
  refine eF (f:=0) (n:=3000) (once:=[]) (k:=170) (T:=2) (S:=[.loc [0],.loc [1]]) (ks:=[.loc [0],.loc [1],.arg 0,.arg 1]) (live:=[0,3,4,6,19,20,21]) ah ai (α:=Nat×List Tree) (fun x=>(match x.2 with| []=>⟨bX 170 [(0,.ptr (.arg 0) 0),(3,.ptr (.loc [0]) 0),(4,.ptr (.loc [1]) 0),(6,.bl),(19,.t (.sl ks)),(20,.t (.int .i64 ((ks.length:Nat):Int))),(21,.t (.int .i64 ((x.1:Nat):Int)))],[(.loc [0],.cells 26 [.t (.int .u8 op),.t (.int .i64 n),.t (.str s),.t (.str t),.t (.sl ns),.t (.sl ks)]),(.loc [1],.cells 38 [.t (.int .u8 0),.t (.str []),.bl,.bl]),(.arg 0,.cells 68 [.t (.sl E.ts),.t (.sl E.ac),.t (.str E.p),.t (.str E.r),.t (.sl E.c),.map (.arg 1)]),(.arg 1,aI)],2⟩|_::_=>⟨bX 170 [(0,.ptr (.arg 0) 0),(3,.ptr (.loc [0]) 0),(4,.ptr (.loc [1]) 0),(6,.ref (.loc [2]) 0 x.2.length),(19,.t (.sl ks)),(20,.t (.int .i64 ((ks.length:Nat):Int))),(21,.t (.int .i64 ((x.1:Nat):Int)))],[(.loc [0],.cells 26 [.t (.int .u8 op),.t (.int .i64 n),.t (.str s),.t (.str t),.t (.sl ns),.t (.sl ks)]),(.loc [1],.cells 38 [.t (.int .u8 0),.t (.str []),.bl,.bl]),(.loc [2],.arr (38,true) 4 false ((flat x.2).map .t)),(.arg 0,.cells 68 [.t (.sl E.ts),.t (.sl E.ac),.t (.str E.p),.t (.str E.r),.t (.sl E.c),.map (.arg 1)]),(.arg 1,aI)],3⟩)) (fun x=>(x.1≤ks.length)∧(x.2=(ks.take x.1).map (fun k=>(f k).1))∧(fA true 4 x.2)∧(x.2.length≤x.1)∧(∀j,j<x.1→∀y,ks[j]?=some y→(f y).2=0)∧(∀y∈x.2,T .aB y)) (fun x=>ks.length - x.1) (⟨0,[]⟩) (iF (Tryz.f19.body.getD .skip) 3) [oN (o:=aI) (fun _=>rfl)] (by kernel_rfl) ⟨Nat.zero_le _,rfl,fA.nil,Nat.le_refl _,fun j hj=>absurd hj (Nat.not_lt_zero j),fun y hy=>absurd hy (by simp)⟩ (fun x hok=> ?_)
  obtain⟨i_1,Kw⟩:=x
  replace hok:(i_1≤ks.length)∧(Kw=(ks.take i_1).map (fun k=>(f k).1))∧(fA true 4 Kw)∧(Kw.length≤i_1)∧(∀j,j<i_1→∀y,ks[j]?=some y→(f y).2=0)∧(∀y∈Kw,T .aB y):=hok
  obtain⟨jR,fV,vo,ahh,vr,HX⟩:=hok
  rcases Kw with _|⟨EH,EI⟩
  ·
   rcases aL (decide (((i_1:Nat):Int)<((ks.length:Nat):Int))) with bE|bE
   ·
    have gR:=of_decide_eq_true bE
    obtain⟨e3,iD⟩:=ou ks i_1 (by first|omega|(simp;omega))
    have jw:=(hks e3 (List.mem_of_getElem? iD))
    obtain⟨M0,n_4,NY,M1,s5,wZ,rfl,qI,nI,qJ,lN⟩:=T.cG jw
    have ez5:ev 19 [.ptr (.arg 0) 0,.t (.agg [.int .u8 M0,.int .i64 n_4,.str NY,.str M1,.sl s5,.sl wZ])] [.cells 68 [.t (.sl E.ts),.t (.sl E.ac),.t (.str E.p),.t (.str E.r),.t (.sl E.c),.map (.arg 1)],aI]=some (bG.ret (.t (.bN [(f (.agg [.int .u8 M0,.int .i64 n_4,.str NY,.str M1,.sl s5,.sl wZ])).1,.int .i64 (f (.agg [.int .u8 M0,.int .i64 n_4,.str NY,.str M1,.sl s5,.sl wZ])).2])) [.cells 68 [.t (.sl E.ts),.t (.sl E.ac),.t (.str E.p),.t (.str E.r),.t (.sl E.c),.map (.arg 1)],aI] []):=Xe e_self [(.agg [.int .u8 M0,.int .i64 n_4,.str NY,.str M1,.sl s5,.sl wZ])] ⟨_,(List.mem_of_getElem? iD),rfl⟩
    have wI:=(hf _ (List.mem_of_getElem? iD)).2
    obtain⟨wY,sY,D1,oe,eq_6,MO,MQ,MS,MT⟩:=T.aT wI
    rw[eq_6] at wI
    have MU:=ez5
    rw[eq_6] at MU
    rcases aL (((f (.agg [.int .u8 M0,.int .i64 n_4,.str NY,.str M1,.sl s5,.sl wZ])).2 != 0)) with fF|fF
    ·
     have wH:=aA fF
     refine kO ah ai [oB bE,oE iD,oC MU,oB fF] (by kernel_rfl) ?_
     have hfe:fZ f ks=(f (.agg [.int .u8 M0,.int .i64 n_4,.str NY,.str M1,.sl s5,.sl wZ])).2:=z7 (fun j hj y hy=>vr j hj y hy) iD (aA fF)
     have hres:bQ (OP m) E f (.agg [.int .u8 op,.int .i64 n,.str s,.str t,.sl ns,.sl ks])=(.agg [.int .u8 0,.str [],.sl [],.sl []],(f (.agg [.int .u8 M0,.int .i64 n_4,.str NY,.str M1,.sl s5,.sl wZ])).2):=by
       rw[CG (by rw[hfe];exact aA fF),hfe];rfl
     show ∃_:Unit,KE (cf m) (cv (cf m) _ 2 (.ret (.t (.bN [(bQ (OP m) E f (.agg [.int .u8 op,.int .i64 n,.str s,.str t,.sl ns,.sl ks])).1,.int .i64 (bQ (OP m) E f (.agg [.int .u8 op,.int .i64 n,.str s,.str t,.sl ns,.sl ks])).2])) [.cells 68 [.t (.sl E.ts),.t (.sl E.ac),.t (.str E.p),.t (.str E.r),.t (.sl E.c),.map (.arg 1)],aI] [])) _ _ _
     rw[hres]
     exact⟨(),kF ah ai [] (by kernel_rfl)⟩
    ·
     have wH:=av fF
     exact⟨.inl ⟨⟨i_1+1,([.agg [.int .u8 wY,.str sY,.sl D1,.sl oe]]:List Tree)⟩,⟨⟨(by show(i_1+1)≤ks.length;omega),((congrArg (fun l=>l++[_]) fV).trans (OO iD eq_6)),(by exact(fA.cons ⟨rfl,rfl,rfl⟩ .nil)),(by show([.agg [.int .u8 wY,.str sY,.sl D1,.sl oe]]:List Tree).length≤(i_1+1);first|omega|(simp only[List.length_append,List.length_cons,List.length_nil,List.length_singleton] at*;omega)|(simp;done)|(simp;omega)),(je (G:=fun y=>(f y).2=0) iD (av fF) vr),(fun y hy=>by rw[List.mem_singleton.1 hy];exact wI)⟩,(by show(ks.length - (i_1+1))<(ks.length - i_1);omega)⟩⟩,bS (f:=0) (n:=3000) (once:=[]) (k:=170) (T:=3) (S:=[.loc [0],.loc [1],.loc [21]]) (ks:=[.loc [0],.loc [1],.loc [21],.arg 0,.arg 1]) (live:=[0,3,4,6,19,20,21]) ah ai [oB bE,oE iD,oC MU,oB fF,oU true 4 ([.agg [.int .u8 wY,.str sY,.sl D1,.sl oe]]:List Tree) (fA.cons ⟨rfl,rfl,rfl⟩ fA.nil) (by simp),oA (([.agg [.int .u8 wY,.str sY,.sl D1,.sl oe]]:List Tree).length*72) (by first|omega|(simp only[List.length_append,List.length_cons,List.length_nil,List.length_singleton] at*;omega)|(simp;done)|(simp;omega)),oI (i_1) (by omega),oN (o:=.arr (38,true) 4 false ((flat ([.agg [.int .u8 wY,.str sY,.sl D1,.sl oe]]:List Tree)).map .t)) (fun _=>eB),oN (o:=aI) (fun _=>rfl)] (by kernel_rfl)⟩
   ·
    have gR:=of_decide_eq_false bE
    refine kO ah ai [oB bE] (by kernel_rfl) ?_
    refine Io (f:=0) (n:=3000) (once:=[]) (k:=170) (T:=2) (S:=[.loc [0],.loc [1]]) (ks:=[.loc [0],.loc [1],.arg 0,.arg 1]) (live:=[0,3,4,6,22]) ah ai (Tryz.f19.body.getD .skip) 10 rfl (⟨bX 170 [(0,.ptr (.arg 0) 0),(3,.ptr (.loc [0]) 0),(4,.ptr (.loc [1]) 0),(6,.bl),(22,.t (.bool (decide (((i_1:Nat):Int)<((ks.length:Nat):Int)))))],[(.loc [0],.cells 26 [.t (.int .u8 op),.t (.int .i64 n),.t (.str s),.t (.str t),.t (.sl ns),.t (.sl ks)]),(.loc [1],.cells 38 [.t (.int .u8 0),.t (.str []),.bl,.bl]),(.arg 0,.cells 68 [.t (.sl E.ts),.t (.sl E.ac),.t (.str E.p),.t (.str E.r),.t (.sl E.c),.map (.arg 1)]),(.arg 1,aI)],2⟩) [oN (o:=aI) (fun _=>rfl)] (by kernel_rfl) ?_
    refine AX.re (Re.dat 6 rfl rfl) ?_
    refine AX.re (st':=⟨bX 170 [(0,.ptr (.arg 0) 0),(3,.ptr (.loc [0]) 0),(4,.ptr (.loc [1]) 0),(6,.t (.sl [])),(22,.t (.bool (decide (((i_1:Nat):Int)<((ks.length:Nat):Int)))))],[(.loc [0],.cells 26 [.t (.int .u8 op),.t (.int .i64 n),.t (.str s),.t (.str t),.t (.sl ns),.t (.sl ks)]),(.loc [1],.cells 38 [.t (.int .u8 0),.t (.str []),.bl,.bl]),(.arg 0,.cells 68 [.t (.sl E.ts),.t (.sl E.ac),.t (.str E.p),.t (.str E.r),.t (.sl E.c),.map (.arg 1)]),(.arg 1,aI)],2⟩) (Re.sq [.loc [0],.loc [1]] ⟨rfl,rfl,rfl,rfl,rfl,trivial⟩ ⟨⟨.loc [0],_,rfl,rfl,.inl rfl⟩,⟨.loc [1],_,rfl,rfl,.inl rfl⟩,⟨.arg 0,_,rfl,rfl,.inl rfl⟩,⟨.arg 1,_,rfl,rfl,.inl rfl⟩,trivial⟩ (by decide) rfl rfl (by decide)) ?_
    have hkl:([]:List Tree)=ks.map (fun k=>(f k).1):=fV.trans (by rw[List.take_of_length_le (by omega)])
    obtain⟨kl,jU⟩:∃kl,kl=ks.map (fun k=>(f k).1):=⟨_,rfl⟩
    refine AX.re (st':=⟨bX 170 [(0,.ptr (.arg 0) 0),(3,.ptr (.loc [0]) 0),(4,.ptr (.loc [1]) 0),(6,.t (.sl kl)),(22,.t (.bool (decide (((i_1:Nat):Int)<((ks.length:Nat):Int)))))],[(.loc [0],.cells 26 [.t (.int .u8 op),.t (.int .i64 n),.t (.str s),.t (.str t),.t (.sl ns),.t (.sl ks)]),(.loc [1],.cells 38 [.t (.int .u8 0),.t (.str []),.bl,.bl]),(.arg 0,.cells 68 [.t (.sl E.ts),.t (.sl E.ac),.t (.str E.p),.t (.str E.r),.t (.sl E.c),.map (.arg 1)]),(.arg 1,aI)],2⟩) (by rw[jU,← hkl];exact Re.refl _) ?_
    have hll:kl.length=ks.length:=by rw[jU,List.length_map]
    have M3:∀y∈kl,T .aB y:=by rw[jU,← hkl];exact HX
    have hz:fZ f ks=0:=qX (kj (G:=fun y=>(f y).2=0) (l:=ks) (fun j hj=>vr j (by omega)))
    obtain⟨m1,m2,m3,m4⟩:=hM
    have h0:ks.length=0:=by have:=congrArg List.length hkl;simpa using this.symm
    refine AX.region ?_
    refine au.go (f:=0) ai (aD rfl VA rfl) ?_
    refine au.go (f:=0) ai (cD rfl (ld acJ rfl rfl)) ?_
    refine au.nil ?_
    rcases aL ((op==1)) with vM|vM
    ·
     have Mm:=eq_of_beq vM
     have hres:bQ (OP m) E f (.agg [.int .u8 op,.int .i64 n,.str s,.str t,.sl ns,.sl ks])=(.agg [.int .u8 (IntKind.wrap .u8 (1+(IntKind.wrap .u8 (op - 1)))),.str [],.sl [],.sl []],0):=by
       rw[bH hz,← jU]
       unfold jg
       rw[if_pos (by omega)]
       rw[show op=1 from eq_of_beq vM];rfl
     show ∃_:Unit,KE (cf m) (cv (cf m) _ 2 (.ret (.t (.bN [(bQ (OP m) E f (.agg [.int .u8 op,.int .i64 n,.str s,.str t,.sl ns,.sl ks])).1,.int .i64 (bQ (OP m) E f (.agg [.int .u8 op,.int .i64 n,.str s,.str t,.sl ns,.sl ks])).2])) [.cells 68 [.t (.sl E.ts),.t (.sl E.ac),.t (.str E.p),.t (.str E.r),.t (.sl E.c),.map (.arg 1)],aI] [])) _ _ _
     rw[hres]
     exact⟨(),kF ah ai [oB vM,oB vM,oZ,oZ] (by kernel_rfl)⟩
    ·
     have Mm:=ne_of_beq_false vM
     rcases aL ((op==2)) with k4|k4
     ·
      have TF:=eq_of_beq k4
      have hres:bQ (OP m) E f (.agg [.int .u8 op,.int .i64 n,.str s,.str t,.sl ns,.sl ks])=(.agg [.int .u8 (IntKind.wrap .u8 (1+(IntKind.wrap .u8 (op - 1)))),.str [],.sl [],.sl []],0):=by
        rw[bH hz,← jU]
        unfold jg
        rw[if_pos (by omega)]
        rw[show op=2 from eq_of_beq k4];rfl
      show ∃_:Unit,KE (cf m) (cv (cf m) _ 2 (.ret (.t (.bN [(bQ (OP m) E f (.agg [.int .u8 op,.int .i64 n,.str s,.str t,.sl ns,.sl ks])).1,.int .i64 (bQ (OP m) E f (.agg [.int .u8 op,.int .i64 n,.str s,.str t,.sl ns,.sl ks])).2])) [.cells 68 [.t (.sl E.ts),.t (.sl E.ac),.t (.str E.p),.t (.str E.r),.t (.sl E.c),.map (.arg 1)],aI] [])) _ _ _
      rw[hres]
      exact⟨(),kF ah ai [oB vM,oB k4,oB k4,oZ,oZ] (by kernel_rfl)⟩
     ·
      have TF:=ne_of_beq_false k4
      rcases aL ((op==3)) with cN|cN
      ·
       have yH:=eq_of_beq cN
       have hres:bQ (OP m) E f (.agg [.int .u8 op,.int .i64 n,.str s,.str t,.sl ns,.sl ks])=(.agg [.int .u8 (IntKind.wrap .u8 (1+(IntKind.wrap .u8 (op - 1)))),.str [],.sl [],.sl []],0):=by
         rw[bH hz,← jU]
         unfold jg
         rw[if_pos (by omega)]
         rw[show op=3 from eq_of_beq cN];rfl
       show ∃_:Unit,KE (cf m) (cv (cf m) _ 2 (.ret (.t (.bN [(bQ (OP m) E f (.agg [.int .u8 op,.int .i64 n,.str s,.str t,.sl ns,.sl ks])).1,.int .i64 (bQ (OP m) E f (.agg [.int .u8 op,.int .i64 n,.str s,.str t,.sl ns,.sl ks])).2])) [.cells 68 [.t (.sl E.ts),.t (.sl E.ac),.t (.str E.p),.t (.str E.r),.t (.sl E.c),.map (.arg 1)],aI] [])) _ _ _
       rw[hres]
       exact⟨(),kF ah ai [oB vM,oB k4,oB cN,oZ,oZ] (by kernel_rfl)⟩
      ·
       have yH:=ne_of_beq_false cN
       rcases aL ((op==4)) with jv|jv
       ·
        have uC:=eq_of_beq jv
        rcases aL (((Bn E t s) != 0)) with iI|iI
        ·
         have Dm:=aA iI
         have hres:bQ (OP m) E f (.agg [.int .u8 op,.int .i64 n,.str s,.str t,.sl ns,.sl ks])=(.agg [.int .u8 0,.str [],.sl [],.sl []],(Bn E t s)):=by
           rw[bH hz,← jU]
           unfold jg
           rw[if_neg (by omega)]
           rw[if_pos (by omega)]
           rw[if_pos (aA iI)];rfl
         show ∃_:Unit,KE (cf m) (cv (cf m) _ 2 (.ret (.t (.bN [(bQ (OP m) E f (.agg [.int .u8 op,.int .i64 n,.str s,.str t,.sl ns,.sl ks])).1,.int .i64 (bQ (OP m) E f (.agg [.int .u8 op,.int .i64 n,.str s,.str t,.sl ns,.sl ks])).2])) [.cells 68 [.t (.sl E.ts),.t (.sl E.ac),.t (.str E.p),.t (.str E.r),.t (.sl E.c),.map (.arg 1)],aI] [])) _ _ _
         rw[hres]
         exact⟨(),kF ah ai [oB vM,oB k4,oB cN,oB jv,oC (lX OT),oB iI] (by kernel_rfl)⟩
        ·
         have Dm:=av iI
         have hres:bQ (OP m) E f (.agg [.int .u8 op,.int .i64 n,.str s,.str t,.sl ns,.sl ks])=(.agg [.int .u8 4,.str t,.sl [],.sl []],0):=by
           rw[bH hz,← jU]
           unfold jg
           rw[if_neg (by omega)]
           rw[if_pos (by omega)]
           rw[if_neg (fun q=>q (av iI))];rfl
         show ∃_:Unit,KE (cf m) (cv (cf m) _ 2 (.ret (.t (.bN [(bQ (OP m) E f (.agg [.int .u8 op,.int .i64 n,.str s,.str t,.sl ns,.sl ks])).1,.int .i64 (bQ (OP m) E f (.agg [.int .u8 op,.int .i64 n,.str s,.str t,.sl ns,.sl ks])).2])) [.cells 68 [.t (.sl E.ts),.t (.sl E.ac),.t (.str E.p),.t (.str E.r),.t (.sl E.c),.map (.arg 1)],aI] [])) _ _ _
         rw[hres]
         exact⟨(),kF ah ai [oB vM,oB k4,oB cN,oB jv,oC (lX OT),oB iI,oC (bk QI (x:=.str t) ⟨_,rfl⟩)] (by kernel_rfl)⟩
       ·
        have uC:=ne_of_beq_false jv
        rcases aL ((op==5)) with pK|pK
        ·
         have JR:=eq_of_beq pK
         have acQ:ev 56 [.ptr (.arg 0) 0,.t (.str s)] [.cells 68 [.t (.sl E.ts),.t (.sl E.ac),.t (.str E.p),.t (.str E.r),.t (.sl E.c),.map (.arg 1)],aI]=some (bG.ret (.t (qC E s)) [.cells 68 [.t (.sl E.ts),.t (.sl E.ac),.t (.str E.p),.t (.str E.r),.t (.sl E.c),.map (.arg 1)],aI] []):=lX ZJ
         have ZK:=MZ ⟨lt,ht,la,ha,lc,hc⟩ s
         obtain⟨Yl,Ym,acR,VC,eq_16,ahi,ahj,ahk,ahl⟩:=T.aT ZK
         rw[eq_16] at ZK
         have af3:=acQ
         rw[eq_16] at af3
         have hres:bQ (OP m) E f (.agg [.int .u8 op,.int .i64 n,.str s,.str t,.sl ns,.sl ks])=(.agg [.int .u8 Yl,.str Ym,.sl acR,.sl VC],0):=by
           rw[bH hz,← jU]
           unfold jg
           rw[if_neg (by omega)]
           rw[if_neg (by omega)]
           rw[if_pos (by omega)]
           exact Prod.ext eq_16 rfl
         show ∃_:Unit,KE (cf m) (cv (cf m) _ 2 (.ret (.t (.bN [(bQ (OP m) E f (.agg [.int .u8 op,.int .i64 n,.str s,.str t,.sl ns,.sl ks])).1,.int .i64 (bQ (OP m) E f (.agg [.int .u8 op,.int .i64 n,.str s,.str t,.sl ns,.sl ks])).2])) [.cells 68 [.t (.sl E.ts),.t (.sl E.ac),.t (.str E.p),.t (.str E.r),.t (.sl E.c),.map (.arg 1)],aI] [])) _ _ _
         rw[hres]
         exact⟨(),kF ah ai [oB vM,oB k4,oB cN,oB jv,oB pK,oC af3] (by kernel_rfl)⟩
        ·
         have JR:=ne_of_beq_false pK
         rcases aL ((op==6)) with ki|ki
         ·
          have Dn:=eq_of_beq ki
          have ajZ:ev 57 [.t (.sl kl)] []=some (bG.ret (.t (.bN [(br (JF m) ei kl).1,.int .i64 (br (JF m) ei kl).2])) [] []):=bk af2 ⟨_,rfl,by omega,M3⟩
          have Ov:=vn (JFT m) nx M3
          obtain⟨u6,u7,Ax,rL,eq_20,X1,X2,X3,X4⟩:=T.aT Ov
          rw[eq_20] at Ov
          have acS:=ajZ
          rw[eq_20] at acS
          rcases aL (((br (JF m) ei kl).2 != 0)) with fR|fR
          ·
           have DA:=aA fR
           have hres:bQ (OP m) E f (.agg [.int .u8 op,.int .i64 n,.str s,.str t,.sl ns,.sl ks])=(.agg [.int .u8 0,.str [],.sl [],.sl []],(br (JF m) ei kl).2):=by
             rw[bH hz,← jU]
             unfold jg
             rw[if_neg (by omega)]
             rw[if_neg (by omega)]
             rw[if_neg (by omega)]
             rw[if_pos (by omega)]
             show(if(br (JF m) ei kl).2≠0 then(ei,(br (JF m) ei kl).2) else(aC 5 [] [(br (JF m) ei kl).1] [],0))=_
             rw[if_pos (aA fR)];rfl
           show ∃_:Unit,KE (cf m) (cv (cf m) _ 2 (.ret (.t (.bN [(bQ (OP m) E f (.agg [.int .u8 op,.int .i64 n,.str s,.str t,.sl ns,.sl ks])).1,.int .i64 (bQ (OP m) E f (.agg [.int .u8 op,.int .i64 n,.str s,.str t,.sl ns,.sl ks])).2])) [.cells 68 [.t (.sl E.ts),.t (.sl E.ac),.t (.str E.p),.t (.str E.r),.t (.sl E.c),.map (.arg 1)],aI] [])) _ _ _
           rw[hres]
           exact⟨(),kF ah ai [oB vM,oB k4,oB cN,oB jv,oB pK,oB ki,oC acS,oB fR] (by kernel_rfl)⟩
          ·
           have DA:=av fR
           have hres:bQ (OP m) E f (.agg [.int .u8 op,.int .i64 n,.str s,.str t,.sl ns,.sl ks])=(.agg [.int .u8 5,.str [],.sl [.agg [.int .u8 u6,.str u7,.sl Ax,.sl rL]],.sl []],0):=by
             rw[bH hz,← jU]
             unfold jg
             rw[if_neg (by omega)]
             rw[if_neg (by omega)]
             rw[if_neg (by omega)]
             rw[if_pos (by omega)]
             show(if(br (JF m) ei kl).2≠0 then(ei,(br (JF m) ei kl).2) else(aC 5 [] [(br (JF m) ei kl).1] [],0))=_
             rw[if_neg (fun q=>q (av fR)),eq_20];rfl
           show ∃_:Unit,KE (cf m) (cv (cf m) _ 2 (.ret (.t (.bN [(bQ (OP m) E f (.agg [.int .u8 op,.int .i64 n,.str s,.str t,.sl ns,.sl ks])).1,.int .i64 (bQ (OP m) E f (.agg [.int .u8 op,.int .i64 n,.str s,.str t,.sl ns,.sl ks])).2])) [.cells 68 [.t (.sl E.ts),.t (.sl E.ac),.t (.str E.p),.t (.str E.r),.t (.sl E.c),.map (.arg 1)],aI] [])) _ _ _
           rw[hres]
           exact⟨(),kF ah ai [oB vM,oB k4,oB cN,oB jv,oB pK,oB ki,oC acS,oB fR] (by kernel_rfl)⟩
         ·
          have Dn:=ne_of_beq_false ki
          rcases aL ((op==7)) with Bw|Bw
          ·
           have UO:=eq_of_beq Bw
           have hnk:ns.length=kl.length:=by rw[hll];exact m2 (eq_of_beq Bw)
           refine eF (f:=0) (n:=3000) (once:=[]) (k:=170) (T:=2) (S:=[.loc [1],.loc [19]]) (ks:=[.loc [1],.loc [19],.arg 0,.arg 1]) (live:=[4,6,14,90,91,92]) ah ai (α:=Nat×List Tree) (fun x=>(match x.2 with| []=>⟨bX 170 [(4,.ptr (.loc [0]) 0),(6,.t (.sl kl)),(14,.ptr (.loc [1]) 0),(90,.t (.sl ns)),(91,.t (.int .i64 ((ns.length:Nat):Int))),(92,.t (.int .i64 ((x.1:Nat):Int)))],[(.loc [0],.cells 38 [.t (.int .u8 0),.t (.str []),.bl,.bl]),(.loc [1],.cells 38 [.t (.int .u8 6),.t (.str []),.bl,.bl]),(.arg 0,.cells 68 [.t (.sl E.ts),.t (.sl E.ac),.t (.str E.p),.t (.str E.r),.t (.sl E.c),.map (.arg 1)]),(.arg 1,aI)],2⟩|_::_=>⟨bX 170 [(4,.ptr (.loc [0]) 0),(6,.t (.sl kl)),(14,.ptr (.loc [1]) 0),(90,.t (.sl ns)),(91,.t (.int .i64 ((ns.length:Nat):Int))),(92,.t (.int .i64 ((x.1:Nat):Int)))],[(.loc [0],.cells 38 [.t (.int .u8 0),.t (.str []),.bl,.bl]),(.loc [1],.cells 38 [.t (.int .u8 6),.t (.str []),.bl,.ref (.loc [2]) 0 x.2.length]),(.loc [2],.arr (45,true) 5 false ((flat x.2).map .t)),(.arg 0,.cells 68 [.t (.sl E.ts),.t (.sl E.ac),.t (.str E.p),.t (.str E.r),.t (.sl E.c),.map (.arg 1)]),(.arg 1,aI)],3⟩)) (fun x=>(x.1≤ns.length)∧(x.2=kC (ns.take x.1) (kl.take x.1))∧(fA true 5 x.2)∧(x.2.length≤x.1)∧(∀y∈x.2,T .bx y)) (fun x=>ns.length - x.1) (⟨0,[]⟩) (iF (Tryz.f19.body.getD .skip) 30) [oB vM,oB k4,oB cN,oB jv,oB pK,oB ki,oB Bw,oN (o:=aI) (fun _=>rfl)] (by kernel_rfl) ⟨Nat.zero_le _,rfl,fA.nil,Nat.le_refl _,fun y hy=>absurd hy (by simp)⟩ (fun x hok=> ?_)
           obtain⟨nJ,D7⟩:=x
           replace hok:(nJ≤ns.length)∧(D7=kC (ns.take nJ) (kl.take nJ))∧(fA true 5 D7)∧(D7.length≤nJ)∧(∀y∈D7,T .bx y):=hok
           obtain⟨af4,zl,D8,af5,Ky⟩:=hok
           rcases D7 with _|⟨rP,rQ⟩
           ·
            rcases aL (decide (((nJ:Nat):Int)<((ns.length:Nat):Int))) with iJ|iJ
            ·
             have JY:=of_decide_eq_true iJ
             obtain⟨e26,acT⟩:=ou ns nJ (by first|omega|(simp;omega))
             have af6:=(Il e26 (List.mem_of_getElem? acT))
             obtain⟨VD,rfl⟩:=T.cT af6
             obtain⟨e28,sO⟩:=ou kl nJ (by first|omega|(simp;omega))
             have Om:=(M3 e28 (List.mem_of_getElem? sO))
             obtain⟨zm,zn,D9,uI,rfl,XX,XY,XZ,X0⟩:=T.aT Om
             exact⟨.inl ⟨⟨nJ+1,([.agg [.str VD,.int .u8 zm,.str zn,.sl D9,.sl uI]]:List Tree)⟩,⟨⟨(by show(nJ+1)≤ns.length;omega),((congrArg (fun l=>l++[_]) zl).trans (zk acT sO)),(by exact(fA.cons ⟨rfl,rfl,rfl⟩ .nil)),(by show([.agg [.str VD,.int .u8 zm,.str zn,.sl D9,.sl uI]]:List Tree).length≤(nJ+1);first|omega|(simp only[List.length_append,List.length_cons,List.length_nil,List.length_singleton] at*;omega)|(simp;done)|(simp;omega)),(fun y hy=>by rw[List.mem_singleton.1 hy];exact Ku _ Om)⟩,(by show(ns.length - (nJ+1))<(ns.length - nJ);omega)⟩⟩,bS (f:=0) (n:=3000) (once:=[]) (k:=170) (T:=3) (S:=[.loc [0],.loc [1],.loc [17]]) (ks:=[.loc [0],.loc [1],.loc [17],.arg 0,.arg 1]) (live:=[4,6,14,90,91,92]) ah ai [oB iJ,oE acT,oE sO,oU true 5 ([.agg [.str VD,.int .u8 zm,.str zn,.sl D9,.sl uI]]:List Tree) (fA.cons ⟨rfl,rfl,rfl⟩ fA.nil) (by simp),oA (([.agg [.str VD,.int .u8 zm,.str zn,.sl D9,.sl uI]]:List Tree).length*88) (by first|omega|(simp only[List.length_append,List.length_cons,List.length_nil,List.length_singleton] at*;omega)|(simp;done)|(simp;omega)),oI (nJ) (by omega),oN (o:=.arr (45,true) 5 false ((flat ([.agg [.str VD,.int .u8 zm,.str zn,.sl D9,.sl uI]]:List Tree)).map .t)) (fun _=>eB),oN (o:=aI) (fun _=>rfl)] (by kernel_rfl)⟩
            ·
             have JY:=of_decide_eq_false iJ
             refine kO ah ai [oB iJ] (by kernel_rfl) ?_
             refine Io (f:=0) (n:=3000) (once:=[]) (k:=170) (T:=2) (S:=[.loc [0],.loc [1]]) (ks:=[.loc [0],.loc [1],.arg 0,.arg 1]) (live:=[4,6,14,93]) ah ai (Tryz.f19.body.getD .skip) 35 rfl (⟨bX 170 [(4,.ptr (.loc [0]) 0),(6,.t (.sl kl)),(14,.ptr (.loc [1]) 0),(93,.t (.bool (decide (((nJ:Nat):Int)<((ns.length:Nat):Int)))))],[(.loc [0],.cells 38 [.t (.int .u8 0),.t (.str []),.bl,.bl]),(.loc [1],.cells 38 [.t (.int .u8 6),.t (.str []),.bl,.bl]),(.arg 0,.cells 68 [.t (.sl E.ts),.t (.sl E.ac),.t (.str E.p),.t (.str E.r),.t (.sl E.c),.map (.arg 1)]),(.arg 1,aI)],2⟩) [oC (show ev 58 [.t (.sl []),.t (.fn (.func 59))] []=some (bG.ret (.t (.bN [])) [] []) from(OQ Yk)),oN (o:=aI) (fun _=>rfl)] (by kernel_rfl) ?_
             refine AX.region ?_
             refine au.go (f:=0) ai (bg rfl (ld dW rfl rfl)) ?_
             refine au.qd (f:=0) ai (bT rfl rfl (sx dW rfl rfl)) ?_
             refine au.go (f:=0) ai (aj rfl) ?_
             refine au.nil ?_
             have hres:bQ (OP m) E f (.agg [.int .u8 op,.int .i64 n,.str s,.str t,.sl ns,.sl ks])=(.agg [.int .u8 6,.str [],.sl [],.sl []],0):=by
               rw[bH hz,← jU]
               unfold jg
               rw[if_neg (by omega)]
               rw[if_neg (by omega)]
               rw[if_neg (by omega)]
               rw[if_neg (by omega)]
               rw[if_pos (by omega)]
               show(aC 6 [] [] (gM (kC ns kl)),0)=_
               rw[show kC ns kl=[] from(zl.trans (by rw[List.take_of_length_le (by omega),List.take_of_length_le (by omega)])).symm]
               rw[F1];rfl
             show ∃_:Unit,KE (cf m) (cv (cf m) _ 2 (.ret (.t (.bN [(bQ (OP m) E f (.agg [.int .u8 op,.int .i64 n,.str s,.str t,.sl ns,.sl ks])).1,.int .i64 (bQ (OP m) E f (.agg [.int .u8 op,.int .i64 n,.str s,.str t,.sl ns,.sl ks])).2])) [.cells 68 [.t (.sl E.ts),.t (.sl E.ac),.t (.str E.p),.t (.str E.r),.t (.sl E.c),.map (.arg 1)],aI] [])) _ _ _
             rw[hres]
             exact⟨(),kF ah ai [] (by kernel_rfl)⟩
           ·
            rcases aL (decide (((nJ:Nat):Int)<((ns.length:Nat):Int))) with VE|VE
            ·
             have af7:=of_decide_eq_true VE
             obtain⟨e31,Dw⟩:=ou ns nJ (by first|omega|(simp;omega))
             have af8:=(Il e31 (List.mem_of_getElem? Dw))
             obtain⟨VF,rfl⟩:=T.cT af8
             obtain⟨e33,acU⟩:=ou kl nJ (by first|omega|(simp;omega))
             have ZL:=(M3 e33 (List.mem_of_getElem? acU))
             obtain⟨zo,zq,Ea,uJ,rfl,ahm,ahn,aho,ahp⟩:=T.aT ZL
             exact⟨.inl ⟨⟨nJ+1,(rP::rQ)++([.agg [.str VF,.int .u8 zo,.str zq,.sl Ea,.sl uJ]]:List Tree)⟩,⟨⟨(by show(nJ+1)≤ns.length;omega),((congrArg (fun l=>l++[_]) zl).trans (zk Dw acU)),(by exact D8.append (fA.cons ⟨rfl,rfl,rfl⟩ .nil)),(by show((rP::rQ)++([.agg [.str VF,.int .u8 zo,.str zq,.sl Ea,.sl uJ]]:List Tree)).length≤(nJ+1);first|omega|(simp only[List.length_append,List.length_cons,List.length_nil,List.length_singleton] at*;omega)|(simp;done)|(simp;omega)),(fun y hy=>(List.mem_append.1 hy).elim (fun hy=>Ky y hy) (fun hy=>by rw[List.mem_singleton.1 hy];exact Ku _ ZL))⟩,(by show(ns.length - (nJ+1))<(ns.length - nJ);omega)⟩⟩,bS (f:=0) (n:=3000) (once:=[]) (k:=170) (T:=3) (S:=[.loc [0],.loc [1],.loc [2]]) (ks:=[.loc [0],.loc [1],.loc [2],.arg 0,.arg 1]) (live:=[4,6,14,90,91,92]) ah ai [oB VE,oE Dw,oE acU,oU true 5 ([.agg [.str VF,.int .u8 zo,.str zq,.sl Ea,.sl uJ]]:List Tree) (fA.cons ⟨rfl,rfl,rfl⟩ fA.nil) (by simp),oW true 5 (rP::rQ) D8,oA (((rP::rQ).length+([.agg [.str VF,.int .u8 zo,.str zq,.sl Ea,.sl uJ]]:List Tree).length) *88) (by first|omega|(simp only[List.length_append,List.length_cons,List.length_nil,List.length_singleton] at*;omega)|(simp;done)|(simp;omega)),oI (nJ) (by omega),oN (o:=.arr (45,true) 5 false ((flat ((rP::rQ)++([.agg [.str VF,.int .u8 zo,.str zq,.sl Ea,.sl uJ]]:List Tree))).map .t)) (fun _=>eB),oN (o:=aI) (fun _=>rfl)] (by kernel_rfl)⟩
            ·
             have af7:=of_decide_eq_false VE
             refine kO ah ai [oB VE] (by kernel_rfl) ?_
             refine Io (f:=0) (n:=3000) (once:=[]) (k:=170) (T:=3) (S:=[.loc [0],.loc [1],.loc [2]]) (ks:=[.loc [0],.loc [1],.loc [2],.arg 0,.arg 1]) (live:=[4,6,14,93]) ah ai (Tryz.f19.body.getD .skip) 34 rfl (⟨bX 170 [(4,.ptr (.loc [0]) 0),(6,.t (.sl kl)),(14,.ptr (.loc [1]) 0),(93,.t (.bool (decide (((nJ:Nat):Int)<((ns.length:Nat):Int)))))],[(.loc [0],.cells 38 [.t (.int .u8 0),.t (.str []),.bl,.bl]),(.loc [1],.cells 38 [.t (.int .u8 6),.t (.str []),.bl,.ref (.loc [2]) 0 ((rP::rQ).length)]),(.loc [2],.arr (45,true) 5 false ((flat (rP::rQ)).map .t)),(.arg 0,.cells 68 [.t (.sl E.ts),.t (.sl E.ac),.t (.str E.p),.t (.str E.r),.t (.sl E.c),.map (.arg 1)]),(.arg 1,aI)],3⟩) [oN (o:=.arr (45,true) 5 false ((flat (rP::rQ)).map .t)) (fun _=>eB),oN (o:=aI) (fun _=>rfl)] (by kernel_rfl) ?_
             refine AX.region ?_
             refine au.go (f:=0) ai (aD rfl gQ rfl) ?_
             refine au.go (f:=0) ai (bg rfl (ld gK rfl rfl)) ?_
             refine au.Jl (S:=[.loc [2]]) ai (eD rfl) (by decide) rfl (yo rfl) (OS Yk (by simp) (by omega) Ky) rfl Jm rfl ?_
             refine au.nil ?_
             refine Io (f:=0) (n:=3000) (once:=[]) (k:=170) (T:=3) (S:=[.loc [0],.loc [1],.loc [2]]) (ks:=[.loc [0],.loc [1],.loc [2],.arg 0,.arg 1]) (live:=[4,6,14,93]) ah ai (Tryz.f19.body.getD .skip) 35 rfl (⟨bX 170 [(4,.ptr (.loc [0]) 0),(6,.t (.sl kl)),(14,.ptr (.loc [1]) 0),(93,.t (.bool (decide (((nJ:Nat):Int)<((ns.length:Nat):Int)))))],[(.loc [0],.cells 38 [.t (.int .u8 0),.t (.str []),.bl,.bl]),(.loc [1],.cells 38 [.t (.int .u8 6),.t (.str []),.bl,.ref (.loc [2]) 0 ((rP::rQ).length)]),(.loc [2],.arr (45,true) 5 false ((flat (gM (rP::rQ))).map .t)),(.arg 0,.cells 68 [.t (.sl E.ts),.t (.sl E.ac),.t (.str E.p),.t (.str E.r),.t (.sl E.c),.map (.arg 1)]),(.arg 1,aI)],3⟩) [oN (o:=.arr (45,true) 5 false ((flat (gM (rP::rQ))).map .t)) (fun _=>eB),oN (o:=aI) (fun _=>rfl)] (by kernel_rfl) ?_
             refine AX.re (Re.Xd (k:=.loc [1]) (m:=1) 3 rfl rfl (x7 rfl (F0 D8) (by decide) (gu _).symm rfl)) ?_
             refine AX.region ?_
             refine au.go (f:=0) ai (bg rfl (ld dW rfl rfl)) ?_
             refine au.qd (f:=0) ai (bT rfl rfl (sx dW rfl rfl)) ?_
             refine au.go (f:=0) ai (aj rfl) ?_
             refine au.nil ?_
             have hres:bQ (OP m) E f (.agg [.int .u8 op,.int .i64 n,.str s,.str t,.sl ns,.sl ks])=(.agg [.int .u8 6,.str [],.sl [],.sl (gM (rP::rQ))],0):=by
               rw[bH hz,← jU]
               unfold jg
               rw[if_neg (by omega)]
               rw[if_neg (by omega)]
               rw[if_neg (by omega)]
               rw[if_neg (by omega)]
               rw[if_pos (by omega)]
               show(aC 6 [] [] (gM (kC ns kl)),0)=_
               rw[show kC ns kl=(rP::rQ) from(zl.trans (by rw[List.take_of_length_le (by omega),List.take_of_length_le (by omega)])).symm]
               rfl
             show ∃_:Unit,KE (cf m) (cv (cf m) _ 2 (.ret (.t (.bN [(bQ (OP m) E f (.agg [.int .u8 op,.int .i64 n,.str s,.str t,.sl ns,.sl ks])).1,.int .i64 (bQ (OP m) E f (.agg [.int .u8 op,.int .i64 n,.str s,.str t,.sl ns,.sl ks])).2])) [.cells 68 [.t (.sl E.ts),.t (.sl E.ac),.t (.str E.p),.t (.str E.r),.t (.sl E.c),.map (.arg 1)],aI] [])) _ _ _
             rw[hres]
             exact⟨(),kF ah ai [] (by kernel_rfl)⟩
          ·
           have UO:=ne_of_beq_false Bw
           rcases aL ((op==8)) with Dy|Dy
           ·
            have TS:=eq_of_beq Dy
            exact absurd h0 (by omega)
           ·
            have TS:=ne_of_beq_false Dy
            rcases aL ((op==14)) with HH|HH
            ·
             have UU:=eq_of_beq HH
             exact absurd h0 (by omega)
            ·
             have UU:=ne_of_beq_false HH
             exact absurd h0 (by omega)
  ·
   rcases aL (decide (((i_1:Nat):Int)<((ks.length:Nat):Int))) with mI|mI
   ·
    have Uv:=of_decide_eq_true mI
    obtain⟨e38,Kz⟩:=ou ks i_1 (by first|omega|(simp;omega))
    have af9:=(hks e38 (List.mem_of_getElem? Kz))
    obtain⟨Eb,M4,M5,Ec,pV,s6,rfl,ahq,ahr,ahs,aht⟩:=T.cG af9
    have aj0:ev 19 [.ptr (.arg 0) 0,.t (.agg [.int .u8 Eb,.int .i64 M4,.str M5,.str Ec,.sl pV,.sl s6])] [.cells 68 [.t (.sl E.ts),.t (.sl E.ac),.t (.str E.p),.t (.str E.r),.t (.sl E.c),.map (.arg 1)],aI]=some (bG.ret (.t (.bN [(f (.agg [.int .u8 Eb,.int .i64 M4,.str M5,.str Ec,.sl pV,.sl s6])).1,.int .i64 (f (.agg [.int .u8 Eb,.int .i64 M4,.str M5,.str Ec,.sl pV,.sl s6])).2])) [.cells 68 [.t (.sl E.ts),.t (.sl E.ac),.t (.str E.p),.t (.str E.r),.t (.sl E.c),.map (.arg 1)],aI] []):=Xe e_self [(.agg [.int .u8 Eb,.int .i64 M4,.str M5,.str Ec,.sl pV,.sl s6])] ⟨_,(List.mem_of_getElem? Kz),rfl⟩
    have VG:=(hf _ (List.mem_of_getElem? Kz)).2
    obtain⟨zu,zw,Ed,uK,eq_41,ahu,ahv,ahw,ahx⟩:=T.aT VG
    rw[eq_41] at VG
    have acV:=aj0
    rw[eq_41] at acV
    rcases aL (((f (.agg [.int .u8 Eb,.int .i64 M4,.str M5,.str Ec,.sl pV,.sl s6])).2 != 0)) with nR|nR
    ·
     have Uw:=aA nR
     refine kO ah ai [oB mI,oE Kz,oC acV,oB nR] (by kernel_rfl) ?_
     have hfe:fZ f ks=(f (.agg [.int .u8 Eb,.int .i64 M4,.str M5,.str Ec,.sl pV,.sl s6])).2:=z7 (fun j hj y hy=>vr j hj y hy) Kz (aA nR)
     have hres:bQ (OP m) E f (.agg [.int .u8 op,.int .i64 n,.str s,.str t,.sl ns,.sl ks])=(.agg [.int .u8 0,.str [],.sl [],.sl []],(f (.agg [.int .u8 Eb,.int .i64 M4,.str M5,.str Ec,.sl pV,.sl s6])).2):=by
       rw[CG (by rw[hfe];exact aA nR),hfe];rfl
     show ∃_:Unit,KE (cf m) (cv (cf m) _ 2 (.ret (.t (.bN [(bQ (OP m) E f (.agg [.int .u8 op,.int .i64 n,.str s,.str t,.sl ns,.sl ks])).1,.int .i64 (bQ (OP m) E f (.agg [.int .u8 op,.int .i64 n,.str s,.str t,.sl ns,.sl ks])).2])) [.cells 68 [.t (.sl E.ts),.t (.sl E.ac),.t (.str E.p),.t (.str E.r),.t (.sl E.c),.map (.arg 1)],aI] [])) _ _ _
     rw[hres]
     exact⟨(),kF ah ai [] (by kernel_rfl)⟩
    ·
     have Uw:=av nR
     exact⟨.inl ⟨⟨i_1+1,(EH::EI)++([.agg [.int .u8 zu,.str zw,.sl Ed,.sl uK]]:List Tree)⟩,⟨⟨(by show(i_1+1)≤ks.length;omega),((congrArg (fun l=>l++[_]) fV).trans (OO Kz eq_41)),(by exact vo.append (fA.cons ⟨rfl,rfl,rfl⟩ .nil)),(by show((EH::EI)++([.agg [.int .u8 zu,.str zw,.sl Ed,.sl uK]]:List Tree)).length≤(i_1+1);first|omega|(simp only[List.length_append,List.length_cons,List.length_nil,List.length_singleton] at*;omega)|(simp;done)|(simp;omega)),(je (G:=fun y=>(f y).2=0) Kz (av nR) vr),(fun y hy=>(List.mem_append.1 hy).elim (fun hy=>HX y hy) (fun hy=>by rw[List.mem_singleton.1 hy];exact VG))⟩,(by show(ks.length - (i_1+1))<(ks.length - i_1);omega)⟩⟩,bS (f:=0) (n:=3000) (once:=[]) (k:=170) (T:=3) (S:=[.loc [0],.loc [1],.loc [2]]) (ks:=[.loc [0],.loc [1],.loc [2],.arg 0,.arg 1]) (live:=[0,3,4,6,19,20,21]) ah ai [oB mI,oE Kz,oC acV,oB nR,oU true 4 ([.agg [.int .u8 zu,.str zw,.sl Ed,.sl uK]]:List Tree) (fA.cons ⟨rfl,rfl,rfl⟩ fA.nil) (by simp),oW true 4 (EH::EI) vo,oA (((EH::EI).length+([.agg [.int .u8 zu,.str zw,.sl Ed,.sl uK]]:List Tree).length) *72) (by first|omega|(simp only[List.length_append,List.length_cons,List.length_nil,List.length_singleton] at*;omega)|(simp;done)|(simp;omega)),oI (i_1) (by omega),oN (o:=.arr (38,true) 4 false ((flat ((EH::EI)++([.agg [.int .u8 zu,.str zw,.sl Ed,.sl uK]]:List Tree))).map .t)) (fun _=>eB),oN (o:=aI) (fun _=>rfl)] (by kernel_rfl)⟩
   ·
    have Uv:=of_decide_eq_false mI
    refine kO ah ai [oB mI] (by kernel_rfl) ?_
    refine Io (f:=0) (n:=3000) (once:=[]) (k:=170) (T:=3) (S:=[.loc [0],.loc [1],.loc [2]]) (ks:=[.loc [0],.loc [1],.loc [2],.arg 0,.arg 1]) (live:=[0,3,4,6,22]) ah ai (Tryz.f19.body.getD .skip) 10 rfl (⟨bX 170 [(0,.ptr (.arg 0) 0),(3,.ptr (.loc [0]) 0),(4,.ptr (.loc [1]) 0),(6,.ref (.loc [2]) 0 ((EH::EI).length)),(22,.t (.bool (decide (((i_1:Nat):Int)<((ks.length:Nat):Int)))))],[(.loc [0],.cells 26 [.t (.int .u8 op),.t (.int .i64 n),.t (.str s),.t (.str t),.t (.sl ns),.t (.sl ks)]),(.loc [1],.cells 38 [.t (.int .u8 0),.t (.str []),.bl,.bl]),(.loc [2],.arr (38,true) 4 false ((flat (EH::EI)).map .t)),(.arg 0,.cells 68 [.t (.sl E.ts),.t (.sl E.ac),.t (.str E.p),.t (.str E.r),.t (.sl E.c),.map (.arg 1)]),(.arg 1,aI)],3⟩) [oN (o:=.arr (38,true) 4 false ((flat (EH::EI)).map .t)) (fun _=>eB),oN (o:=aI) (fun _=>rfl)] (by kernel_rfl) ?_
    refine AX.re (Re.og (m:=1) 6 rfl (x7 rfl vo (by decide) (by first|rfl|(simp;done)|(simp;omega)) rfl)) ?_
    refine AX.re (st':=⟨bX 170 [(0,.ptr (.arg 0) 0),(3,.ptr (.loc [0]) 0),(4,.ptr (.loc [1]) 0),(6,.t (.sl (EH::EI))),(22,.t (.bool (decide (((i_1:Nat):Int)<((ks.length:Nat):Int)))))],[(.loc [0],.cells 26 [.t (.int .u8 op),.t (.int .i64 n),.t (.str s),.t (.str t),.t (.sl ns),.t (.sl ks)]),(.loc [1],.cells 38 [.t (.int .u8 0),.t (.str []),.bl,.bl]),(.arg 0,.cells 68 [.t (.sl E.ts),.t (.sl E.ac),.t (.str E.p),.t (.str E.r),.t (.sl E.c),.map (.arg 1)]),(.arg 1,aI)],2⟩) (Re.sq [.loc [0],.loc [1]] ⟨rfl,rfl,rfl,rfl,rfl,trivial⟩ ⟨⟨.loc [0],_,rfl,rfl,.inl rfl⟩,⟨.loc [1],_,rfl,rfl,.inl rfl⟩,⟨.arg 0,_,rfl,rfl,.inl rfl⟩,⟨.arg 1,_,rfl,rfl,.inl rfl⟩,trivial⟩ (by decide) rfl rfl (by decide)) ?_
    have hkl:((EH::EI):List Tree)=ks.map (fun k=>(f k).1):=fV.trans (by rw[List.take_of_length_le (by omega)])
    obtain⟨kl,jU⟩:∃kl,kl=ks.map (fun k=>(f k).1):=⟨_,rfl⟩
    refine AX.re (st':=⟨bX 170 [(0,.ptr (.arg 0) 0),(3,.ptr (.loc [0]) 0),(4,.ptr (.loc [1]) 0),(6,.t (.sl kl)),(22,.t (.bool (decide (((i_1:Nat):Int)<((ks.length:Nat):Int)))))],[(.loc [0],.cells 26 [.t (.int .u8 op),.t (.int .i64 n),.t (.str s),.t (.str t),.t (.sl ns),.t (.sl ks)]),(.loc [1],.cells 38 [.t (.int .u8 0),.t (.str []),.bl,.bl]),(.arg 0,.cells 68 [.t (.sl E.ts),.t (.sl E.ac),.t (.str E.p),.t (.str E.r),.t (.sl E.c),.map (.arg 1)]),(.arg 1,aI)],2⟩) (by rw[jU,← hkl];exact Re.refl _) ?_
    have hll:kl.length=ks.length:=by rw[jU,List.length_map]
    have M3:∀y∈kl,T .aB y:=by rw[jU,← hkl];exact HX
    have hz:fZ f ks=0:=qX (kj (G:=fun y=>(f y).2=0) (l:=ks) (fun j hj=>vr j (by omega)))
    obtain⟨m1,m2,m3,m4⟩:=hM
    refine AX.region ?_
    refine au.go (f:=0) ai (aD rfl VA rfl) ?_
    refine au.go (f:=0) ai (cD rfl (ld acJ rfl rfl)) ?_
    refine au.nil ?_
    rcases aL ((op==1)) with qL|qL
    ·
     have aga:=eq_of_beq qL
     have hres:bQ (OP m) E f (.agg [.int .u8 op,.int .i64 n,.str s,.str t,.sl ns,.sl ks])=(.agg [.int .u8 (IntKind.wrap .u8 (1+(IntKind.wrap .u8 (op - 1)))),.str [],.sl [],.sl []],0):=by
       rw[bH hz,← jU]
       unfold jg
       rw[if_pos (by omega)]
       rw[show op=1 from eq_of_beq qL];rfl
     show ∃_:Unit,KE (cf m) (cv (cf m) _ 2 (.ret (.t (.bN [(bQ (OP m) E f (.agg [.int .u8 op,.int .i64 n,.str s,.str t,.sl ns,.sl ks])).1,.int .i64 (bQ (OP m) E f (.agg [.int .u8 op,.int .i64 n,.str s,.str t,.sl ns,.sl ks])).2])) [.cells 68 [.t (.sl E.ts),.t (.sl E.ac),.t (.str E.p),.t (.str E.r),.t (.sl E.c),.map (.arg 1)],aI] [])) _ _ _
     rw[hres]
     exact⟨(),kF ah ai [oB qL,oB qL,oZ,oZ] (by kernel_rfl)⟩
    ·
     have aga:=ne_of_beq_false qL
     rcases aL ((op==2)) with ko|ko
     ·
      have Ux:=eq_of_beq ko
      have hres:bQ (OP m) E f (.agg [.int .u8 op,.int .i64 n,.str s,.str t,.sl ns,.sl ks])=(.agg [.int .u8 (IntKind.wrap .u8 (1+(IntKind.wrap .u8 (op - 1)))),.str [],.sl [],.sl []],0):=by
        rw[bH hz,← jU]
        unfold jg
        rw[if_pos (by omega)]
        rw[show op=2 from eq_of_beq ko];rfl
      show ∃_:Unit,KE (cf m) (cv (cf m) _ 2 (.ret (.t (.bN [(bQ (OP m) E f (.agg [.int .u8 op,.int .i64 n,.str s,.str t,.sl ns,.sl ks])).1,.int .i64 (bQ (OP m) E f (.agg [.int .u8 op,.int .i64 n,.str s,.str t,.sl ns,.sl ks])).2])) [.cells 68 [.t (.sl E.ts),.t (.sl E.ac),.t (.str E.p),.t (.str E.r),.t (.sl E.c),.map (.arg 1)],aI] [])) _ _ _
      rw[hres]
      exact⟨(),kF ah ai [oB qL,oB ko,oB ko,oZ,oZ] (by kernel_rfl)⟩
     ·
      have Ux:=ne_of_beq_false ko
      rcases aL ((op==3)) with tH|tH
      ·
       have agb:=eq_of_beq tH
       have hres:bQ (OP m) E f (.agg [.int .u8 op,.int .i64 n,.str s,.str t,.sl ns,.sl ks])=(.agg [.int .u8 (IntKind.wrap .u8 (1+(IntKind.wrap .u8 (op - 1)))),.str [],.sl [],.sl []],0):=by
         rw[bH hz,← jU]
         unfold jg
         rw[if_pos (by omega)]
         rw[show op=3 from eq_of_beq tH];rfl
       show ∃_:Unit,KE (cf m) (cv (cf m) _ 2 (.ret (.t (.bN [(bQ (OP m) E f (.agg [.int .u8 op,.int .i64 n,.str s,.str t,.sl ns,.sl ks])).1,.int .i64 (bQ (OP m) E f (.agg [.int .u8 op,.int .i64 n,.str s,.str t,.sl ns,.sl ks])).2])) [.cells 68 [.t (.sl E.ts),.t (.sl E.ac),.t (.str E.p),.t (.str E.r),.t (.sl E.c),.map (.arg 1)],aI] [])) _ _ _
       rw[hres]
       exact⟨(),kF ah ai [oB qL,oB ko,oB tH,oZ,oZ] (by kernel_rfl)⟩
      ·
       have agb:=ne_of_beq_false tH
       rcases aL ((op==4)) with nt|nt
       ·
        have Uy:=eq_of_beq nt
        rcases aL (((Bn E t s) != 0)) with M6|M6
        ·
         have agc:=aA M6
         have hres:bQ (OP m) E f (.agg [.int .u8 op,.int .i64 n,.str s,.str t,.sl ns,.sl ks])=(.agg [.int .u8 0,.str [],.sl [],.sl []],(Bn E t s)):=by
           rw[bH hz,← jU]
           unfold jg
           rw[if_neg (by omega)]
           rw[if_pos (by omega)]
           rw[if_pos (aA M6)];rfl
         show ∃_:Unit,KE (cf m) (cv (cf m) _ 2 (.ret (.t (.bN [(bQ (OP m) E f (.agg [.int .u8 op,.int .i64 n,.str s,.str t,.sl ns,.sl ks])).1,.int .i64 (bQ (OP m) E f (.agg [.int .u8 op,.int .i64 n,.str s,.str t,.sl ns,.sl ks])).2])) [.cells 68 [.t (.sl E.ts),.t (.sl E.ac),.t (.str E.p),.t (.str E.r),.t (.sl E.c),.map (.arg 1)],aI] [])) _ _ _
         rw[hres]
         exact⟨(),kF ah ai [oB qL,oB ko,oB tH,oB nt,oC (lX OT),oB M6] (by kernel_rfl)⟩
        ·
         have agc:=av M6
         have hres:bQ (OP m) E f (.agg [.int .u8 op,.int .i64 n,.str s,.str t,.sl ns,.sl ks])=(.agg [.int .u8 4,.str t,.sl [],.sl []],0):=by
           rw[bH hz,← jU]
           unfold jg
           rw[if_neg (by omega)]
           rw[if_pos (by omega)]
           rw[if_neg (fun q=>q (av M6))];rfl
         show ∃_:Unit,KE (cf m) (cv (cf m) _ 2 (.ret (.t (.bN [(bQ (OP m) E f (.agg [.int .u8 op,.int .i64 n,.str s,.str t,.sl ns,.sl ks])).1,.int .i64 (bQ (OP m) E f (.agg [.int .u8 op,.int .i64 n,.str s,.str t,.sl ns,.sl ks])).2])) [.cells 68 [.t (.sl E.ts),.t (.sl E.ac),.t (.str E.p),.t (.str E.r),.t (.sl E.c),.map (.arg 1)],aI] [])) _ _ _
         rw[hres]
         exact⟨(),kF ah ai [oB qL,oB ko,oB tH,oB nt,oC (lX OT),oB M6,oC (bk QI (x:=.str t) ⟨_,rfl⟩)] (by kernel_rfl)⟩
       ·
        have Uy:=ne_of_beq_false nt
        rcases aL ((op==5)) with zx|zx
        ·
         have agd:=eq_of_beq zx
         have aj1:ev 56 [.ptr (.arg 0) 0,.t (.str s)] [.cells 68 [.t (.sl E.ts),.t (.sl E.ac),.t (.str E.p),.t (.str E.r),.t (.sl E.c),.map (.arg 1)],aI]=some (bG.ret (.t (qC E s)) [.cells 68 [.t (.sl E.ts),.t (.sl E.ac),.t (.str E.p),.t (.str E.r),.t (.sl E.c),.map (.arg 1)],aI] []):=lX ZJ
         have ZM:=MZ ⟨lt,ht,la,ha,lc,hc⟩ s
         obtain⟨Yn,Yo,acW,VH,VI,ahy,ahz,ahA,ahB⟩:=T.aT ZM
         rw[VI] at ZM
         have age:=aj1
         rw[VI] at age
         have hres:bQ (OP m) E f (.agg [.int .u8 op,.int .i64 n,.str s,.str t,.sl ns,.sl ks])=(.agg [.int .u8 Yn,.str Yo,.sl acW,.sl VH],0):=by
           rw[bH hz,← jU]
           unfold jg
           rw[if_neg (by omega)]
           rw[if_neg (by omega)]
           rw[if_pos (by omega)]
           exact Prod.ext VI rfl
         show ∃_:Unit,KE (cf m) (cv (cf m) _ 2 (.ret (.t (.bN [(bQ (OP m) E f (.agg [.int .u8 op,.int .i64 n,.str s,.str t,.sl ns,.sl ks])).1,.int .i64 (bQ (OP m) E f (.agg [.int .u8 op,.int .i64 n,.str s,.str t,.sl ns,.sl ks])).2])) [.cells 68 [.t (.sl E.ts),.t (.sl E.ac),.t (.str E.p),.t (.str E.r),.t (.sl E.c),.map (.arg 1)],aI] [])) _ _ _
         rw[hres]
         exact⟨(),kF ah ai [oB qL,oB ko,oB tH,oB nt,oB zx,oC age] (by kernel_rfl)⟩
        ·
         have agd:=ne_of_beq_false zx
         rcases aL ((op==6)) with AB|AB
         ·
          have agf:=eq_of_beq AB
          have aj2:ev 57 [.t (.sl kl)] []=some (bG.ret (.t (.bN [(br (JF m) ei kl).1,.int .i64 (br (JF m) ei kl).2])) [] []):=bk af2 ⟨_,rfl,by omega,M3⟩
          have ZN:=vn (JFT m) nx M3
          obtain⟨Yp,Yq,acX,VJ,VK,ahC,ahD,ahE,ahF⟩:=T.aT ZN
          rw[VK] at ZN
          have acY:=aj2
          rw[VK] at acY
          rcases aL (((br (JF m) ei kl).2 != 0)) with M7|M7
          ·
           have agh:=aA M7
           have hres:bQ (OP m) E f (.agg [.int .u8 op,.int .i64 n,.str s,.str t,.sl ns,.sl ks])=(.agg [.int .u8 0,.str [],.sl [],.sl []],(br (JF m) ei kl).2):=by
             rw[bH hz,← jU]
             unfold jg
             rw[if_neg (by omega)]
             rw[if_neg (by omega)]
             rw[if_neg (by omega)]
             rw[if_pos (by omega)]
             show(if(br (JF m) ei kl).2≠0 then(ei,(br (JF m) ei kl).2) else(aC 5 [] [(br (JF m) ei kl).1] [],0))=_
             rw[if_pos (aA M7)];rfl
           show ∃_:Unit,KE (cf m) (cv (cf m) _ 2 (.ret (.t (.bN [(bQ (OP m) E f (.agg [.int .u8 op,.int .i64 n,.str s,.str t,.sl ns,.sl ks])).1,.int .i64 (bQ (OP m) E f (.agg [.int .u8 op,.int .i64 n,.str s,.str t,.sl ns,.sl ks])).2])) [.cells 68 [.t (.sl E.ts),.t (.sl E.ac),.t (.str E.p),.t (.str E.r),.t (.sl E.c),.map (.arg 1)],aI] [])) _ _ _
           rw[hres]
           exact⟨(),kF ah ai [oB qL,oB ko,oB tH,oB nt,oB zx,oB AB,oC acY,oB M7] (by kernel_rfl)⟩
          ·
           have agh:=av M7
           have hres:bQ (OP m) E f (.agg [.int .u8 op,.int .i64 n,.str s,.str t,.sl ns,.sl ks])=(.agg [.int .u8 5,.str [],.sl [.agg [.int .u8 Yp,.str Yq,.sl acX,.sl VJ]],.sl []],0):=by
             rw[bH hz,← jU]
             unfold jg
             rw[if_neg (by omega)]
             rw[if_neg (by omega)]
             rw[if_neg (by omega)]
             rw[if_pos (by omega)]
             show(if(br (JF m) ei kl).2≠0 then(ei,(br (JF m) ei kl).2) else(aC 5 [] [(br (JF m) ei kl).1] [],0))=_
             rw[if_neg (fun q=>q (av M7)),VK];rfl
           show ∃_:Unit,KE (cf m) (cv (cf m) _ 2 (.ret (.t (.bN [(bQ (OP m) E f (.agg [.int .u8 op,.int .i64 n,.str s,.str t,.sl ns,.sl ks])).1,.int .i64 (bQ (OP m) E f (.agg [.int .u8 op,.int .i64 n,.str s,.str t,.sl ns,.sl ks])).2])) [.cells 68 [.t (.sl E.ts),.t (.sl E.ac),.t (.str E.p),.t (.str E.r),.t (.sl E.c),.map (.arg 1)],aI] [])) _ _ _
           rw[hres]
           exact⟨(),kF ah ai [oB qL,oB ko,oB tH,oB nt,oB zx,oB AB,oC acY,oB M7] (by kernel_rfl)⟩
         ·
          have agf:=ne_of_beq_false AB
          rcases aL ((op==7)) with Bx|Bx
          ·
           have agi:=eq_of_beq Bx
           have hnk:ns.length=kl.length:=by rw[hll];exact m2 (eq_of_beq Bx)
           refine eF (f:=0) (n:=3000) (once:=[]) (k:=170) (T:=2) (S:=[.loc [1],.loc [19]]) (ks:=[.loc [1],.loc [19],.arg 0,.arg 1]) (live:=[4,6,14,90,91,92]) ah ai (α:=Nat×List Tree) (fun x=>(match x.2 with| []=>⟨bX 170 [(4,.ptr (.loc [0]) 0),(6,.t (.sl kl)),(14,.ptr (.loc [1]) 0),(90,.t (.sl ns)),(91,.t (.int .i64 ((ns.length:Nat):Int))),(92,.t (.int .i64 ((x.1:Nat):Int)))],[(.loc [0],.cells 38 [.t (.int .u8 0),.t (.str []),.bl,.bl]),(.loc [1],.cells 38 [.t (.int .u8 6),.t (.str []),.bl,.bl]),(.arg 0,.cells 68 [.t (.sl E.ts),.t (.sl E.ac),.t (.str E.p),.t (.str E.r),.t (.sl E.c),.map (.arg 1)]),(.arg 1,aI)],2⟩|_::_=>⟨bX 170 [(4,.ptr (.loc [0]) 0),(6,.t (.sl kl)),(14,.ptr (.loc [1]) 0),(90,.t (.sl ns)),(91,.t (.int .i64 ((ns.length:Nat):Int))),(92,.t (.int .i64 ((x.1:Nat):Int)))],[(.loc [0],.cells 38 [.t (.int .u8 0),.t (.str []),.bl,.bl]),(.loc [1],.cells 38 [.t (.int .u8 6),.t (.str []),.bl,.ref (.loc [2]) 0 x.2.length]),(.loc [2],.arr (45,true) 5 false ((flat x.2).map .t)),(.arg 0,.cells 68 [.t (.sl E.ts),.t (.sl E.ac),.t (.str E.p),.t (.str E.r),.t (.sl E.c),.map (.arg 1)]),(.arg 1,aI)],3⟩)) (fun x=>(x.1≤ns.length)∧(x.2=kC (ns.take x.1) (kl.take x.1))∧(fA true 5 x.2)∧(x.2.length≤x.1)∧(∀y∈x.2,T .bx y)) (fun x=>ns.length - x.1) (⟨0,[]⟩) (iF (Tryz.f19.body.getD .skip) 30) [oB qL,oB ko,oB tH,oB nt,oB zx,oB AB,oB Bx,oN (o:=aI) (fun _=>rfl)] (by kernel_rfl) ⟨Nat.zero_le _,rfl,fA.nil,Nat.le_refl _,fun y hy=>absurd hy (by simp)⟩ (fun x hok=> ?_)
           obtain⟨nK,Ee⟩:=x
           replace hok:(nK≤ns.length)∧(Ee=kC (ns.take nK) (kl.take nK))∧(fA true 5 Ee)∧(Ee.length≤nK)∧(∀y∈Ee,T .bx y):=hok
           obtain⟨agj,zy,Ef,agk,KI⟩:=hok
           rcases Ee with _|⟨rR,rS⟩
           ·
            rcases aL (decide (((nK:Nat):Int)<((ns.length:Nat):Int))) with VN|VN
            ·
             have agl:=of_decide_eq_true VN
             obtain⟨e61,acZ⟩:=ou ns nK (by first|omega|(simp;omega))
             have agm:=(Il e61 (List.mem_of_getElem? acZ))
             obtain⟨VO,rfl⟩:=T.cT agm
             obtain⟨e63,ac1⟩:=ou kl nK (by first|omega|(simp;omega))
             have ZO:=(M3 e63 (List.mem_of_getElem? ac1))
             obtain⟨zz,zA,Eg,uL,rfl,ahG,ahH,ahI,ahJ⟩:=T.aT ZO
             exact⟨.inl ⟨⟨nK+1,([.agg [.str VO,.int .u8 zz,.str zA,.sl Eg,.sl uL]]:List Tree)⟩,⟨⟨(by show(nK+1)≤ns.length;omega),((congrArg (fun l=>l++[_]) zy).trans (zk acZ ac1)),(by exact(fA.cons ⟨rfl,rfl,rfl⟩ .nil)),(by show([.agg [.str VO,.int .u8 zz,.str zA,.sl Eg,.sl uL]]:List Tree).length≤(nK+1);first|omega|(simp only[List.length_append,List.length_cons,List.length_nil,List.length_singleton] at*;omega)|(simp;done)|(simp;omega)),(fun y hy=>by rw[List.mem_singleton.1 hy];exact Ku _ ZO)⟩,(by show(ns.length - (nK+1))<(ns.length - nK);omega)⟩⟩,bS (f:=0) (n:=3000) (once:=[]) (k:=170) (T:=3) (S:=[.loc [0],.loc [1],.loc [17]]) (ks:=[.loc [0],.loc [1],.loc [17],.arg 0,.arg 1]) (live:=[4,6,14,90,91,92]) ah ai [oB VN,oE acZ,oE ac1,oU true 5 ([.agg [.str VO,.int .u8 zz,.str zA,.sl Eg,.sl uL]]:List Tree) (fA.cons ⟨rfl,rfl,rfl⟩ fA.nil) (by simp),oA (([.agg [.str VO,.int .u8 zz,.str zA,.sl Eg,.sl uL]]:List Tree).length*88) (by first|omega|(simp only[List.length_append,List.length_cons,List.length_nil,List.length_singleton] at*;omega)|(simp;done)|(simp;omega)),oI (nK) (by omega),oN (o:=.arr (45,true) 5 false ((flat ([.agg [.str VO,.int .u8 zz,.str zA,.sl Eg,.sl uL]]:List Tree)).map .t)) (fun _=>eB),oN (o:=aI) (fun _=>rfl)] (by kernel_rfl)⟩
            ·
             have agl:=of_decide_eq_false VN
             refine kO ah ai [oB VN] (by kernel_rfl) ?_
             refine Io (f:=0) (n:=3000) (once:=[]) (k:=170) (T:=2) (S:=[.loc [0],.loc [1]]) (ks:=[.loc [0],.loc [1],.arg 0,.arg 1]) (live:=[4,6,14,93]) ah ai (Tryz.f19.body.getD .skip) 35 rfl (⟨bX 170 [(4,.ptr (.loc [0]) 0),(6,.t (.sl kl)),(14,.ptr (.loc [1]) 0),(93,.t (.bool (decide (((nK:Nat):Int)<((ns.length:Nat):Int)))))],[(.loc [0],.cells 38 [.t (.int .u8 0),.t (.str []),.bl,.bl]),(.loc [1],.cells 38 [.t (.int .u8 6),.t (.str []),.bl,.bl]),(.arg 0,.cells 68 [.t (.sl E.ts),.t (.sl E.ac),.t (.str E.p),.t (.str E.r),.t (.sl E.c),.map (.arg 1)]),(.arg 1,aI)],2⟩) [oC (show ev 58 [.t (.sl []),.t (.fn (.func 59))] []=some (bG.ret (.t (.bN [])) [] []) from(OQ Yk)),oN (o:=aI) (fun _=>rfl)] (by kernel_rfl) ?_
             refine AX.region ?_
             refine au.go (f:=0) ai (bg rfl (ld dW rfl rfl)) ?_
             refine au.qd (f:=0) ai (bT rfl rfl (sx dW rfl rfl)) ?_
             refine au.go (f:=0) ai (aj rfl) ?_
             refine au.nil ?_
             have hres:bQ (OP m) E f (.agg [.int .u8 op,.int .i64 n,.str s,.str t,.sl ns,.sl ks])=(.agg [.int .u8 6,.str [],.sl [],.sl []],0):=by
               rw[bH hz,← jU]
               unfold jg
               rw[if_neg (by omega)]
               rw[if_neg (by omega)]
               rw[if_neg (by omega)]
               rw[if_neg (by omega)]
               rw[if_pos (by omega)]
               show(aC 6 [] [] (gM (kC ns kl)),0)=_
               rw[show kC ns kl=[] from(zy.trans (by rw[List.take_of_length_le (by omega),List.take_of_length_le (by omega)])).symm]
               rw[F1];rfl
             show ∃_:Unit,KE (cf m) (cv (cf m) _ 2 (.ret (.t (.bN [(bQ (OP m) E f (.agg [.int .u8 op,.int .i64 n,.str s,.str t,.sl ns,.sl ks])).1,.int .i64 (bQ (OP m) E f (.agg [.int .u8 op,.int .i64 n,.str s,.str t,.sl ns,.sl ks])).2])) [.cells 68 [.t (.sl E.ts),.t (.sl E.ac),.t (.str E.p),.t (.str E.r),.t (.sl E.c),.map (.arg 1)],aI] [])) _ _ _
             rw[hres]
             exact⟨(),kF ah ai [] (by kernel_rfl)⟩
           ·
            rcases aL (decide (((nK:Nat):Int)<((ns.length:Nat):Int))) with VP|VP
            ·
             have agn:=of_decide_eq_true VP
             obtain⟨e66,ac2⟩:=ou ns nK (by first|omega|(simp;omega))
             have ago:=(Il e66 (List.mem_of_getElem? ac2))
             obtain⟨VQ,rfl⟩:=T.cT ago
             obtain⟨e68,ac3⟩:=ou kl nK (by first|omega|(simp;omega))
             have ZP:=(M3 e68 (List.mem_of_getElem? ac3))
             obtain⟨zB,zC,Eh,uM,rfl,ahK,ahL,ahM,ahN⟩:=T.aT ZP
             exact⟨.inl ⟨⟨nK+1,(rR::rS)++([.agg [.str VQ,.int .u8 zB,.str zC,.sl Eh,.sl uM]]:List Tree)⟩,⟨⟨(by show(nK+1)≤ns.length;omega),((congrArg (fun l=>l++[_]) zy).trans (zk ac2 ac3)),(by exact Ef.append (fA.cons ⟨rfl,rfl,rfl⟩ .nil)),(by show((rR::rS)++([.agg [.str VQ,.int .u8 zB,.str zC,.sl Eh,.sl uM]]:List Tree)).length≤(nK+1);first|omega|(simp only[List.length_append,List.length_cons,List.length_nil,List.length_singleton] at*;omega)|(simp;done)|(simp;omega)),(fun y hy=>(List.mem_append.1 hy).elim (fun hy=>KI y hy) (fun hy=>by rw[List.mem_singleton.1 hy];exact Ku _ ZP))⟩,(by show(ns.length - (nK+1))<(ns.length - nK);omega)⟩⟩,bS (f:=0) (n:=3000) (once:=[]) (k:=170) (T:=3) (S:=[.loc [0],.loc [1],.loc [2]]) (ks:=[.loc [0],.loc [1],.loc [2],.arg 0,.arg 1]) (live:=[4,6,14,90,91,92]) ah ai [oB VP,oE ac2,oE ac3,oU true 5 ([.agg [.str VQ,.int .u8 zB,.str zC,.sl Eh,.sl uM]]:List Tree) (fA.cons ⟨rfl,rfl,rfl⟩ fA.nil) (by simp),oW true 5 (rR::rS) Ef,oA (((rR::rS).length+([.agg [.str VQ,.int .u8 zB,.str zC,.sl Eh,.sl uM]]:List Tree).length) *88) (by first|omega|(simp only[List.length_append,List.length_cons,List.length_nil,List.length_singleton] at*;omega)|(simp;done)|(simp;omega)),oI (nK) (by omega),oN (o:=.arr (45,true) 5 false ((flat ((rR::rS)++([.agg [.str VQ,.int .u8 zB,.str zC,.sl Eh,.sl uM]]:List Tree))).map .t)) (fun _=>eB),oN (o:=aI) (fun _=>rfl)] (by kernel_rfl)⟩
            ·
             have agn:=of_decide_eq_false VP
             refine kO ah ai [oB VP] (by kernel_rfl) ?_
             refine Io (f:=0) (n:=3000) (once:=[]) (k:=170) (T:=3) (S:=[.loc [0],.loc [1],.loc [2]]) (ks:=[.loc [0],.loc [1],.loc [2],.arg 0,.arg 1]) (live:=[4,6,14,93]) ah ai (Tryz.f19.body.getD .skip) 34 rfl (⟨bX 170 [(4,.ptr (.loc [0]) 0),(6,.t (.sl kl)),(14,.ptr (.loc [1]) 0),(93,.t (.bool (decide (((nK:Nat):Int)<((ns.length:Nat):Int)))))],[(.loc [0],.cells 38 [.t (.int .u8 0),.t (.str []),.bl,.bl]),(.loc [1],.cells 38 [.t (.int .u8 6),.t (.str []),.bl,.ref (.loc [2]) 0 ((rR::rS).length)]),(.loc [2],.arr (45,true) 5 false ((flat (rR::rS)).map .t)),(.arg 0,.cells 68 [.t (.sl E.ts),.t (.sl E.ac),.t (.str E.p),.t (.str E.r),.t (.sl E.c),.map (.arg 1)]),(.arg 1,aI)],3⟩) [oN (o:=.arr (45,true) 5 false ((flat (rR::rS)).map .t)) (fun _=>eB),oN (o:=aI) (fun _=>rfl)] (by kernel_rfl) ?_
             refine AX.region ?_
             refine au.go (f:=0) ai (aD rfl gQ rfl) ?_
             refine au.go (f:=0) ai (bg rfl (ld gK rfl rfl)) ?_
             refine au.Jl (S:=[.loc [2]]) ai (eD rfl) (by decide) rfl (yo rfl) (OS Yk (by simp) (by omega) KI) rfl Jm rfl ?_
             refine au.nil ?_
             refine Io (f:=0) (n:=3000) (once:=[]) (k:=170) (T:=3) (S:=[.loc [0],.loc [1],.loc [2]]) (ks:=[.loc [0],.loc [1],.loc [2],.arg 0,.arg 1]) (live:=[4,6,14,93]) ah ai (Tryz.f19.body.getD .skip) 35 rfl (⟨bX 170 [(4,.ptr (.loc [0]) 0),(6,.t (.sl kl)),(14,.ptr (.loc [1]) 0),(93,.t (.bool (decide (((nK:Nat):Int)<((ns.length:Nat):Int)))))],[(.loc [0],.cells 38 [.t (.int .u8 0),.t (.str []),.bl,.bl]),(.loc [1],.cells 38 [.t (.int .u8 6),.t (.str []),.bl,.ref (.loc [2]) 0 ((rR::rS).length)]),(.loc [2],.arr (45,true) 5 false ((flat (gM (rR::rS))).map .t)),(.arg 0,.cells 68 [.t (.sl E.ts),.t (.sl E.ac),.t (.str E.p),.t (.str E.r),.t (.sl E.c),.map (.arg 1)]),(.arg 1,aI)],3⟩) [oN (o:=.arr (45,true) 5 false ((flat (gM (rR::rS))).map .t)) (fun _=>eB),oN (o:=aI) (fun _=>rfl)] (by kernel_rfl) ?_
             refine AX.re (Re.Xd (k:=.loc [1]) (m:=1) 3 rfl rfl (x7 rfl (F0 Ef) (by decide) (gu _).symm rfl)) ?_
             refine AX.region ?_
             refine au.go (f:=0) ai (bg rfl (ld dW rfl rfl)) ?_
             refine au.qd (f:=0) ai (bT rfl rfl (sx dW rfl rfl)) ?_
             refine au.go (f:=0) ai (aj rfl) ?_
             refine au.nil ?_
             have hres:bQ (OP m) E f (.agg [.int .u8 op,.int .i64 n,.str s,.str t,.sl ns,.sl ks])=(.agg [.int .u8 6,.str [],.sl [],.sl (gM (rR::rS))],0):=by
               rw[bH hz,← jU]
               unfold jg
               rw[if_neg (by omega)]
               rw[if_neg (by omega)]
               rw[if_neg (by omega)]
               rw[if_neg (by omega)]
               rw[if_pos (by omega)]
               show(aC 6 [] [] (gM (kC ns kl)),0)=_
               rw[show kC ns kl=(rR::rS) from(zy.trans (by rw[List.take_of_length_le (by omega),List.take_of_length_le (by omega)])).symm]
               rfl
             show ∃_:Unit,KE (cf m) (cv (cf m) _ 2 (.ret (.t (.bN [(bQ (OP m) E f (.agg [.int .u8 op,.int .i64 n,.str s,.str t,.sl ns,.sl ks])).1,.int .i64 (bQ (OP m) E f (.agg [.int .u8 op,.int .i64 n,.str s,.str t,.sl ns,.sl ks])).2])) [.cells 68 [.t (.sl E.ts),.t (.sl E.ac),.t (.str E.p),.t (.str E.r),.t (.sl E.c),.map (.arg 1)],aI] [])) _ _ _
             rw[hres]
             exact⟨(),kF ah ai [] (by kernel_rfl)⟩
          ·
           have agi:=ne_of_beq_false Bx
           rcases aL ((op==8)) with EJ|EJ
           ·
            have agp:=eq_of_beq EJ
            obtain⟨e71,ac4⟩:=ou kl 0 (by first|omega|(simp;omega))
            have VU:=(M3 e71 (List.mem_of_getElem? ac4))
            obtain⟨zD,zF,Ei,uN,rfl,ahO,ahP,ahQ,ahR⟩:=T.aT VU
            have aj3:ev 61 [.ptr (.arg 0) 0,.t (.agg [.int .u8 zD,.str zF,.sl Ei,.sl uN]),.t (.str s)] [.cells 68 [.t (.sl E.ts),.t (.sl E.ac),.t (.str E.p),.t (.str E.r),.t (.sl E.c),.map (.arg 1)],aI]=some (bG.ret (.t (.bN [(dS E (.agg [.int .u8 zD,.str zF,.sl Ei,.sl uN]) s).1,.int .i64 (dS E (.agg [.int .u8 zD,.str zF,.sl Ei,.sl uN]) s).2])) [.cells 68 [.t (.sl E.ts),.t (.sl E.ac),.t (.str E.p),.t (.str E.r),.t (.sl E.c),.map (.arg 1)],aI] []):=Xe acO [(.agg [.int .u8 zD,.str zF,.sl Ei,.sl uN]),.str s] ⟨_,_,VU,rfl⟩
            have ZQ:=OL ⟨lt,ht,la,ha,lc,hc⟩ VU s
            obtain⟨Yr,Ys,ac5,VV,VW,ahS,ahT,ahU,ahV⟩:=T.aT ZQ
            rw[VW] at ZQ
            have agq:=aj3
            rw[VW] at agq
            have hres:bQ (OP m) E f (.agg [.int .u8 op,.int .i64 n,.str s,.str t,.sl ns,.sl ks])=(.agg [.int .u8 Yr,.str Ys,.sl ac5,.sl VV],(dS E (.agg [.int .u8 zD,.str zF,.sl Ei,.sl uN]) s).2):=by
              rw[bH hz,← jU]
              unfold jg
              rw[if_neg (by omega)]
              rw[if_neg (by omega)]
              rw[if_neg (by omega)]
              rw[if_neg (by omega)]
              rw[if_neg (by omega)]
              rw[if_pos (by omega)]
              show dS E (zJ kl 0) s=_
              rw[pU ac4]
              exact Prod.ext VW rfl
            show ∃_:Unit,KE (cf m) (cv (cf m) _ 2 (.ret (.t (.bN [(bQ (OP m) E f (.agg [.int .u8 op,.int .i64 n,.str s,.str t,.sl ns,.sl ks])).1,.int .i64 (bQ (OP m) E f (.agg [.int .u8 op,.int .i64 n,.str s,.str t,.sl ns,.sl ks])).2])) [.cells 68 [.t (.sl E.ts),.t (.sl E.ac),.t (.str E.p),.t (.str E.r),.t (.sl E.c),.map (.arg 1)],aI] [])) _ _ _
            rw[hres]
            exact⟨(),kF ah ai [oB qL,oB ko,oB tH,oB nt,oB zx,oB AB,oB Bx,oB EJ,oE ac4,oC agq] (by kernel_rfl)⟩
           ·
            have agp:=ne_of_beq_false EJ
            rcases aL ((op==14)) with HY|HY
            ·
             have agr:=eq_of_beq HY
             obtain⟨e77,VX⟩:=ou kl 0 (by first|omega|(simp;omega))
             have ZR:=(M3 e77 (List.mem_of_getElem? VX))
             obtain⟨HZ,H6,M8,Ej,rfl,ahW,ahX,ahY,ahZ⟩:=T.aT ZR
             have ags:ev 62 [.t (.int .u8 1),.t (.agg [.int .u8 HZ,.str H6,.sl M8,.sl Ej])] []=some (bG.ret (.t (.bool (HK m 1 (.agg [.int .u8 HZ,.str H6,.sl M8,.sl Ej])))) [] []):=dr acP ⟨_,rfl,(by unfold Vx;decide),ZR⟩
             rcases aL ((!(HK m 1 (.agg [.int .u8 HZ,.str H6,.sl M8,.sl Ej])))) with VY|VY
             ·
              have hres:bQ (OP m) E f (.agg [.int .u8 op,.int .i64 n,.str s,.str t,.sl ns,.sl ks])=(.agg [.int .u8 0,.str [],.sl [],.sl []],7):=by
                rw[bH hz,← jU]
                unfold jg
                rw[if_neg (by omega)]
                rw[if_neg (by omega)]
                rw[if_neg (by omega)]
                rw[if_neg (by omega)]
                rw[if_neg (by omega)]
                rw[if_neg (by omega)]
                rw[if_pos (by omega)]
                show(if HK m 1 (zJ kl 0)=true then JF m (zJ kl 1) (zJ kl 2) else(ei,7))=_
                rw[pU VX]
                rw[if_neg (ff (eT VY))];rfl
              show ∃_:Unit,KE (cf m) (cv (cf m) _ 2 (.ret (.t (.bN [(bQ (OP m) E f (.agg [.int .u8 op,.int .i64 n,.str s,.str t,.sl ns,.sl ks])).1,.int .i64 (bQ (OP m) E f (.agg [.int .u8 op,.int .i64 n,.str s,.str t,.sl ns,.sl ks])).2])) [.cells 68 [.t (.sl E.ts),.t (.sl E.ac),.t (.str E.p),.t (.str E.r),.t (.sl E.c),.map (.arg 1)],aI] [])) _ _ _
              rw[hres]
              exact⟨(),kF ah ai [oB qL,oB ko,oB tH,oB nt,oB zx,oB AB,oB Bx,oB EJ,oB HY,oE VX,oC ags,oB VY] (by kernel_rfl)⟩
             ·
              obtain⟨e81,ac6⟩:=ou kl 1 (by first|omega|(simp;omega))
              have VZ:=(M3 e81 (List.mem_of_getElem? ac6))
              obtain⟨OU,OV,V0,KJ,rfl,ah0,ah1,ah2,ah3⟩:=T.aT VZ
              obtain⟨e83,ac7⟩:=ou kl 2 (by first|omega|(simp;omega))
              have V1:=(M3 e83 (List.mem_of_getElem? ac7))
              obtain⟨OW,OX,V2,KL,rfl,ah4,ah5,ah6,ah7⟩:=T.aT V1
              obtain⟨aj4,ZT⟩:∃w,(JF m (.agg [.int .u8 OU,.str OV,.sl V0,.sl KJ]) (.agg [.int .u8 OW,.str OX,.sl V2,.sl KL])).2=w:=⟨_,rfl⟩
              have ZU:=ace m VZ V1
              obtain⟨Yt,Yu,ac8,V3,V4,ah8,ah9,aia,aib⟩:=T.aT ZU
              rw[V4] at ZU
              have ac9:=dr uB (x:=(.agg [.int .u8 OU,.str OV,.sl V0,.sl KJ])) (y:=(.agg [.int .u8 OW,.str OX,.sl V2,.sl KL])) ⟨VZ,V1⟩
              rw[V4] at ac9
              rw[ZT] at ac9
              have hres:bQ (OP m) E f (.agg [.int .u8 op,.int .i64 n,.str s,.str t,.sl ns,.sl ks])=(.agg [.int .u8 Yt,.str Yu,.sl ac8,.sl V3],aj4):=by
                rw[bH hz,← jU]
                unfold jg
                rw[if_neg (by omega)]
                rw[if_neg (by omega)]
                rw[if_neg (by omega)]
                rw[if_neg (by omega)]
                rw[if_neg (by omega)]
                rw[if_neg (by omega)]
                rw[if_pos (by omega)]
                show(if HK m 1 (zJ kl 0)=true then JF m (zJ kl 1) (zJ kl 2) else(ei,7))=_
                rw[pU VX]
                rw[if_pos (dm VY),pU ac6,pU ac7]
                exact Prod.ext V4 ZT
              show ∃_:Unit,KE (cf m) (cv (cf m) _ 2 (.ret (.t (.bN [(bQ (OP m) E f (.agg [.int .u8 op,.int .i64 n,.str s,.str t,.sl ns,.sl ks])).1,.int .i64 (bQ (OP m) E f (.agg [.int .u8 op,.int .i64 n,.str s,.str t,.sl ns,.sl ks])).2])) [.cells 68 [.t (.sl E.ts),.t (.sl E.ac),.t (.str E.p),.t (.str E.r),.t (.sl E.c),.map (.arg 1)],aI] [])) _ _ _
              rw[hres]
              exact⟨(),kF ah ai [oB qL,oB ko,oB tH,oB nt,oB zx,oB AB,oB Bx,oB EJ,oB HY,oE VX,oC ags,oB VY,oE ac6,oE ac7,oC ac9] (by kernel_rfl)⟩
            ·
             have agr:=ne_of_beq_false HY
             obtain⟨e88,H7⟩:=ou kl 0 (by first|omega|(simp;omega))
             have ZV:=(M3 e88 (List.mem_of_getElem? H7))
             obtain⟨H8,H9,M9,Ek,rfl,aic,aid,aie,aif⟩:=T.aT ZV
             have Yv:ev 62 [.t (.int .u8 (aO op).1),.t (.agg [.int .u8 H8,.str H9,.sl M9,.sl Ek])] []=some (bG.ret (.t (.bool (HK m (aO op).1 (.agg [.int .u8 H8,.str H9,.sl M9,.sl Ek])))) [] []):=dr acP ⟨_,rfl,(D6 op).1,ZV⟩
             rcases aL ((!(HK m (aO op).1 (.agg [.int .u8 H8,.str H9,.sl M9,.sl Ek])))) with lY|lY
             ·
              have hres:bQ (OP m) E f (.agg [.int .u8 op,.int .i64 n,.str s,.str t,.sl ns,.sl ks])=(.agg [.int .u8 0,.str [],.sl [],.sl []],7):=by
                rw[bH hz,← jU]
                unfold jg
                rw[if_neg (by omega)]
                rw[if_neg (by omega)]
                rw[if_neg (by omega)]
                rw[if_neg (by omega)]
                rw[if_neg (by omega)]
                rw[if_neg (by omega)]
                rw[if_neg (by omega)]
                show(if HK m (aO op).1 (zJ kl 0)=false∨(1<kl.length∧HK m (aO op).2.1 (zJ kl 1)=false) then(ei,7) else(aC (aO op).2.2 [] [] [],0))=_
                rw[pU H7]
                rw[if_pos (.inl (eT lY))];rfl
              show ∃_:Unit,KE (cf m) (cv (cf m) _ 2 (.ret (.t (.bN [(bQ (OP m) E f (.agg [.int .u8 op,.int .i64 n,.str s,.str t,.sl ns,.sl ks])).1,.int .i64 (bQ (OP m) E f (.agg [.int .u8 op,.int .i64 n,.str s,.str t,.sl ns,.sl ks])).2])) [.cells 68 [.t (.sl E.ts),.t (.sl E.ac),.t (.str E.p),.t (.str E.r),.t (.sl E.c),.map (.arg 1)],aI] [])) _ _ _
              rw[hres]
              exact⟨(),kF ah ai [oB qL,oB ko,oB tH,oB nt,oB zx,oB AB,oB Bx,oB EJ,oB HY,oC (lX HV),oE H7,oC Yv,oB lY,oB lY,oB lY,oB lY,oB lY,oB lY,oT] (by kernel_rfl)⟩
             ·
              rcases aL (decide (((kl.length:Nat):Int)>1)) with lS|lS
              ·
               have agt:=of_decide_eq_true lS
               obtain⟨e93,V5⟩:=ou kl 1 (by first|omega|(simp;omega))
               have ZW:=(M3 e93 (List.mem_of_getElem? V5))
               obtain⟨Ia,Ib,Na,El,rfl,aih,aii,aij,aik⟩:=T.aT ZW
               have agu:ev 62 [.t (.int .u8 (aO op).2.1),.t (.agg [.int .u8 Ia,.str Ib,.sl Na,.sl El])] []=some (bG.ret (.t (.bool (HK m (aO op).2.1 (.agg [.int .u8 Ia,.str Ib,.sl Na,.sl El])))) [] []):=dr acP ⟨_,rfl,(D6 op).2,ZW⟩
               rcases aL ((!(HK m (aO op).2.1 (.agg [.int .u8 Ia,.str Ib,.sl Na,.sl El])))) with V6|V6
               ·
                have hres:bQ (OP m) E f (.agg [.int .u8 op,.int .i64 n,.str s,.str t,.sl ns,.sl ks])=(.agg [.int .u8 0,.str [],.sl [],.sl []],7):=by
                  rw[bH hz,← jU]
                  unfold jg
                  rw[if_neg (by omega)]
                  rw[if_neg (by omega)]
                  rw[if_neg (by omega)]
                  rw[if_neg (by omega)]
                  rw[if_neg (by omega)]
                  rw[if_neg (by omega)]
                  rw[if_neg (by omega)]
                  show(if HK m (aO op).1 (zJ kl 0)=false∨(1<kl.length∧HK m (aO op).2.1 (zJ kl 1)=false) then(ei,7) else(aC (aO op).2.2 [] [] [],0))=_
                  rw[pU H7]
                  rw[pU V5]
                  rw[if_pos (.inr ⟨by have:=of_decide_eq_true lS;omega,eT V6⟩)];rfl
                show ∃_:Unit,KE (cf m) (cv (cf m) _ 2 (.ret (.t (.bN [(bQ (OP m) E f (.agg [.int .u8 op,.int .i64 n,.str s,.str t,.sl ns,.sl ks])).1,.int .i64 (bQ (OP m) E f (.agg [.int .u8 op,.int .i64 n,.str s,.str t,.sl ns,.sl ks])).2])) [.cells 68 [.t (.sl E.ts),.t (.sl E.ac),.t (.str E.p),.t (.str E.r),.t (.sl E.c),.map (.arg 1)],aI] [])) _ _ _
                rw[hres]
                exact⟨(),kF ah ai [oB qL,oB ko,oB tH,oB nt,oB zx,oB AB,oB Bx,oB EJ,oB HY,oC (lX HV),oE H7,oC Yv,oB lY,oB lY,oB lY,oB lY,oB lS,oB lS,oB lS,oB lS,oE V5,oB lS,oB lS,oC agu,oB lS,oB lY,oB lS,oB lY,oB V6] (by kernel_rfl)⟩
               ·
                have hres:bQ (OP m) E f (.agg [.int .u8 op,.int .i64 n,.str s,.str t,.sl ns,.sl ks])=(.agg [.int .u8 ((aO op).2.2),.str [],.sl [],.sl []],0):=by
                  rw[bH hz,← jU]
                  unfold jg
                  rw[if_neg (by omega)]
                  rw[if_neg (by omega)]
                  rw[if_neg (by omega)]
                  rw[if_neg (by omega)]
                  rw[if_neg (by omega)]
                  rw[if_neg (by omega)]
                  rw[if_neg (by omega)]
                  show(if HK m (aO op).1 (zJ kl 0)=false∨(1<kl.length∧HK m (aO op).2.1 (zJ kl 1)=false) then(ei,7) else(aC (aO op).2.2 [] [] [],0))=_
                  rw[pU H7]
                  rw[pU V5]
                  rw[if_neg (fun q=>q.elim (fun q=>ff q (dm lY)) (fun q=>ff q.2 (dm V6)))];rfl
                show ∃_:Unit,KE (cf m) (cv (cf m) _ 2 (.ret (.t (.bN [(bQ (OP m) E f (.agg [.int .u8 op,.int .i64 n,.str s,.str t,.sl ns,.sl ks])).1,.int .i64 (bQ (OP m) E f (.agg [.int .u8 op,.int .i64 n,.str s,.str t,.sl ns,.sl ks])).2])) [.cells 68 [.t (.sl E.ts),.t (.sl E.ac),.t (.str E.p),.t (.str E.r),.t (.sl E.c),.map (.arg 1)],aI] [])) _ _ _
                rw[hres]
                exact⟨(),kF ah ai [oB qL,oB ko,oB tH,oB nt,oB zx,oB AB,oB Bx,oB EJ,oB HY,oC (lX HV),oE H7,oC Yv,oB lY,oB lY,oB lY,oB lY,oB lS,oB lS,oB lS,oB lS,oE V5,oB lS,oB lS,oC agu,oB lS,oB lY,oB lS,oB lY,oB V6] (by kernel_rfl)⟩
              ·
               have agt:=of_decide_eq_false lS
               have hres:bQ (OP m) E f (.agg [.int .u8 op,.int .i64 n,.str s,.str t,.sl ns,.sl ks])=(.agg [.int .u8 ((aO op).2.2),.str [],.sl [],.sl []],0):=by
                 rw[bH hz,← jU]
                 unfold jg
                 rw[if_neg (by omega)]
                 rw[if_neg (by omega)]
                 rw[if_neg (by omega)]
                 rw[if_neg (by omega)]
                 rw[if_neg (by omega)]
                 rw[if_neg (by omega)]
                 rw[if_neg (by omega)]
                 show(if HK m (aO op).1 (zJ kl 0)=false∨(1<kl.length∧HK m (aO op).2.1 (zJ kl 1)=false) then(ei,7) else(aC (aO op).2.2 [] [] [],0))=_
                 rw[pU H7]
                 rw[if_neg (fun q=>q.elim (fun q=>ff q (dm lY)) (fun q=>absurd q.1 (by have:=of_decide_eq_false lS;omega)))];rfl
               show ∃_:Unit,KE (cf m) (cv (cf m) _ 2 (.ret (.t (.bN [(bQ (OP m) E f (.agg [.int .u8 op,.int .i64 n,.str s,.str t,.sl ns,.sl ks])).1,.int .i64 (bQ (OP m) E f (.agg [.int .u8 op,.int .i64 n,.str s,.str t,.sl ns,.sl ks])).2])) [.cells 68 [.t (.sl E.ts),.t (.sl E.ac),.t (.str E.p),.t (.str E.r),.t (.sl E.c),.map (.arg 1)],aI] [])) _ _ _
               rw[hres]
               exact⟨(),kF ah ai [oB qL,oB ko,oB tH,oB nt,oB zx,oB AB,oB Bx,oB EJ,oB HY,oC (lX HV),oE H7,oC Yv,oB lY,oB lY,oB lY,oB lY,oB lS,oB lS,oB lS,oB lS,oB lS,oB lS,oB lS,oB lY,oB lS,oB lY,oF] (by kernel_rfl)⟩
end
end Go.Proofs.YtijfhoelihclbaaGreatDoor.w.e

namespace Go.Proofs.YtijfhoelihclbaaGreatDoor.w.e
open Go Go.Abs Go.Abs.Ty
set_option linter.unusedVariables false
set_option maxRecDepth 100000
set_option maxHeartbeats 2000000
noncomputable section
def DE:Nat→Tree→Prop
 |0,_=>False
 |n+1,x=>T .aW x∧FO x∧∀k∈eR x,DE n k
theorem OY:∀{n m:Nat} {x:Tree},n≤m→DE n x→DE m x
 |0,_,_,_,h=>h.elim
 |n+1,0,_,hle,_=>by omega
 |n+1,m+1,x,hle,⟨h1,h2,h3⟩=>⟨h1,h2,fun k hk=>OY (by omega) (h3 k hk)⟩
theorem agv {x:Tree}(hr:Rt x):T .aW x→∃n,DE n x:=by
 induction hr with
 | mk op n s t names kids h hk ih=>
  intro hx
  obtain⟨op',n',s',t',ns',ks',e,h1,h2,h3,h4⟩:=T.cG hx
  have e2:kids=ks':=by
   injection e with e
   injection e with _ e;injection e with _ e;injection e with _ e;injection e with _ e;injection e with _ e;injection e with e _
   injection e
  obtain⟨d,hd⟩:=uniform (P:=DE) (fun _ _ _ hle h=>OY hle h) (l:=kids) fun y hy=>ih y hy (h4 y (e2▸hy))
  exact⟨d+1,hx,h,hd⟩
theorem vt (m:Int)(E:Env)(hE:qK E):∀(n:Nat) (x:Tree),DE n x→ay (cf m) 19 [.ptr (.arg 0) 0,.t x] [.cells 68 [.t (.sl E.ts),.t (.sl E.ac),.t (.str E.p),.t (.str E.r),.t (.sl E.c),.map (.arg 1)],aI] (.ret (.t (.bN [(gI (OP m) E n x).1,.int .i64 (gI (OP m) E n x).2])) [.cells 68 [.t (.sl E.ts),.t (.sl E.ac),.t (.str E.p),.t (.str E.r),.t (.sl E.c),.map (.arg 1)],aI] [])∧T .aB (gI (OP m) E n x).1
 |0,x,h=>h.elim
 |n+1,x,⟨h1,h2,h3⟩=>by
  have h10:=h1
  obtain⟨op,k,s,t,ns,ks,rfl,g1,g2,g3,g4⟩:=T.cG h1
  exact⟨VB m E hE op k s t ns ks g1 g2 g3 g4 h2 (gI (OP m) E n) fun y hy=>vt m E hE n y (h3 y hy),acM m hE h10 fun y hy=>(vt m E hE n y (h3 y hy)).2⟩
def aj5 (E:Env):Tree:=.agg [.sl E.ts,.sl E.ac]
def orA (m:Int)(E:Env)(e:Tree):Int:=Vl m (.sl [.int .i64 (pT m e),.int .i64 (EE m (.agg [.sl E.ts,.sl E.ac]))])
def orB (m:Int)(E:Env):Int:=Vl m (.sl [.int .i64 (cu qB E.p E.ts).2,.int .i64 (cu qB E.r E.ts).2,.int .i64 (Yb m (.agg [.int .u8 6,.str [],.sl [],.sl E.c]))])
def kJ (m:Int)(n:Nat)(E:Env)(e:Tree):Tree×Int:=
 if orA m E e≠0 then(ei,orA m E e) else if orB m E≠0 then(ei,orB m E) else if(gI (OP m) E n e).2≠0 then(ei,(gI (OP m) E n e).2) else((gI (OP m) E n e).1,0)
theorem ZX (l:List Int)(h:l.length≤4194304):T .cR (.sl (l.map (Tree.int .i64))):=.cR _ (by simpa using h) fun y hy=>by obtain⟨a,_,rfl⟩:=List.mem_map.1 hy;exact .dw _
theorem s7 (m:Int)(a b:Int):Vl m (.sl [.int .i64 a,.int .i64 b])=0↔a=0∧b=0:=by
 refine(Kl m (x:=.sl [.int .i64 a,.int .i64 b]) (ZX [a,b] (by simp))).trans ?_
 simp[kI]
theorem V7 (m:Int)(a b c:Int):Vl m (.sl [.int .i64 a,.int .i64 b,.int .i64 c])=0↔a=0∧b=0∧c=0:=by
 refine(Kl m (x:=.sl [.int .i64 a,.int .i64 b,.int .i64 c]) (ZX [a,b,c] (by simp))).trans ?_
 simp[kI]
theorem KM {m:Int}{n:Nat}{E:Env}{e:Tree}(h:(kJ m n E e).2≠0):(kJ m n E e).1=ei:=by
  unfold kJ at*
  split at h
  · rename_i h1;rw[if_pos h1]
  · rename_i h1
    rw[if_neg h1]
    split at h
    · rename_i h2;rw[if_pos h2]
    · rename_i h2
      rw[if_neg h2]
      split at h
      · rename_i h3;rw[if_pos h3]
      · exact absurd rfl h
theorem zG {m:Int}{n:Nat}{E:Env}{e:Tree}(h:(kJ m n E e).2=0):orA m E e=0∧orB m E=0∧(gI (OP m) E n e).2=0∧kJ m n E e=((gI (OP m) E n e).1,0):=by
  unfold kJ at*
  by_cases h1:orA m E e=0
  · rw[ if_neg (fun q=>q h1)] at h
    by_cases h2:orB m E=0
    · rw[if_neg (fun q=>q h2)] at h
      by_cases h3:(gI (OP m) E n e).2=0
      · refine⟨h1,h2,h3, ?_⟩
        rw[if_neg (fun q=>q h1),if_neg (fun q=>q h2),if_neg (fun q=>q h3)]
      · rw[if_pos h3] at h;exact absurd h h3
    · rw[if_pos h2] at h;exact absurd h h2
  · rw[if_pos h1] at h;exact absurd h h1
theorem Ic {m:Int}{n:Nat}{E:Env}{e:Tree}(h1:orA m E e=0)(h2:orB m E=0)(h3:(gI (OP m) E n e).2=0):kJ m n E e=((gI (OP m) E n e).1,0):=by
 unfold kJ
 rw[if_neg (fun q=>q h1),if_neg (fun q=>q h2),if_neg (fun q=>q h3)]
end
end Go.Proofs.YtijfhoelihclbaaGreatDoor.w.e
