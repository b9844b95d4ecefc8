/- slices.SortFunc of attributes, by their names: the row in order. -/
import Derived.WalkKit
import Derived.OwnWalkIn
import Derived.TacticsInMore
import Derived.Shelf.Abstract
import Derived.Shelf.SlSortCmp.WholeK
import Derived.Sort.LotA
import Derived.Test.YtijfhoelihclbaaGreatDoorSrt
import Derived.Test.YtijfhoelihclbaaGreatDoorShelf
import Derived.Test.YtijfhoelihclbaaGreatDoorS
import Derived.Test.YtijfhoelihclbaaGreatDoorAE
namespace Go.Proofs.YtijfhoelihclbaaGreatDoor.w
open Go Go.Abs Go.RowKit Go.Sort Go.Shelf
set_option linter.unusedVariables false
attribute [local go_sem] Oper.semAt_some
def Xy:Tree→List UInt8
 |.agg (.str n::_)=>n
 |_=>[]
def Lg (a b:List UInt8):Int:=if a<b then -1 else if b<a then 1 else 0
def cfA (l:List Tree)(i j:Nat):Int:=Lg (Xy (l[i]?.getD .cG)) (Xy (l[j]?.getD .cG))
def permA (l:List Tree):Array Nat:=pdq (ltOf (cfA l)) (Array.range l.length) 0 l.length (Lib.bitLen l.length) true true
def jZ (l:List Tree):List Tree:=(permA l).toList.map fun i=>l[i]?.getD .cG
def AtF (e:Tree):Prop:=∃n k s os bs,e=.agg [.str n,.int .u8 k,.str s,.sl os,.sl bs]
theorem EE (l:List Tree)(i j:Nat):ltOf (cfA l) i j=ltStr (Xy (l[i]?.getD .cG)) (Xy (l[j]?.getD .cG)):=by
 unfold ltOf cfA Lg ltStr
 by_cases h1:Xy (l[i]?.getD .cG)<Xy (l[j]?.getD .cG)
 · simp[h1]
 · by_cases h2:Xy (l[j]?.getD .cG)<Xy (l[i]?.getD .cG)<;>simp[h1,h2]
theorem ag1 (l:List Tree):SWO (ltOf (cfA l)) where
 irrefl x:=by rw[EE];exact swo_ltStr.irrefl _
 trans x y z h1 h2:=by rw[EE] at*;exact swo_ltStr.trans _ _ _ h1 h2
 ntrans x y z h1 h2:=by rw[EE] at*;exact swo_ltStr.ntrans _ _ _ h1 h2
theorem EF (l:List Tree):(permA l).toList.Perm (List.range l.length):=by
 have h:=(pdq_sorts (ltOf (cfA l)) (ag1 l) (Array.range l.length) 0 (Array.range l.length).size (Lib.bitLen l.length) true true (Nat.zero_le _) (Nat.le_refl _) (Or.inl rfl)).1
 have h3:=h.2.2
 have hs:=h.1
 simp only[Array.size_range] at h3 hs
 have e1:(permA l).extract 0 l.length=permA l:=by
  have:(permA l).size=l.length:=hs
  rw[← this];exact Array.extract_size
 have e2:(Array.range l.length).extract 0 l.length=Array.range l.length:=by
  have:=Array.extract_size (xs:=Array.range l.length)
  rwa [Array.size_range] at this
 have h4:((permA l).extract 0 l.length).toList.Perm ((Array.range l.length).extract 0 l.length).toList:=h3
 rw[e1,e2] at h4
 simpa using h4
theorem ug (l:List Tree):(permA l).size=l.length:=by
 have:=(EF l).length_eq
 simpa using this
theorem jJ (l:List Tree):(jZ l).length=l.length:=by simp[jZ,ug]
theorem Lh {l:List Tree}{j:Nat}(hj:j<l.length):(permA l)[j]! <l.length:=by
 have hj':j<(permA l).size:=by rw[ug];exact hj
 rw[getElem!_pos _ j hj']
 have:(permA l)[j]∈(permA l).toList:=by simp
 have:=(EF l).mem_iff.1 this
 simpa using this
theorem Li {l:List Tree}{j:Nat}(hj:j<l.length):(jZ l)[j]?=l[(permA l)[j]!]?:=by
 have hj':j<(permA l).size:=by rw[ug];exact hj
 have h:=Lh hj
 rw[getElem!_pos _ j hj'] at h ⊢
 simp only[jZ,List.getElem?_map,Array.getElem?_toList,Array.getElem?_eq_getElem hj',Option.map_some,List.getElem?_eq_getElem h,Option.getD_some]
theorem Bx {l:List Tree}{x:Tree}(h:x∈jZ l):x∈l:=by
 obtain⟨j,hj,e⟩:=List.getElem_of_mem h
 rw[jJ] at hj
 have h1:=Li hj
 rw[List.getElem?_eq_getElem (by rw[jJ];exact hj),e] at h1
 exact List.mem_of_getElem? h1.symm
theorem wN:∀(L:List Tree) (hu:∀e∈L,e.cells.length=5) (j:Nat),(flat L)[j]?=(L[j / 5]?).bind fun e=>e.cells[j % 5]?
  | [],_,j=>by simp[flat]
  | a ::L,hu,j=>by
    have ha:a.cells.length=5:=hu a List.mem_cons_self
    have ih:=wN L (fun e he=>hu e (List.mem_cons_of_mem _ he))
    have e:flat (a::L)=a.cells++flat L:=rfl
    rw[e]
    by_cases h:j<5
    · rw[List.getElem?_append_left (by omega),Nat.div_eq_of_lt h,Nat.mod_eq_of_lt h];rfl
    · obtain⟨k,rfl⟩:∃k,j=k+5:=⟨j - 5,by omega⟩
      rw[List.getElem?_append_right (by omega),ha,Nat.add_sub_cancel,ih,Nat.add_div_right _ (by decide),Nat.add_mod_right]
      rfl
theorem Zb (x:ByteArray)(w:World):Calls Tryz.prog 98 #[.string x] w fun e w'=>e=.returned (.bool false)∧w'=w:=by
 go_enter Tryz.func98,Tryz.ntmps98
 go_wp2
 go_ret
 exact⟨by simp,rfl⟩
theorem bytesLess_eq:∀(x y:List UInt8),Op.bytesLess x y=decide (x<y)
 | [],[]=>by simp[Op.bytesLess]
 |_::_,[]=>by simp[Op.bytesLess]
 | [],_::_=>by simp[Op.bytesLess]
 |a::x,b::y=>by
  rw[Op.bytesLess,bytesLess_eq x y]
  simp only[List.cons_lt_cons_iff]
  by_cases h1:a<b<;>by_cases h2:a=b<;>by_cases h3:x<y<;>simp[h1,h2,h3]
theorem ag2 (x y:List UInt8)(w:World):Sem.run Tryz.prog (binOp .gtr 9 (.string ⟨x.toArray⟩) (.string ⟨y.toArray⟩)) w=.ok (.bool (!(Op.bytesLess x y||x==y))) w:=by
 simp[binOp,Op.stringOp,Lib.toList_data]
theorem ag3 {x y:List UInt8}(h1:¬x<y)(h2:x≠y):y<x:=by
 by_cases h:y<x
 · exact h
 · exact absurd (List.le_antisymm (List.not_lt.1 h) (List.not_lt.1 h1)) h2
set_option maxHeartbeats 1000000 in
theorem Rz (x y:List UInt8)(w:World):Calls Tryz.prog 60 #[.string ⟨x.toArray⟩,.string ⟨y.toArray⟩] w fun e w'=>e=.returned (.int .i64 (Lg x y))∧w'=w:=by
  go_enter Tryz.func60,Tryz.ntmps60
  go_wp2_with (go_at_call 98;refine(Zb _ _).mono ?_;rintro e w' ⟨rfl,rfl⟩)
  · rename_i h
    have h:=of_decide_eq_true ((bytesLess_eq x y).symm.trans h)
    rw[show Lg x y=-1 from if_pos h]
    go_ret
    exact⟨rfl,rfl⟩
  · rename_i h _ _ _ _ _ _
    have hx:¬x<y:=of_decide_eq_false ((bytesLess_eq x y).symm.trans h)
    rw[ag2,h,Bool.false_or]
    simp only[Result.andThen_ok]
    obtain⟨b,hb⟩:∃b,b=(x==y):=⟨_,rfl⟩
    have hc:Lg x y=if b=true then 0 else 1:=by
      unfold Lg
      rw[if_neg hx]
      by_cases e:x=y
      · subst e;simp[hb,hx]
      · have:(x==y)=false:=by simpa using e
        rw[if_pos (ag3 hx e),hb,this];rfl
    rw[← hb]
    clear hb
    cases b
    · go_wp2
      go_ret
      exact⟨by first|rfl|(rw[hc];rfl),rfl⟩
    · go_wp2
      go_ret
      exact⟨by first|rfl|(rw[hc];rfl),rfl⟩
def qZ (us:Array Value)(n i:Nat):List Value:=if i<n then(us.toList.drop (i*5)).take 5 else [.string ⟨#[]⟩,.int .u8 0,.string ⟨#[]⟩,.slice none 0 0,.slice none 0 0]
set_option maxHeartbeats 1000000 in
theorem Ww (a b:List UInt8)(k k2:Int)(s s2:ByteArray)(p1 p2 p3 p4:Option Addr)(n1 n2 n3 n4 c1 c2 c3 c4:Nat)(W:World):
  Calls Tryz.prog 59 #[.agg #[.string ⟨a.toArray⟩,.int .u8 k,.string s,.slice p1 n1 c1,.slice p2 n2 c2],.agg #[.string ⟨b.toArray⟩,.int .u8 k2,.string s2,.slice p3 n3 c3,.slice p4 n4 c4]] W fun e w'=>e=.returned (.int .i64 (Lg a b))∧∃q os',w'=grow (W.drewN q) os':=by
 have Wx:=fun W'=>Rz a b W'
 generalize Lg a b=r at Wx ⊢
 go_enter Tryz.func59,Tryz.ntmps59
 go_wp2_with (go_at_call 60;refine(Wx _).mono ?_;rintro e w' ⟨rfl,rfl⟩)
 go_ret
 exact⟨rfl,0,_,by rw[alloc_eq_grow,alloc_eq_grow,grow_grow];rfl⟩
set_option maxHeartbeats 1000000 in
theorem Wy (m:Int)(l:List Tree)(hl:l.length≤4194304)(hne:l≠ [])(hf:∀e∈l,AtF e):
    ay (cf m) 58 [.ref (.arg 0) 0 l.length,.t (.fn (.func 59))] [.arr (45,true) 5 false ((flat l).map .t)] (.ret (.t (.bX [])) [.arr (45,true) 5 false ((flat (jZ l)).map .t)] []):=by
  intro G w vs hw hg had hH hv
  obtain⟨x,vs1,rfl,hx,hv⟩:=hv.jt
  obtain⟨y,rfl,hy⟩:=hv.only
  obtain⟨hd,ho⟩:=hH (.arg 0) _ rfl
  obtain⟨_,cap,us,ty,fr,ha,hh,⟨si,hty⟩,hsz,hcl,E0,hF⟩:=ho
  have hu:∀e∈l,e.cells.length=5:=fun e he=>by obtain⟨n,k,s,os,bs,rfl⟩:=hf e he;rfl
  have FB:∀e∈jZ l,e.cells.length=5:=fun e he=>hu e (Bx he)
  have hn:((flat l).map TV.t).length=l.length*5:=by rw[List.length_map,iR hu]
  have hn2:((flat (jZ l)).map TV.t).length=l.length*5:=by rw[List.length_map,iR FB,jJ]
  rw[hn] at ha hcl E0
  have hpos:0<l.length:=by cases l with|nil=>exact absurd rfl hne|cons=>simp
  obtain rfl:y=.func (.func 59) #[] #[]:=by
    cases hy with|t _ _ hy=>cases hy;rfl
  obtain rfl:x=.slice (some ⟨G.mu (.arg 0),0,none⟩) l.length cap:=by
    cases hx with
    | ref k off len n b8 cap' v hd' ha' hle' ho' hv'=>
      rw[ha] at ha';cases ha'
      obtain⟨a,rfl,h2⟩:=hv' (by omega)
      have:=h2 (by omega)
      subst this;rfl
  have hcell:∀q c,(flat l)[q]?=some c→∃v,us[q]?=some v∧VT G.F c v:=fun q c hc=>by
    have hq:q<l.length*5:=by rw[← iR hu];exact(List.getElem?_eq_some_iff.1 hc).1
    obtain⟨v,ZO,hv2⟩:=E0.at (j:=q) (c:=.t c) (by rw[List.getElem?_map,hc];rfl)
    rw[List.getElem?_take_of_lt hq,Array.getElem?_toList] at ZO
    cases hv2 with|t _ _ h=>exact⟨v,ZO,h⟩
  have Zc:∀i,∃(k:Int) (s:ByteArray) (p1:Option Addr) (n1 c1:Nat) (p2:Option Addr) (n2 c2:Nat),qZ us l.length i=[.string ⟨(Xy (l[i]?.getD .cG)).toArray⟩,.int .u8 k,.string s,.slice p1 n1 c1,.slice p2 n2 c2]:=fun i=>by
    by_cases hi:i<l.length
    · obtain⟨n,k,s,os,bs,he⟩:=hf l[i] (List.getElem_mem hi)
      have hat:∀r,r<5→(flat l)[i*5+r]?=(Tree.agg [.str n,.int .u8 k,.str s,.sl os,.sl bs]).cells[r]?:=fun r hr=>by
        rw[wN l hu,show(i*5+r)/ 5=i by omega,show(i*5+r) % 5=r by omega,List.getElem?_eq_getElem hi,he];rfl
      obtain⟨v0,h0,w0⟩:=hcell _ _ (hat 0 (by decide))
      obtain⟨v1,h1,w1⟩:=hcell _ _ (hat 1 (by decide))
      obtain⟨v2,h2,w2⟩:=hcell _ _ (hat 2 (by decide))
      obtain⟨v3,h3,w3⟩:=hcell _ _ (hat 3 (by decide))
      obtain⟨v4,h4,w4⟩:=hcell _ _ (hat 4 (by decide))
      have hnm:Xy (l[i]?.getD .cG)=n:=by rw[List.getElem?_eq_getElem hi,Option.getD_some,he];rfl
      have YJ:qZ us l.length i=[v0,v1,v2,v3,v4]:=by
        unfold qZ
        rw[if_pos hi]
        apply List.ext_getElem?
        intro r
        by_cases hr:r<5
        · rw[List.getElem?_take_of_lt hr,List.getElem?_drop,Array.getElem?_toList]
          match r,hr with
          |0,_=>exact h0
          |1,_=>exact h1
          |2,_=>exact h2
          |3,_=>exact h3
          |4,_=>exact h4
        · rw[List.getElem?_eq_none (by simp;omega),List.getElem?_eq_none (by simp;omega)]
      rw[YJ,hnm]
      cases w0;cases w1;cases w2
      obtain⟨p1,n1,c1,rfl⟩:∃p n c,v3=.slice p n c:=by
        cases w3 with
        |xg a c=>exact⟨_,_,_,rfl⟩
        |sl b8 es b o c vals=>exact⟨_,_,_,rfl⟩
      obtain⟨p2,n2,c2,rfl⟩:∃p n c,v4=.slice p n c:=by
        cases w4 with
        |xg a c=>exact⟨_,_,_,rfl⟩
        |sl b8 es b o c vals=>exact⟨_,_,_,rfl⟩
      exact⟨_,_,_,_,_,_,_,_,rfl⟩
    · refine⟨0,⟨#[]⟩,none,0,0,none,0,0, ?_⟩
      unfold qZ
      rw[if_neg hi,List.getElem?_eq_none (by omega)]
      rfl
  have hk:∀i,(qZ us l.length i).length=5:=fun i=>by obtain⟨k,s,p1,n1,c1,p2,n2,c2,e⟩:=Zc i;rw[e];rfl
  have h1:∀i,∀v∈qZ us l.length i,v.oneCell'=true:=fun i v hv=>by
    obtain⟨k,s,p1,n1,c1,p2,n2,c2,e⟩:=Zc i
    rw[e] at hv
    simp only[List.mem_cons,List.not_mem_nil,or_false] at hv
    rcases hv with rfl|rfl|rfl|rfl|rfl<;>rfl
  have hcmp:CmpLays Tryz.prog 59 #[] (qZ us l.length) 5 (cfA l) (G.mu (.arg 0)) 0 (Array.range l.length).size w:=fun mm os dk _ i j=>by
    obtain⟨k,s,p1,n1,c1,p2,n2,c2,e⟩:=Zc i
    obtain⟨k',s',p3,n3,c3,p4,n4,c4,e'⟩:=Zc j
    generalize sortWorldK (qZ us l.length) 5 w (G.mu (.arg 0)) 0 mm dk os=W
    rw[e,e']
    exact Ww _ _ _ _ _ _ _ _ _ _ _ _ _ _ _ _ _ _ W
  have hrd:∀i,i<l.length→(Array.range l.length)[i]! =i:=fun i hi=>by simp[hi]
  have ag4:∀(D:Array Nat),D.size=l.length→(∀q,q<l.length→D[q]! <l.length)→∀j,j<l.length*5→us[D[j / 5]! *5+j % 5]?=some (flatK (qZ us l.length) 5 D)[j]!:=fun D hD hlt j hj=>by
    have hj5:j / 5<l.length:=by omega
    have hq:=hlt _ hj5
    rw[get_flatK _ _ _ _ (by rw[hD];exact hj)]
    have hlen:D[j / 5]! *5+j % 5<us.size:=by omega
    have:(qZ us l.length D[j / 5]!)[j % 5]?=us[D[j / 5]! *5+j % 5]?:=by
      unfold qZ
      rw[if_pos hq,List.getElem?_take_of_lt (by omega),List.getElem?_drop,Array.getElem?_toList]
    rw[← this]
    have h5:j % 5<(qZ us l.length D[j / 5]!).length:=by rw[hk];omega
    rw[List.getElem?_eq_getElem h5,getElem!_pos (qZ us l.length D[j / 5]!) (j % 5) h5]
  have ag5:HoldsK (qZ us l.length) 5 w (G.mu (.arg 0)) 0 (Array.range l.length):=fun j hj=>by
    have hj':j<l.length*5:=by simpa using hj
    have hju:j<us.size:=by omega
    refine⟨?_,by rw[Nat.zero_add];exact k3 hh si hju⟩
    have:=ag4 (Array.range l.length) (by simp) (fun q hq=>by rw[hrd q hq];exact hq) j hj'
    rw[hrd _ (by omega),show j / 5*5+j % 5=j by omega] at this
    simp only[World.cell?,hh,Nat.zero_add]
    exact this
  have eg:∀args w,(callFunc 59 args).run Tryz.prog w=.ok (.enter 59 args) w:=enters_of Tryz.func59 (by kernel_rfl) rfl
  have es:∀args w,(callFunc 58 args).run Tryz.prog w=.ok (.enter 58 args) w:=enters_of Tryz.func58 (by kernel_rfl) rfl
  have Wx:=AnyQ.slices_SortFunc_eq Tryz.sortf58 5 Tryz.isAgg45 Tryz.sizeOf45 (qZ us l.length) hk h1 (cfA l) (ag1 l) 59 #[] (G.mu (.arg 0)) 0 cap (Array.range l.length) w eg hcmp ag5 (hw.lt _ hd) (by simp;omega)
  rw[Array.size_range] at Wx
  refine .inl ⟨es _ _,Calls.mono Wx ?_⟩
  rintro e w' ⟨rfl,q,os,rfl⟩
  have hps:=ug l
  obtain⟨D,hD⟩:∃D,D=permA l:=⟨_,rfl⟩
  have hDs:D.size=l.length:=by rw[hD];exact hps
  have hDl:∀q,q<l.length→D[q]! <l.length:=fun q hq=>by rw[hD];exact Lh hq
  change wR G w 1 _ _ (sortWorldK (qZ us l.length) 5 w (G.mu (.arg 0)) 0 q (permA l) os)
  rw[← hD]
  obtain⟨w',hw'⟩:∃w',w'=sortWorldK (qZ us l.length) 5 w (G.mu (.arg 0)) 0 q D os:=⟨_,rfl⟩
  rw[← hw']
  have gB:w.grownBy w' (some (G.mu (.arg 0))):=by
    rw[hw']
    unfold sortWorldK putRowK
    refine⟨rfl,rfl,rfl,by simp,fun k hk hne=> ?_⟩
    rw[heap_grow_old _ _ (by simpa using hk)]
    have:G.mu (.arg 0)≠k:=fun e=>hne (by rw[e])
    simp[putRow,mapBlock,Sort.ahead,Array.getElem?_modify,this]
  have hblk:w'.heap[G.mu (.arg 0)]?=some (.cells (putCells id 0 (flatK (qZ us l.length) 5 D) us) ty fr):=by
    rw[hw']
    unfold sortWorldK putRowK
    rw[heap_grow_old _ _ (by simpa using hw.lt _ hd)]
    simp only[putRow,mapBlock,Sort.ahead,Array.getElem?_modify,if_true,hh,Option.map_some,onCells]
  have hcs:(putCells id 0 (flatK (qZ us l.length) 5 D) us).size=us.size:=by simp[putCells]
  refine⟨_,G,rfl,⟨.refl G,⟨fun b o v hf=> ?_,hw.inj,fun k d=>Nat.lt_of_lt_of_le (hw.lt k d) gB.size⟩,fun _ _ h=>absurd trivial h,fun b hlt hn=>⟨gB.block b hlt fun e=>hn _ trivial hd (Option.some.inj e).symm,fun _=>rfl⟩,fun _ d=>.inl d,fun _ d=>.inl ⟨d,rfl⟩,gB.size,gB.os,gB.tape,gB.output⟩,rfl,fun i o ho=> ?_,fun _ _ h=>by simp at h, ?_⟩
  · obtain⟨us',t',f',h1,h2⟩:=hw.F b o v hf
    have hb:b≠G.mu (.arg 0):=fun e=>by
      subst e
      rw[hF o (.inl rfl)] at hf;cases hf
    exact⟨us',t',f',by rw[gB.block b (Array.getElem?_eq_some_iff.1 h1).1 fun e=>hb (Option.some.inj e)];exact h1,h2⟩
  · match i,ho with
    | 0,ho=>
      simp at ho;subst ho
      refine⟨hd,by decide,cap,_,ty,fr,by rw[hn2];exact ha,hblk,⟨fun o ho=>si o (by rw[hcs] at ho;exact ho),hty⟩,by rw[hcs];exact hsz,by rw[hn2,hcs];exact hcl, ?_,fun o _=>hF o (.inl rfl)⟩
      rw[hn2]
      have hlq:(putCells id 0 (flatK (qZ us l.length) 5 D) us).toList.length=us.size:=(Array.length_toList (xs:=putCells id 0 (flatK (qZ us l.length) 5 D) us)).trans hcs
      refine⟨by rw[List.length_take,hlq,hn2];omega,fun j c v hc hv=> ?_⟩
      rw[List.getElem?_map,Option.map_eq_some_iff] at hc
      obtain⟨c,hc,rfl⟩:=hc
      have hj:j<l.length*5:=by rw[← hn2,List.length_map];exact(List.getElem?_eq_some_iff.1 hc).1
      rw[List.getElem?_take_of_lt hj,Array.getElem?_toList] at hv
      have hju:j<us.size:=by omega
      have hv2:v=(flatK (qZ us l.length) 5 D)[j]!:=by
        simp only[putCells,Array.getElem?_mapIdx,Array.getElem?_eq_getElem hju,Option.map_some,size_flatK,hDs,Nat.zero_le,true_and,Nat.zero_add,if_pos hj,Option.some.injEq,Nat.sub_zero,id] at hv
        exact hv.symm
      have h3:=ag4 D hDs hDl j hj
      rw[wN _ FB,Li (by omega),← hD] at hc
      have bD:(flat l)[D[j / 5]! *5+j % 5]?=some c:=by
        rw[wN l hu,show(D[j / 5]! *5+j % 5)/ 5=D[j / 5]! by omega,show(D[j / 5]! *5+j % 5) % 5=j % 5 by omega]
        exact hc
      obtain⟨v',h4,h5⟩:=hcell _ _ bD
      rw[h3] at h4
      cases h4
      rw[hv2]
      exact .t _ _ h5
  · exact .t _ _ (.bX [] [] rfl (by simp))
end Go.Proofs.YtijfhoelihclbaaGreatDoor.w

namespace Go.Proofs.YtijfhoelihclbaaGreatDoor.w.e
open Go Go.Abs Go.Abs.Ty
set_option linter.unusedVariables false
set_option maxRecDepth 100000
set_option maxHeartbeats 2000000
noncomputable section
abbrev akF:TI:={size:=1,bytes:=1,agg:=false,zero:=some (.t (.int .u8 0)),desc:=.int .u8}
theorem adN {m:Int}:(cf m).P.ty 22=some akF:=by kernel_rfl
abbrev akG:TI:={size:=1,bytes:=8,agg:=false,zero:=some (.t .iJ),desc:=.map 22 109}
theorem ag6 {m:Int}:(cf m).P.ty 65=some akG:=by kernel_rfl
abbrev ag7:TI:={size:=3,bytes:=3,agg:=true,zero:=some (.t (.agg [.int .u8 0,.int .u8 0,.int .u8 0])),desc:=descOf 109}
theorem Wz {m:Int}:(cf m).P.ty 109=some ag7:=by kernel_rfl
theorem adO {m:Int}:eX (cf m).P 68 2=some 5:=by kernel_rfl
theorem WA (P:lI)(kt:TypeId)(a b:Int):Jc P kt (.int .u8) (.t (.int .u8 a)) (.t (.int .u8 b))=some (a==b):=rfl
theorem akH {m:Int}(b:Bool)(a:Int):uw (cf m).P b 22 (.t (.int .u8 a))=true:=by cases b<;>kernel_rfl
theorem Lj {P:lI}{kt:TypeId}{op:Int}:∀{es:List (TV×TV×Nat)},(∀e∈es,∃k:Int,e.1=.t (.int .u8 k)∧op≠k)→∀i,kW P kt (.int .u8) (.t (.int .u8 op)) es i=some none
 | [],_,_=>rfl
 |(x,v,b)::r,h,i=>by
  obtain⟨k,hk,hne⟩:=h _ List.mem_cons_self
  simp only at hk
  subst hk
  unfold kW
  rw[WA,show(op==k)=false from beq_eq_false_iff_ne.2 hne]
  exact Lj (fun e he=>h e (List.mem_cons_of_mem _ he)) (i+1)
def Pr (op:Int):Prop:=op≠9∧op≠10∧op≠11∧op≠12∧op≠13∧op≠23∧op≠27
theorem Zd {m:Int}{ev:aW}{f:FuncId}{H:Heap}{n:Nat}{sp:List (Nat×TV)}{t:Nat}{d:Option Tmp}{x k:Operand}{nm:Nm}{op:Int}(ho:Pr op)(h1:bL (cf m) n sp x=some (.map nm))(h2:bL (cf m) n sp k=some (.t (.int .u8 op)))(hg:H.get nm=some aI):
  cF (cf m) ev f H n sp t d (.lookup 65 x k true) (.t (.bX [.agg [.int .u8 0,.int .u8 0,.int .u8 0],.bool false])) []:=fun _ _ _ _=>by
 obtain⟨o1,o2,o3,o4,o5,o6,o7⟩:=ho
 have hf:kW (cf m).P 22 (.int .u8) (.t (.int .u8 op)) [(.t (.int .u8 9),.t (.agg [.int .u8 6,.int .u8 0,.int .u8 1]),0),(.t (.int .u8 10),.t (.agg [.int .u8 4,.int .u8 0,.int .u8 1]),1),(.t (.int .u8 11),.t (.agg [.int .u8 3,.int .u8 0,.int .u8 1]),2),(.t (.int .u8 12),.t (.agg [.int .u8 1,.int .u8 0,.int .u8 1]),3),(.t (.int .u8 13),.t (.agg [.int .u8 2,.int .u8 0,.int .u8 2]),4),(.t (.int .u8 23),.t (.agg [.int .u8 4,.int .u8 7,.int .u8 1]),5),(.t (.int .u8 27),.t (.agg [.int .u8 5,.int .u8 0,.int .u8 1]),6)] 0=some none:=Lj (fun e he=>by
  simp only[List.mem_cons,List.not_mem_nil,or_false] at he
  rcases he with rfl|rfl|rfl|rfl|rfl|rfl|rfl
  · exact⟨_,rfl,o1⟩
  · exact⟨_,rfl,o2⟩
  · exact⟨_,rfl,o3⟩
  · exact⟨_,rfl,o4⟩
  · exact⟨_,rfl,o5⟩
  · exact⟨_,rfl,o6⟩
  · exact⟨_,rfl,o7⟩) 0
 have hl:pF (cf m).P H 65 (.map nm) (.t (.int .u8 op)) true=some (.t (.bX [.agg [.int .u8 0,.int .u8 0,.int .u8 0],.bool false])):=by
  unfold aI at hg
  simp only[pF,bn,ag6,adN,Wz,mapOf,hg,akH,if_true,hf]
  rfl
 simp only[bk,evalOp,bT h1,bT h2,hl,xq,Option.map_some]
theorem ND (m:Int)(E:Env)(hE:uM E)(op:Int)(hk:Pr op):ay (cf m) 63 [.ptr (.arg 0) 0,.t (.int .u8 op)] [.cells 68 [.t (.sl E.ts),.t (.sl E.ac),.t (.str E.p),.t (.str E.r),.t (.sl E.c),.map (.arg 1)],aI] (.ret (.t (.agg [.int .u8 (aU op).1,.int .u8 (aU op).2.1,.int .u8 (aU op).2.2])) [.cells 68 [.t (.sl E.ts),.t (.sl E.ac),.t (.str E.p),.t (.str E.r),.t (.sl E.c),.map (.arg 1)],aI] []):=by
  obtain⟨lt,ht,la,ha,lc,hc⟩:=hE
  obtain⟨ev,ai⟩:∃ev,aF (cf m) ev:=⟨_,aH⟩
  refine ay.fu ?_
  refine AX.start 35 2 Tryz.func63 rfl (by decide) rfl rfl (by decide) ?_
  refine AX.frames ?_
  refine uR (f:=0) (n:=3000) (once:=[]) (k:=35) (T:=1) (S:=[.loc [0]]) (ks:=[.loc [0],.arg 0,.arg 1]) (live:=[0,1,4]) ah ai (Tryz.f63.body.getD .skip) 1 rfl (⟨bH 35 [(0,.ptr (.arg 0) 0),(1,.t (.int .u8 op)),(4,.ptr (.loc [0]) 0)],[(.loc [0],.cells 109 [.t (.int .u8 0),.t (.int .u8 0),.t (.int .u8 0)]),(.arg 0,.cells 68 [.t (.sl E.ts),.t (.sl E.ac),.t (.str E.p),.t (.str E.r),.t (.sl E.c),.map (.arg 1)]),(.arg 1,aI)],1⟩) [oN (o:=aI) (fun _=>rfl)] (by kernel_rfl) ?_
  refine AX.region ?_
  refine ak.go (f:=0) ai (av rfl) ?_
  refine ak.go (f:=0) ai (Z8 rfl rfl) ?_
  refine ak.go (f:=0) ai (aB rfl adO rfl) ?_
  refine ak.go (f:=0) ai (aS rfl (ld ag6 rfl rfl)) ?_
  refine ak.go (f:=0) ai (av rfl) ?_
  refine ak.go (f:=0) ai (Zd hk rfl rfl rfl) ?_
  refine ak.go (f:=0) ai (av rfl) ?_
  refine ak.go (f:=0) ai (cW rfl rfl) ?_
  refine ak.go (f:=0) ai (cW rfl rfl) ?_
  refine ak.go (f:=0) ai (gQ Wz rfl rfl) ?_
  refine ak.lQ (f:=0) ai (br rfl rfl (mX Wz rfl rfl)) ?_
  refine ak.go (f:=0) ai (au rfl) ?_
  refine ak.nil ?_
  rcases aK (decide (op≤16)) with hc1|hc1
  ·
   have Be:=of_decide_eq_true hc1
   obtain⟨o1,o2,o3,o4,o5,o6,o7⟩:=hk
   have hres:aU op=(1,1,1):=by
     unfold aU
     rw[if_neg o1,if_neg o2,if_neg o3,if_neg o4,if_neg o5,if_neg o6,if_neg o7]
     rw[if_pos (of_decide_eq_true hc1)]
   show ∃_:Unit,KE (cf m) (cB (cf m) _ 2 (.ret (.t (.agg [.int .u8 (aU op).1,.int .u8 (aU op).2.1,.int .u8 (aU op).2.2])) [.cells 68 [.t (.sl E.ts),.t (.sl E.ac),.t (.str E.p),.t (.str E.r),.t (.sl E.c),.map (.arg 1)],aI] [])) _ _ _
   rw[hres]
   exact⟨(),kF ah ai [oF,oB hc1] (by kernel_rfl)⟩
  ·
   have Be:=of_decide_eq_false hc1
   rcases aK (decide (op≤18)) with bD|bD
   ·
    have gM:=of_decide_eq_true bD
    obtain⟨o1,o2,o3,o4,o5,o6,o7⟩:=hk
    have hres:aU op=(0,0,1):=by
      unfold aU
      rw[if_neg o1,if_neg o2,if_neg o3,if_neg o4,if_neg o5,if_neg o6,if_neg o7]
      rw[if_neg (of_decide_eq_false hc1)]
      rw[if_pos (of_decide_eq_true bD)]
    show ∃_:Unit,KE (cf m) (cB (cf m) _ 2 (.ret (.t (.agg [.int .u8 (aU op).1,.int .u8 (aU op).2.1,.int .u8 (aU op).2.2])) [.cells 68 [.t (.sl E.ts),.t (.sl E.ac),.t (.str E.p),.t (.str E.r),.t (.sl E.c),.map (.arg 1)],aI] [])) _ _ _
    rw[hres]
    exact⟨(),kF ah ai [oF,oB hc1,oB bD] (by kernel_rfl)⟩
   ·
    have gM:=of_decide_eq_false bD
    rcases aK (decide (op≤22)) with bM|bM
    ·
     have lF:=of_decide_eq_true bM
     obtain⟨o1,o2,o3,o4,o5,o6,o7⟩:=hk
     have hres:aU op=(2,2,1):=by
       unfold aU
       rw[if_neg o1,if_neg o2,if_neg o3,if_neg o4,if_neg o5,if_neg o6,if_neg o7]
       rw[if_neg (of_decide_eq_false hc1)]
       rw[if_neg (of_decide_eq_false bD)]
       rw[if_pos (of_decide_eq_true bM)]
     show ∃_:Unit,KE (cf m) (cB (cf m) _ 2 (.ret (.t (.agg [.int .u8 (aU op).1,.int .u8 (aU op).2.1,.int .u8 (aU op).2.2])) [.cells 68 [.t (.sl E.ts),.t (.sl E.ac),.t (.str E.p),.t (.str E.r),.t (.sl E.c),.map (.arg 1)],aI] [])) _ _ _
     rw[hres]
     exact⟨(),kF ah ai [oF,oB hc1,oB bD,oB bM] (by kernel_rfl)⟩
    ·
     have lF:=of_decide_eq_false bM
     rcases aK (decide (op≤26)) with s5|s5
     ·
      have H8:=of_decide_eq_true s5
      obtain⟨o1,o2,o3,o4,o5,o6,o7⟩:=hk
      have hres:aU op=(2,2,2):=by
        unfold aU
        rw[if_neg o1,if_neg o2,if_neg o3,if_neg o4,if_neg o5,if_neg o6,if_neg o7]
        rw[if_neg (of_decide_eq_false hc1)]
        rw[if_neg (of_decide_eq_false bD)]
        rw[if_neg (of_decide_eq_false bM)]
        rw[if_pos (of_decide_eq_true s5)]
      show ∃_:Unit,KE (cf m) (cB (cf m) _ 2 (.ret (.t (.agg [.int .u8 (aU op).1,.int .u8 (aU op).2.1,.int .u8 (aU op).2.2])) [.cells 68 [.t (.sl E.ts),.t (.sl E.ac),.t (.str E.p),.t (.str E.r),.t (.sl E.c),.map (.arg 1)],aI] [])) _ _ _
      rw[hres]
      exact⟨(),kF ah ai [oF,oB hc1,oB bD,oB bM,oB s5] (by kernel_rfl)⟩
     ·
      have H8:=of_decide_eq_false s5
      obtain⟨o1,o2,o3,o4,o5,o6,o7⟩:=hk
      have hres:aU op=(5,5,1):=by
        unfold aU
        rw[if_neg o1,if_neg o2,if_neg o3,if_neg o4,if_neg o5,if_neg o6,if_neg o7]
        rw[if_neg (of_decide_eq_false hc1)]
        rw[if_neg (of_decide_eq_false bD)]
        rw[if_neg (of_decide_eq_false bM)]
        rw[if_neg (of_decide_eq_false s5)]
      show ∃_:Unit,KE (cf m) (cB (cf m) _ 2 (.ret (.t (.agg [.int .u8 (aU op).1,.int .u8 (aU op).2.1,.int .u8 (aU op).2.2])) [.cells 68 [.t (.sl E.ts),.t (.sl E.ac),.t (.str E.p),.t (.str E.r),.t (.sl E.c),.map (.arg 1)],aI] [])) _ _ _
      rw[hres]
      exact⟨(),kF ah ai [oF,oB hc1,oB bD,oB bM,oB s5] (by kernel_rfl)⟩
theorem WB (m:Int)(E:Env)(hE:uM E)(op:Int):ay (cf m) 63 [.ptr (.arg 0) 0,.t (.int .u8 op)] [.cells 68 [.t (.sl E.ts),.t (.sl E.ac),.t (.str E.p),.t (.str E.r),.t (.sl E.c),.map (.arg 1)],aI] (.ret (.t (.agg [.int .u8 (aU op).1,.int .u8 (aU op).2.1,.int .u8 (aU op).2.2])) [.cells 68 [.t (.sl E.ts),.t (.sl E.ac),.t (.str E.p),.t (.str E.r),.t (.sl E.c),.map (.arg 1)],aI] []):=by
  by_cases h:Pr op
  · exact ND m E hE op h
  · have h2:op=9∨op=10∨op=11∨op=12∨op=13∨op=23∨op=27:=by unfold Pr at h;omega
    rcases h2 with rfl|rfl|rfl|rfl|rfl|rfl|rfl
    · exact uf m E 9 (by omega)
    · exact uf m E 10 (by omega)
    · exact uf m E 11 (by omega)
    · exact uf m E 12 (by omega)
    · exact uf m E 13 (by omega)
    · exact uf m E 23 (by omega)
    · exact uf m E 27 (by omega)
def WC (n:Int):Prop:=n=0∨n=1∨n=2∨n=3∨n=4∨n=5∨n=6∨n=7
theorem EG (op:Int):WC (aU op).1∧WC (aU op).2.1:=by
 unfold aU
 repeat' split
 all_goals (unfold WC;exact⟨by decide,by decide⟩)
theorem Pt (s:List UInt8):T .aD (ZU s):=.aD _ _ _ _ (by simp) (by simp) (by simp) (by simp)
theorem Pu (k:Int):T .aD (aG k [] [] []):=.aD _ _ _ _ (by simp) (by simp) (by simp) (by simp)
theorem NF {E:Env}(hE:uM E)(s:List UInt8):T .aD (tE E s):=by
  unfold tE
  split
  · exact Pt _
  · split
    · exact Pt _
    · split
      · exact Pt _
      · exact .aD _ _ _ _ (by simp) (by simp) hE.lc hE.hc
theorem ag8 {a:Tree}(h:T .bh a):T .aD (E9 a):=by
 obtain⟨n,k,s,os,bs,rfl,h1,h2,h3,h4⟩:=T.eV h
 exact .aD k s os bs h1 h2 h3 h4
theorem Ll {t:Tree}(n:List UInt8)(h:T .aD t):T .bh (Xr n t):=by
 obtain⟨k,s,os,bs,rfl,h1,h2,h3,h4⟩:=T.aR h
 exact .bh n k s os bs h1 h2 h3 h4
theorem Pv {bs:List Tree}{n:List UInt8}(h:∀y∈bs,T .bh y):T .aD (BI bs n).1:=by
 cases hf:mD n bs with
 |none=>rw[tF hf];exact rQ
 |some a=>rw[yV hf];exact ag8 (h a (FO hf))
theorem ag9 {t:Tree}(h:T .aC t):∀y∈LU t,T .bh y:=by
 obtain⟨n,p,a,rfl,h1,h2,h3,h4⟩:=T.bg h
 exact h4
theorem aha {t:Tree}(h:T .aD t):∀y∈tyB t,T .bh y:=by
 obtain⟨k,s,os,bs,rfl,h1,h2,h3,h4⟩:=T.aR h
 exact h4
theorem Pw {E:Env}(hE:uM E){t:Tree}(ht:T .aD t)(n:List UInt8):T .aD (eA E t n).1:=by
  unfold eA
  split
  · exact Pv (ag9 (wM Le hE.ht))
  · split
    · exact Pv (aha ht)
    · exact rQ
theorem WD:∀{ns l:List Tree},(∀y∈l,T .aD y)→∀y∈oq ns l,T .bh y
 | [],_,_,y,hy=>by simp[oq] at hy
 |_::_,[],_,y,hy=>by simp[oq] at hy
 |n::ns,t::l,h,y,hy=>by
  rw[show oq (n::ns) (t::l)=Xr (Ty.strOf n) t::oq ns l from rfl] at hy
  rcases List.mem_cons.1 hy with rfl|hy
  · exact Ll _ (h t List.mem_cons_self)
  · exact WD (fun y hy=>h y (List.mem_cons_of_mem _ hy)) y hy
theorem Px:∀{ns l:List Tree},(oq ns l).length≤l.length
 | [],_=>by simp[oq]
 |_::_,[]=>by simp[oq]
 |n::ns,t::l=>by
  have:=Px (ns:=ns) (l:=l)
  show(Xr (Ty.strOf n) t::oq ns l).length≤_
  simp only[List.length_cons];omega
theorem WE {l:List Tree}(h:∀y∈l,T .aD y)(i:Nat):T .aD (B8 l i):=by
 unfold B8
 cases hi:l[i]? with
 |none=>exact rQ
 |some e=>exact h e (List.mem_of_getElem? hi)
theorem qN {l:List Tree}{i:Nat}{e:Tree}(h:l[i]?=some e):B8 l i=e:=by unfold B8;rw[h];rfl
def OP (m:Int):XR:=⟨JF m,IF m,aU,jZ⟩
theorem JFT (m:Int):∀x y,T .aD x→T .aD y→T .aD (JF m x y).1:=fun x y hx hy=>adl m hx hy
theorem adP (m:Int){E:Env}(hE:uM E){op:Int}{s t:List UInt8}{ns l:List Tree}(hl:l.length≤4194304)(h:∀y∈l,T .aD y):T .aD (kj (OP m) E op s t ns l).1:=by
  unfold kj
  split
  · exact Pu _
  split
  · split
    · exact rQ
    · exact Pt _
  split
  · exact NF hE _
  split
  · split
    · exact rQ
    · exact .aD _ _ _ _ (by simp) (fun y hy=>by rw[List.mem_singleton.1 hy];exact wL (JFT m) rQ h) (by simp) (by simp)
  split
  · exact .aD _ _ _ _ (by simp) (by simp) (by show(jZ (oq ns l)).length≤_;rw[jJ];have:=Px (ns:=ns) (l:=l);omega) (fun y hy=>WD h y (Bx hy))
  split
  · exact Pw hE (WE h 0) _
  split
  · split
    · exact JFT m _ _ (WE h 1) (WE h 2)
    · exact rQ
  split
  · exact rQ
  · exact Pu _
theorem adQ (m:Int){E:Env}(hE:uM E){f:Tree→Tree×Int}{x:Tree}(hx:T .bJ x)(hf:∀k∈uz x,T .aD (f k).1):T .aD (cg (OP m) E f x).1:=by
  obtain⟨op,n,s,t,ns,ks,rfl,h1,h2,h3,h4⟩:=T.eB hx
  by_cases hz:jb f ks=0
  · rw[b9 hz]
    exact adP m hE (by rw[List.length_map];exact h3) fun y hy=>by obtain⟨k,hk,rfl⟩:=List.mem_map.1 hy;exact hf k hk
  · rw[Dl hz];exact rQ
theorem Py {f:Tree→Tree×Int}{ks:List Tree}{i:Nat}{e t:Tree}(he:ks[i]?=some e)(ht:(f e).1=t):(ks.take i).map (fun k=>(f k).1)++[t]=(ks.take (i+1)).map fun k=>(f k).1:=by
 rw[dL he,List.map_append,← ht];rfl
theorem Ah {ns kl:List Tree}{i:Nat}{n:List UInt8}{r:List Tree}(hn:ns[i]?=some (.str n))(hk:kl[i]?=some (.agg r)):oq (ns.take i) (kl.take i)++[.agg (.str n::r)]=oq (ns.take (i+1)) (kl.take (i+1)):=by
 have hl:(ns.take i).length=(kl.take i).length:=by
  have h1:=(List.getElem?_eq_some_iff.1 hn).1
  have h2:=(List.getElem?_eq_some_iff.1 hk).1
  rw[List.length_take,List.length_take];omega
 rw[dL hn,dL hk]
 unfold oq
 rw[List.zipWith_append hl];rfl
theorem RA (m:Int):ay (cf m) 58 [.t (.sl []),.t (.fn (.func 59))] [] (.ret (.t (.bX [])) [] []):=eG (by kernel_rfl)
theorem GF {l:List Tree}{ag:Bool}{sz:Nat}(h:cu ag sz l):cu ag sz (jZ l):=fun y hy=>h y (Bx hy)
end
end Go.Proofs.YtijfhoelihclbaaGreatDoor.w.e

namespace Go.Proofs.YtijfhoelihclbaaGreatDoor.w.e
open Go Go.Abs Go.Abs.Ty
set_option linter.unusedVariables false
set_option maxRecDepth 100000
set_option maxHeartbeats 8000000
noncomputable section
theorem WG {m:Int}:eX (cf m).P 26 0=some 0:=by kernel_rfl
def intOf:Tree→Int
 |.int _ n=>n
 |_=>0
theorem GG:jZ []=[]:=List.eq_nil_of_length_eq_zero (jJ [])
theorem Lm:∀{l l':List Tree},(∀e∈l,AtF e)→(∀e∈l',AtF e)→flat l=flat l'→l=l'
 | [],[],_,_,_=>rfl
 |a::l,b::l',h1,h2,h=>by
  obtain⟨n,k,s,os,bs,rfl⟩:=h1 a List.mem_cons_self
  obtain⟨n',k',s',os',bs',rfl⟩:=h2 b List.mem_cons_self
  have h:[Tree.str n,.int .u8 k,.str s,.sl os,.sl bs]++flat l=[Tree.str n',.int .u8 k',.str s',.sl os',.sl bs']++flat l':=h
  obtain⟨e1,e2⟩:=List.append_inj h rfl
  rw[e1,Lm (fun e he=>h1 e (List.mem_cons_of_mem _ he)) (fun e he=>h2 e (List.mem_cons_of_mem _ he)) e2]
 | [],b::l',_,h2,h=>by
  obtain⟨n',k',s',os',bs',rfl⟩:=h2 b List.mem_cons_self
  exact absurd (show([]:List Tree)=[Tree.str n',.int .u8 k',.str s',.sl os',.sl bs']++flat l' from h) (by simp)
 |a::l,[],h1,_,h=>by
  obtain⟨n',k',s',os',bs',rfl⟩:=h1 a List.mem_cons_self
  exact absurd (show [Tree.str n',.int .u8 k',.str s',.sl os',.sl bs']++flat l=([]:List Tree) from h) (by simp)
def SfP (args:List TV)(aX:List aV)(l:List Tree):Prop:=args=[.ref (.arg 0) 0 l.length,.t (.fn (.func 59))]∧aX=[.arr (45,true) 5 false ((flat l).map .t)]∧l≠ []∧l.length≤4194304∧∀e∈l,AtF e
open Classical in
def sfS:List TV→List aV→Option bG:=fun args aX=>if args=[.t (.sl []),.t (.fn (.func 59))]∧aX=[] then some (.ret (.t (.bX [])) [] []) else
 if h:∃l,SfP args aX l then some (.ret (.t (.bX [])) [.arr (45,true) 5 false ((flat (jZ h.choose)).map .t)] []) else none
theorem adR (m:Int):kY (cf m) 58 sfS:=fun args aX r h=>by
  unfold sfS at h
  split at h
  · rename_i hc;obtain⟨rfl,rfl⟩:=hc;cases h;exact RA m
  · split at h
    · rename_i hc
      cases h
      have hs:=hc.choose_spec
      generalize hc.choose=l at hs
      obtain⟨rfl,rfl,h1,h2,h3⟩:=hs
      exact Wy m l h2 h1 h3
    · cases h
theorem Pz {ev:aW}(h:Has ev 58 sfS):ev 58 [.t (.sl []),.t (.fn (.func 59))] []=some (.ret (.t (.bX [])) [] []):=h _ _ _ (if_pos ⟨rfl,rfl⟩)
theorem PB {ev:aW}(h:Has ev 58 sfS){l:List Tree}(hne:l≠ [])(hl:l.length≤4194304)(hf:∀e∈l,T .bh e):ev 58 [.ref (.arg 0) 0 l.length,.t (.fn (.func 59))] [.arr (45,true) 5 false ((flat l).map .t)]=some (.ret (.t (.bX [])) [.arr (45,true) 5 false ((flat (jZ l)).map .t)] []):=h _ _ _ (by
 have ha:∀e∈l,AtF e:=fun e he=>by
  obtain⟨n,k,s,os,bs,rfl,_⟩:=T.eV (hf e he)
  exact⟨n,k,s,os,bs,rfl⟩
 have hx:∃l',SfP [.ref (.arg 0) 0 l.length,.t (.fn (.func 59))] [.arr (45,true) 5 false ((flat l).map .t)] l':=⟨l,rfl,rfl,hne,hl,ha⟩
 unfold sfS
 rw[if_neg (fun q=>by cases q.2),dif_pos hx]
 have hs:=hx.choose_spec
 generalize hx.choose=l' at hs
 obtain⟨_,e,_,_,h3⟩:=hs
 have e2:flat l=flat l':=by
  injection e with e _
  injection e with _ _ _ e
  exact DM e
 rw[Lm ha h3 e2])
theorem WH       (m:Int)(E:Env)(hE:uM E)(op n:Int)(s t:List UInt8)(ns ks:List Tree)(ln:ns.length≤4194304)(FA:∀y∈ns,T .string y)(lk:ks.length≤4194304)(hks:∀y∈ks,T .bJ y)(hM:U7 op ns.length ks.length)(f:Tree→Tree×Int)(hf:∀k∈ks,ay (cf m) 19 [.ptr (.arg 0) 0,.t k] [.cells 68 [.t (.sl E.ts),.t (.sl E.ac),.t (.str E.p),.t (.str E.r),.t (.sl E.c),.map (.arg 1)],aI] (.ret (.t (.bX [(f k).1,.int .i64 (f k).2])) [.cells 68 [.t (.sl E.ts),.t (.sl E.ac),.t (.str E.p),.t (.str E.r),.t (.sl E.c),.map (.arg 1)],aI] [])∧T .aD (f k).1):ay (cf m) 19 [.ptr (.arg 0) 0,.t (.agg [.int .u8 op,.int .i64 n,.str s,.str t,.sl ns,.sl ks])] [.cells 68 [.t (.sl E.ts),.t (.sl E.ac),.t (.str E.p),.t (.str E.r),.t (.sl E.c),.map (.arg 1)],aI] (.ret (.t (.bX [(cg (OP m) E f (.agg [.int .u8 op,.int .i64 n,.str s,.str t,.sl ns,.sl ks])).1,.int .i64 (cg (OP m) E f (.agg [.int .u8 op,.int .i64 n,.str s,.str t,.sl ns,.sl ks])).2])) [.cells 68 [.t (.sl E.ts),.t (.sl E.ac),.t (.str E.p),.t (.str E.r),.t (.sl E.c),.map (.arg 1)],aI] []):=by
  obtain⟨lt,ht,la,ha,lc,hc⟩:=hE
  obtain⟨ev,ai,e_self,PD,Ry,aaQ,ahb,Ze,adS,adT,vN,IP⟩:∃ev,aF (cf m) ev∧Has ev 19 (pm [.cells 68 [.t (.sl E.ts),.t (.sl E.ac),.t (.str E.p),.t (.str E.r),.t (.sl E.c),.map (.arg 1)],aI] (fun xs=>∃k∈ks,xs=[k]) (fun xs=>.bX [(f (xs.headD .cG)).1,.int .i64 (f (xs.headD .cG)).2]))∧Has ev 54 (px [.ptr (.arg 0) 0,.t (.str t),.t (.str s)] [.cells 68 [.t (.sl E.ts),.t (.sl E.ac),.t (.str E.p),.t (.str E.r),.t (.sl E.c),.map (.arg 1)],aI] (.ret (.t (.int .i64 (vu E t s))) [.cells 68 [.t (.sl E.ts),.t (.sl E.ac),.t (.str E.p),.t (.str E.r),.t (.sl E.c),.map (.arg 1)],aI] []))∧Has ev 55 (jP (fun x=>∃s,x=.str s) fun x=>ZU (Ty.strOf x))∧Has ev 56 (px [.ptr (.arg 0) 0,.t (.str s)] [.cells 68 [.t (.sl E.ts),.t (.sl E.ac),.t (.str E.p),.t (.str E.r),.t (.sl E.c),.map (.arg 1)],aI] (.ret (.t (tE E s)) [.cells 68 [.t (.sl E.ts),.t (.sl E.ac),.t (.str E.p),.t (.str E.r),.t (.sl E.c),.map (.arg 1)],aI] []))∧Has ev 57 (jP (fun x=>∃l,x=.sl l∧l.length≤4194304∧∀y∈l,T .aD y) fun x=>.bX [(bI (JF m) gi (lG x)).1,.int .i64 (bI (JF m) gi (lG x)).2])∧Has ev 58 sfS∧Has ev 61 (pm [.cells 68 [.t (.sl E.ts),.t (.sl E.ac),.t (.str E.p),.t (.str E.r),.t (.sl E.c),.map (.arg 1)],aI] (fun xs=>∃t nm,T .aD t∧xs=[t,.str nm]) (fun xs=>.bX [(eA E (xs.headD .cG) (Ty.strOf (xs.getD 1 .cG))).1,.int .i64 (eA E (xs.headD .cG) (Ty.strOf (xs.getD 1 .cG))).2]))∧Has ev 62 (r7 (fun x y=>∃n,x=.int .u8 n∧WC n∧T .aD y) fun x y=>.bool (IF m (intOf x) y))∧Has ev 12 (r7 (fun x y=>T .aD x∧T .aD y) fun x y=>.bX [(JF m x y).1,.int .i64 (JF m x y).2])∧Has ev 63 (px [.ptr (.arg 0) 0,.t (.int .u8 op)] [.cells 68 [.t (.sl E.ts),.t (.sl E.ac),.t (.str E.p),.t (.str E.r),.t (.sl E.c),.map (.arg 1)],aI] (.ret (.t (.agg [.int .u8 (aU op).1,.int .u8 (aU op).2.1,.int .u8 (aU op).2.2])) [.cells 68 [.t (.sl E.ts),.t (.sl E.ac),.t (.str E.p),.t (.str E.r),.t (.sl E.c),.map (.arg 1)],aI] [])):=⟨_,(ax ((TF fun xs h=>by obtain⟨k,hk,e⟩:=h;subst e;exact(hf k hk).1)) (ax ((jY (Nx m E ⟨lt,ht,la,ha,lc,hc⟩ t s))) (ax (bp fun x ⟨s,e⟩=>by subst e;exact Ld m s) (ax ((jY (Lf m E ⟨lt,ht,la,ha,lc,hc⟩ s))) (ax ((bp fun x h=>by obtain⟨l,e,h1,h2⟩:=h;subst e;exact Rr m l h1 h2)) (ax ((adR m)) (ax ((TF fun xs h=>by obtain⟨t,nm,h1,e⟩:=h;subst e;obtain⟨k,s,os,bs,rfl,g1,g2,g3,g4⟩:=T.aR h1;exact Y9 m E ⟨lt,ht,la,ha,lc,hc⟩ k s os bs nm g1 g2 g3 g4)) (ax ((dH fun x y h=>by obtain⟨n,e,h1,h2⟩:=h;subst e;exact adn m n y ⟨h1,h2⟩)) (ax (dH (aaL m)) (ax ((jY (WB m E ⟨lt,ht,la,ha,lc,hc⟩ op))) aH)))))))))),az,(aj rfl az),(aj rfl (aj rfl az)),(aj rfl (aj rfl (aj rfl az))),(aj rfl (aj rfl (aj rfl (aj rfl az)))),(aj rfl (aj rfl (aj rfl (aj rfl (aj rfl az))))),(aj rfl (aj rfl (aj rfl (aj rfl (aj rfl (aj rfl az)))))),(aj rfl (aj rfl (aj rfl (aj rfl (aj rfl (aj rfl (aj rfl az))))))),(aj rfl (aj rfl (aj rfl (aj rfl (aj rfl (aj rfl (aj rfl (aj rfl az)))))))),(aj rfl (aj rfl (aj rfl (aj rfl (aj rfl (aj rfl (aj rfl (aj rfl (aj rfl az)))))))))⟩
  refine ay.fu ?_
  refine AX.start 170 2 Tryz.func19 rfl (by decide) rfl rfl (by decide) ?_
  refine AX.frames ?_
  refine eo (f:=0) (n:=3000) (once:=[]) (k:=170) (T:=2) (S:=[.loc [0],.loc [1]]) (ks:=[.loc [0],.loc [1],.arg 0,.arg 1]) (live:=[0,3,4,6,19,20,21]) ah ai (α:=Nat×List Tree) (fun x=>(match x.2 with| []=>⟨bH 170 [(0,.ptr (.arg 0) 0),(3,.ptr (.loc [0]) 0),(4,.ptr (.loc [1]) 0),(6,.aL),(19,.t (.sl ks)),(20,.t (.int .i64 ((ks.length:Nat):Int))),(21,.t (.int .i64 ((x.1:Nat):Int)))],[(.loc [0],.cells 26 [.t (.int .u8 op),.t (.int .i64 n),.t (.str s),.t (.str t),.t (.sl ns),.t (.sl ks)]),(.loc [1],.cells 38 [.t (.int .u8 0),.t (.str []),.aL,.aL]),(.arg 0,.cells 68 [.t (.sl E.ts),.t (.sl E.ac),.t (.str E.p),.t (.str E.r),.t (.sl E.c),.map (.arg 1)]),(.arg 1,aI)],2⟩|_::_=>⟨bH 170 [(0,.ptr (.arg 0) 0),(3,.ptr (.loc [0]) 0),(4,.ptr (.loc [1]) 0),(6,.ref (.loc [2]) 0 x.2.length),(19,.t (.sl ks)),(20,.t (.int .i64 ((ks.length:Nat):Int))),(21,.t (.int .i64 ((x.1:Nat):Int)))],[(.loc [0],.cells 26 [.t (.int .u8 op),.t (.int .i64 n),.t (.str s),.t (.str t),.t (.sl ns),.t (.sl ks)]),(.loc [1],.cells 38 [.t (.int .u8 0),.t (.str []),.aL,.aL]),(.loc [2],.arr (38,true) 4 false ((flat x.2).map .t)),(.arg 0,.cells 68 [.t (.sl E.ts),.t (.sl E.ac),.t (.str E.p),.t (.str E.r),.t (.sl E.c),.map (.arg 1)]),(.arg 1,aI)],3⟩)) (fun x=>(x.1≤ks.length)∧(x.2=(ks.take x.1).map (fun k=>(f k).1))∧(cu true 4 x.2)∧(x.2.length≤x.1)∧(∀j,j<x.1→∀y,ks[j]?=some y→(f y).2=0)∧(∀y∈x.2,T .aD y)) (fun x=>ks.length - x.1) (⟨0,[]⟩) (iA (Tryz.f19.body.getD .skip) 3) [oN (o:=aI) (fun _=>rfl)] (by kernel_rfl) ⟨Nat.zero_le _,rfl,cu.nil,Nat.le_refl _,fun j hj=>absurd hj (Nat.not_lt_zero j),fun y hy=>absurd hy (by simp)⟩ (fun x hok=> ?_)
  obtain⟨i_1,jL⟩:=x
  replace hok:(i_1≤ks.length)∧(jL=(ks.take i_1).map (fun k=>(f k).1))∧(cu true 4 jL)∧(jL.length≤i_1)∧(∀j,j<i_1→∀y,ks[j]?=some y→(f y).2=0)∧(∀y∈jL,T .aD y):=hok
  obtain⟨iX,bN,gW,CG,wO,IQ⟩:=hok
  rcases jL with _|⟨dX,dY⟩
  ·
   rcases aK (decide (((i_1:Nat):Int)<((ks.length:Nat):Int))) with bD|bD
   ·
    have gM:=of_decide_eq_true bD
    obtain⟨e3,gY⟩:=lC ks i_1 (by first|omega|(simp;omega))
    have iI:=(hks e3 (List.mem_of_getElem? gY))
    obtain⟨NG,n_4,OL,NH,uh,ye,rfl,mO,kU,mP,jR⟩:=T.eB iI
    have ez5:ev 19 [.ptr (.arg 0) 0,.t (.agg [.int .u8 NG,.int .i64 n_4,.str OL,.str NH,.sl uh,.sl ye])] [.cells 68 [.t (.sl E.ts),.t (.sl E.ac),.t (.str E.p),.t (.str E.r),.t (.sl E.c),.map (.arg 1)],aI]=some (bG.ret (.t (.bX [(f (.agg [.int .u8 NG,.int .i64 n_4,.str OL,.str NH,.sl uh,.sl ye])).1,.int .i64 (f (.agg [.int .u8 NG,.int .i64 n_4,.str OL,.str NH,.sl uh,.sl ye])).2])) [.cells 68 [.t (.sl E.ts),.t (.sl E.ac),.t (.str E.p),.t (.str E.r),.t (.sl E.c),.map (.arg 1)],aI] []):=X9 e_self [(.agg [.int .u8 NG,.int .i64 n_4,.str OL,.str NH,.sl uh,.sl ye])] ⟨_,(List.mem_of_getElem? gY),rfl⟩
    have xS:=(hf _ (List.mem_of_getElem? gY)).2
    obtain⟨yd,ua,ED,pU,eq_6,Ns,Nt,Nu,Nv⟩:=T.aR xS
    rw[eq_6] at xS
    have Nw:=ez5
    rw[eq_6] at Nw
    rcases aK (((f (.agg [.int .u8 NG,.int .i64 n_4,.str OL,.str NH,.sl uh,.sl ye])).2 != 0)) with gp|gp
    ·
     have xQ:=aA gp
     refine kO ah ai [oB bD,oE gY,oC Nw,oB gp] (by kernel_rfl) ?_
     have hfe:jb f ks=(f (.agg [.int .u8 NG,.int .i64 n_4,.str OL,.str NH,.sl uh,.sl ye])).2:=A3 (fun j hj y hy=>wO j hj y hy) gY (aA gp)
     have hres:cg (OP m) E f (.agg [.int .u8 op,.int .i64 n,.str s,.str t,.sl ns,.sl ks])=(.agg [.int .u8 0,.str [],.sl [],.sl []],(f (.agg [.int .u8 NG,.int .i64 n_4,.str OL,.str NH,.sl uh,.sl ye])).2):=by
       rw[Dl (by rw[hfe];exact aA gp),hfe];rfl
     show ∃_:Unit,KE (cf m) (cB (cf m) _ 2 (.ret (.t (.bX [(cg (OP m) E f (.agg [.int .u8 op,.int .i64 n,.str s,.str t,.sl ns,.sl ks])).1,.int .i64 (cg (OP m) E f (.agg [.int .u8 op,.int .i64 n,.str s,.str t,.sl ns,.sl ks])).2])) [.cells 68 [.t (.sl E.ts),.t (.sl E.ac),.t (.str E.p),.t (.str E.r),.t (.sl E.c),.map (.arg 1)],aI] [])) _ _ _
     rw[hres]
     exact⟨(),kF ah ai [] (by kernel_rfl)⟩
    ·
     have xQ:=aq gp
     exact⟨.inl ⟨⟨i_1+1,([.agg [.int .u8 yd,.str ua,.sl ED,.sl pU]]:List Tree)⟩,⟨⟨(by show(i_1+1)≤ks.length;omega),((congrArg (fun l=>l++[_]) bN).trans (Py gY eq_6)),(by exact(cu.cons ⟨rfl,rfl,rfl⟩ .nil)),(by show([.agg [.int .u8 yd,.str ua,.sl ED,.sl pU]]:List Tree).length≤(i_1+1);first|omega|(simp only[List.length_append,List.length_cons,List.length_nil,List.length_singleton] at*;omega)|(simp;done)|(simp;omega)),(jM (G:=fun y=>(f y).2=0) gY (aq gp) wO),(fun y hy=>by rw[List.mem_singleton.1 hy];exact xS)⟩,(by show(ks.length - (i_1+1))<(ks.length - i_1);omega)⟩⟩,bB (f:=0) (n:=3000) (once:=[]) (k:=170) (T:=3) (S:=[.loc [0],.loc [1],.loc [21]]) (ks:=[.loc [0],.loc [1],.loc [21],.arg 0,.arg 1]) (live:=[0,3,4,6,19,20,21]) ah ai [oB bD,oE gY,oC Nw,oB gp,oU true 4 ([.agg [.int .u8 yd,.str ua,.sl ED,.sl pU]]:List Tree) (cu.cons ⟨rfl,rfl,rfl⟩ cu.nil) (by simp),oA (([.agg [.int .u8 yd,.str ua,.sl ED,.sl pU]]:List Tree).length*72) (by first|omega|(simp only[List.length_append,List.length_cons,List.length_nil,List.length_singleton] at*;omega)|(simp;done)|(simp;omega)),oI (i_1) (by omega),oN (o:=.arr (38,true) 4 false ((flat ([.agg [.int .u8 yd,.str ua,.sl ED,.sl pU]]:List Tree)).map .t)) (fun _=>bw),oN (o:=aI) (fun _=>rfl)] (by kernel_rfl)⟩
   ·
    have gM:=of_decide_eq_false bD
    refine kO ah ai [oB bD] (by kernel_rfl) ?_
    refine uR (f:=0) (n:=3000) (once:=[]) (k:=170) (T:=2) (S:=[.loc [0],.loc [1]]) (ks:=[.loc [0],.loc [1],.arg 0,.arg 1]) (live:=[0,3,4,6,22]) ah ai (Tryz.f19.body.getD .skip) 10 rfl (⟨bH 170 [(0,.ptr (.arg 0) 0),(3,.ptr (.loc [0]) 0),(4,.ptr (.loc [1]) 0),(6,.aL),(22,.t (.bool (decide (((i_1:Nat):Int)<((ks.length:Nat):Int)))))],[(.loc [0],.cells 26 [.t (.int .u8 op),.t (.int .i64 n),.t (.str s),.t (.str t),.t (.sl ns),.t (.sl ks)]),(.loc [1],.cells 38 [.t (.int .u8 0),.t (.str []),.aL,.aL]),(.arg 0,.cells 68 [.t (.sl E.ts),.t (.sl E.ac),.t (.str E.p),.t (.str E.r),.t (.sl E.c),.map (.arg 1)]),(.arg 1,aI)],2⟩) [oN (o:=aI) (fun _=>rfl)] (by kernel_rfl) ?_
    refine AX.re (Re.dat 6 rfl rfl) ?_
    refine AX.re (st':=⟨bH 170 [(0,.ptr (.arg 0) 0),(3,.ptr (.loc [0]) 0),(4,.ptr (.loc [1]) 0),(6,.t (.sl [])),(22,.t (.bool (decide (((i_1:Nat):Int)<((ks.length:Nat):Int)))))],[(.loc [0],.cells 26 [.t (.int .u8 op),.t (.int .i64 n),.t (.str s),.t (.str t),.t (.sl ns),.t (.sl ks)]),(.loc [1],.cells 38 [.t (.int .u8 0),.t (.str []),.aL,.aL]),(.arg 0,.cells 68 [.t (.sl E.ts),.t (.sl E.ac),.t (.str E.p),.t (.str E.r),.t (.sl E.c),.map (.arg 1)]),(.arg 1,aI)],2⟩) (Re.sq [.loc [0],.loc [1]] ⟨rfl,rfl,rfl,rfl,rfl,trivial⟩ ⟨⟨.loc [0],_,rfl,rfl,.inl rfl⟩,⟨.loc [1],_,rfl,rfl,.inl rfl⟩,⟨.arg 0,_,rfl,rfl,.inl rfl⟩,⟨.arg 1,_,rfl,rfl,.inl rfl⟩,trivial⟩ (by decide) rfl rfl (by decide)) ?_
    have hkl:([]:List Tree)=ks.map (fun k=>(f k).1):=bN.trans (by rw[List.take_of_length_le (by omega)])
    obtain⟨kl,kN⟩:∃kl,kl=ks.map (fun k=>(f k).1):=⟨_,rfl⟩
    refine AX.re (st':=⟨bH 170 [(0,.ptr (.arg 0) 0),(3,.ptr (.loc [0]) 0),(4,.ptr (.loc [1]) 0),(6,.t (.sl kl)),(22,.t (.bool (decide (((i_1:Nat):Int)<((ks.length:Nat):Int)))))],[(.loc [0],.cells 26 [.t (.int .u8 op),.t (.int .i64 n),.t (.str s),.t (.str t),.t (.sl ns),.t (.sl ks)]),(.loc [1],.cells 38 [.t (.int .u8 0),.t (.str []),.aL,.aL]),(.arg 0,.cells 68 [.t (.sl E.ts),.t (.sl E.ac),.t (.str E.p),.t (.str E.r),.t (.sl E.c),.map (.arg 1)]),(.arg 1,aI)],2⟩) (by rw[kN,← hkl];exact Re.refl _) ?_
    have hll:kl.length=ks.length:=by rw[kN,List.length_map]
    have NI:∀y∈kl,T .aD y:=by rw[kN,← hkl];exact IQ
    have hz:jb f ks=0:=wA (k7 (G:=fun y=>(f y).2=0) (l:=ks) (fun j hj=>wO j (by omega)))
    obtain⟨m1,m2,m3,m4⟩:=hM
    have h0:ks.length=0:=by have:=congrArg List.length hkl;simpa using this.symm
    refine AX.region ?_
    refine ak.go (f:=0) ai (aB rfl WG rfl) ?_
    refine ak.go (f:=0) ai (cN rfl (ld adN rfl rfl)) ?_
    refine ak.nil ?_
    rcases aK ((op==1)) with rN|rN
    ·
     have D5:=eq_of_beq rN
     have hres:cg (OP m) E f (.agg [.int .u8 op,.int .i64 n,.str s,.str t,.sl ns,.sl ks])=(.agg [.int .u8 (IntKind.wrap .u8 (1+(IntKind.wrap .u8 (op - 1)))),.str [],.sl [],.sl []],0):=by
       rw[b9 hz,← kN]
       unfold kj
       rw[if_pos (by omega)]
       rw[show op=1 from eq_of_beq rN];rfl
     show ∃_:Unit,KE (cf m) (cB (cf m) _ 2 (.ret (.t (.bX [(cg (OP m) E f (.agg [.int .u8 op,.int .i64 n,.str s,.str t,.sl ns,.sl ks])).1,.int .i64 (cg (OP m) E f (.agg [.int .u8 op,.int .i64 n,.str s,.str t,.sl ns,.sl ks])).2])) [.cells 68 [.t (.sl E.ts),.t (.sl E.ac),.t (.str E.p),.t (.str E.r),.t (.sl E.c),.map (.arg 1)],aI] [])) _ _ _
     rw[hres]
     exact⟨(),kF ah ai [oB rN,oB rN,oZ,oZ] (by kernel_rfl)⟩
    ·
     have D5:=ne_of_beq_false rN
     rcases aK ((op==2)) with l6|l6
     ·
      have Uo:=eq_of_beq l6
      have hres:cg (OP m) E f (.agg [.int .u8 op,.int .i64 n,.str s,.str t,.sl ns,.sl ks])=(.agg [.int .u8 (IntKind.wrap .u8 (1+(IntKind.wrap .u8 (op - 1)))),.str [],.sl [],.sl []],0):=by
        rw[b9 hz,← kN]
        unfold kj
        rw[if_pos (by omega)]
        rw[show op=2 from eq_of_beq l6];rfl
      show ∃_:Unit,KE (cf m) (cB (cf m) _ 2 (.ret (.t (.bX [(cg (OP m) E f (.agg [.int .u8 op,.int .i64 n,.str s,.str t,.sl ns,.sl ks])).1,.int .i64 (cg (OP m) E f (.agg [.int .u8 op,.int .i64 n,.str s,.str t,.sl ns,.sl ks])).2])) [.cells 68 [.t (.sl E.ts),.t (.sl E.ac),.t (.str E.p),.t (.str E.r),.t (.sl E.c),.map (.arg 1)],aI] [])) _ _ _
      rw[hres]
      exact⟨(),kF ah ai [oB rN,oB l6,oB l6,oZ,oZ] (by kernel_rfl)⟩
     ·
      have Uo:=ne_of_beq_false l6
      rcases aK ((op==3)) with dn|dn
      ·
       have zH:=eq_of_beq dn
       have hres:cg (OP m) E f (.agg [.int .u8 op,.int .i64 n,.str s,.str t,.sl ns,.sl ks])=(.agg [.int .u8 (IntKind.wrap .u8 (1+(IntKind.wrap .u8 (op - 1)))),.str [],.sl [],.sl []],0):=by
         rw[b9 hz,← kN]
         unfold kj
         rw[if_pos (by omega)]
         rw[show op=3 from eq_of_beq dn];rfl
       show ∃_:Unit,KE (cf m) (cB (cf m) _ 2 (.ret (.t (.bX [(cg (OP m) E f (.agg [.int .u8 op,.int .i64 n,.str s,.str t,.sl ns,.sl ks])).1,.int .i64 (cg (OP m) E f (.agg [.int .u8 op,.int .i64 n,.str s,.str t,.sl ns,.sl ks])).2])) [.cells 68 [.t (.sl E.ts),.t (.sl E.ac),.t (.str E.p),.t (.str E.r),.t (.sl E.c),.map (.arg 1)],aI] [])) _ _ _
       rw[hres]
       exact⟨(),kF ah ai [oB rN,oB l6,oB dn,oZ,oZ] (by kernel_rfl)⟩
      ·
       have zH:=ne_of_beq_false dn
       rcases aK ((op==4)) with iB|iB
       ·
        have qD:=eq_of_beq iB
        rcases aK (((vu E t s) != 0)) with jk|jk
        ·
         have D6:=aA jk
         have hres:cg (OP m) E f (.agg [.int .u8 op,.int .i64 n,.str s,.str t,.sl ns,.sl ks])=(.agg [.int .u8 0,.str [],.sl [],.sl []],(vu E t s)):=by
           rw[b9 hz,← kN]
           unfold kj
           rw[if_neg (by omega)]
           rw[if_pos (by omega)]
           rw[if_pos (aA jk)];rfl
         show ∃_:Unit,KE (cf m) (cB (cf m) _ 2 (.ret (.t (.bX [(cg (OP m) E f (.agg [.int .u8 op,.int .i64 n,.str s,.str t,.sl ns,.sl ks])).1,.int .i64 (cg (OP m) E f (.agg [.int .u8 op,.int .i64 n,.str s,.str t,.sl ns,.sl ks])).2])) [.cells 68 [.t (.sl E.ts),.t (.sl E.ac),.t (.str E.p),.t (.str E.r),.t (.sl E.c),.map (.arg 1)],aI] [])) _ _ _
         rw[hres]
         exact⟨(),kF ah ai [oB rN,oB l6,oB dn,oB iB,oC (lH PD),oB jk] (by kernel_rfl)⟩
        ·
         have D6:=aq jk
         have hres:cg (OP m) E f (.agg [.int .u8 op,.int .i64 n,.str s,.str t,.sl ns,.sl ks])=(.agg [.int .u8 4,.str t,.sl [],.sl []],0):=by
           rw[b9 hz,← kN]
           unfold kj
           rw[if_neg (by omega)]
           rw[if_pos (by omega)]
           rw[if_neg (fun q=>q (aq jk))];rfl
         show ∃_:Unit,KE (cf m) (cB (cf m) _ 2 (.ret (.t (.bX [(cg (OP m) E f (.agg [.int .u8 op,.int .i64 n,.str s,.str t,.sl ns,.sl ks])).1,.int .i64 (cg (OP m) E f (.agg [.int .u8 op,.int .i64 n,.str s,.str t,.sl ns,.sl ks])).2])) [.cells 68 [.t (.sl E.ts),.t (.sl E.ac),.t (.str E.p),.t (.str E.r),.t (.sl E.c),.map (.arg 1)],aI] [])) _ _ _
         rw[hres]
         exact⟨(),kF ah ai [oB rN,oB l6,oB dn,oB iB,oC (lH PD),oB jk,oC (bf Ry (x:=.str t) ⟨_,rfl⟩)] (by kernel_rfl)⟩
       ·
        have qD:=ne_of_beq_false iB
        rcases aK ((op==5)) with xR|xR
        ·
         have Uq:=eq_of_beq xR
         have akI:ev 56 [.ptr (.arg 0) 0,.t (.str s)] [.cells 68 [.t (.sl E.ts),.t (.sl E.ac),.t (.str E.p),.t (.str E.r),.t (.sl E.c),.map (.arg 1)],aI]=some (bG.ret (.t (tE E s)) [.cells 68 [.t (.sl E.ts),.t (.sl E.ac),.t (.str E.p),.t (.str E.r),.t (.sl E.c),.map (.arg 1)],aI] []):=lH aaQ
         have aaR:=NF ⟨lt,ht,la,ha,lc,hc⟩ s
         obtain⟨Zf,Zg,adU,WI,eq_16,ail,aim,ain,aio⟩:=T.aR aaR
         rw[eq_16] at aaR
         have ahc:=akI
         rw[eq_16] at ahc
         have hres:cg (OP m) E f (.agg [.int .u8 op,.int .i64 n,.str s,.str t,.sl ns,.sl ks])=(.agg [.int .u8 Zf,.str Zg,.sl adU,.sl WI],0):=by
           rw[b9 hz,← kN]
           unfold kj
           rw[if_neg (by omega)]
           rw[if_neg (by omega)]
           rw[if_pos (by omega)]
           exact Prod.ext eq_16 rfl
         show ∃_:Unit,KE (cf m) (cB (cf m) _ 2 (.ret (.t (.bX [(cg (OP m) E f (.agg [.int .u8 op,.int .i64 n,.str s,.str t,.sl ns,.sl ks])).1,.int .i64 (cg (OP m) E f (.agg [.int .u8 op,.int .i64 n,.str s,.str t,.sl ns,.sl ks])).2])) [.cells 68 [.t (.sl E.ts),.t (.sl E.ac),.t (.str E.p),.t (.str E.r),.t (.sl E.c),.map (.arg 1)],aI] [])) _ _ _
         rw[hres]
         exact⟨(),kF ah ai [oB rN,oB l6,oB dn,oB iB,oB xR,oC ahc] (by kernel_rfl)⟩
        ·
         have Uq:=ne_of_beq_false xR
         rcases aK ((op==6)) with k6|k6
         ·
          have D7:=eq_of_beq k6
          have akJ:ev 57 [.t (.sl kl)] []=some (bG.ret (.t (.bX [(bI (JF m) gi kl).1,.int .i64 (bI (JF m) gi kl).2])) [] []):=bf ahb ⟨_,rfl,by omega,NI⟩
          have Pk:=wL (JFT m) rQ NI
          obtain⟨wG,wH,Bq,sS,eq_20,YX,YY,YZ,Y0⟩:=T.aR Pk
          rw[eq_20] at Pk
          have adV:=akJ
          rw[eq_20] at adV
          rcases aK (((bI (JF m) gi kl).2 != 0)) with gO|gO
          ·
           have Ei:=aA gO
           have hres:cg (OP m) E f (.agg [.int .u8 op,.int .i64 n,.str s,.str t,.sl ns,.sl ks])=(.agg [.int .u8 0,.str [],.sl [],.sl []],(bI (JF m) gi kl).2):=by
             rw[b9 hz,← kN]
             unfold kj
             rw[if_neg (by omega)]
             rw[if_neg (by omega)]
             rw[if_neg (by omega)]
             rw[if_pos (by omega)]
             show(if(bI (JF m) gi kl).2≠0 then(gi,(bI (JF m) gi kl).2) else(aG 5 [] [(bI (JF m) gi kl).1] [],0))=_
             rw[if_pos (aA gO)];rfl
           show ∃_:Unit,KE (cf m) (cB (cf m) _ 2 (.ret (.t (.bX [(cg (OP m) E f (.agg [.int .u8 op,.int .i64 n,.str s,.str t,.sl ns,.sl ks])).1,.int .i64 (cg (OP m) E f (.agg [.int .u8 op,.int .i64 n,.str s,.str t,.sl ns,.sl ks])).2])) [.cells 68 [.t (.sl E.ts),.t (.sl E.ac),.t (.str E.p),.t (.str E.r),.t (.sl E.c),.map (.arg 1)],aI] [])) _ _ _
           rw[hres]
           exact⟨(),kF ah ai [oB rN,oB l6,oB dn,oB iB,oB xR,oB k6,oC adV,oB gO] (by kernel_rfl)⟩
          ·
           have Ei:=aq gO
           have hres:cg (OP m) E f (.agg [.int .u8 op,.int .i64 n,.str s,.str t,.sl ns,.sl ks])=(.agg [.int .u8 5,.str [],.sl [.agg [.int .u8 wG,.str wH,.sl Bq,.sl sS]],.sl []],0):=by
             rw[b9 hz,← kN]
             unfold kj
             rw[if_neg (by omega)]
             rw[if_neg (by omega)]
             rw[if_neg (by omega)]
             rw[if_pos (by omega)]
             show(if(bI (JF m) gi kl).2≠0 then(gi,(bI (JF m) gi kl).2) else(aG 5 [] [(bI (JF m) gi kl).1] [],0))=_
             rw[if_neg (fun q=>q (aq gO)),eq_20];rfl
           show ∃_:Unit,KE (cf m) (cB (cf m) _ 2 (.ret (.t (.bX [(cg (OP m) E f (.agg [.int .u8 op,.int .i64 n,.str s,.str t,.sl ns,.sl ks])).1,.int .i64 (cg (OP m) E f (.agg [.int .u8 op,.int .i64 n,.str s,.str t,.sl ns,.sl ks])).2])) [.cells 68 [.t (.sl E.ts),.t (.sl E.ac),.t (.str E.p),.t (.str E.r),.t (.sl E.c),.map (.arg 1)],aI] [])) _ _ _
           rw[hres]
           exact⟨(),kF ah ai [oB rN,oB l6,oB dn,oB iB,oB xR,oB k6,oC adV,oB gO] (by kernel_rfl)⟩
         ·
          have D7:=ne_of_beq_false k6
          rcases aK ((op==7)) with Cg|Cg
          ·
           have Vx:=eq_of_beq Cg
           have hnk:ns.length=kl.length:=by rw[hll];exact m2 (eq_of_beq Cg)
           refine eo (f:=0) (n:=3000) (once:=[]) (k:=170) (T:=2) (S:=[.loc [1],.loc [19]]) (ks:=[.loc [1],.loc [19],.arg 0,.arg 1]) (live:=[4,6,14,90,91,92]) ah ai (α:=Nat×List Tree) (fun x=>(match x.2 with| []=>⟨bH 170 [(4,.ptr (.loc [0]) 0),(6,.t (.sl kl)),(14,.ptr (.loc [1]) 0),(90,.t (.sl ns)),(91,.t (.int .i64 ((ns.length:Nat):Int))),(92,.t (.int .i64 ((x.1:Nat):Int)))],[(.loc [0],.cells 38 [.t (.int .u8 0),.t (.str []),.aL,.aL]),(.loc [1],.cells 38 [.t (.int .u8 6),.t (.str []),.aL,.aL]),(.arg 0,.cells 68 [.t (.sl E.ts),.t (.sl E.ac),.t (.str E.p),.t (.str E.r),.t (.sl E.c),.map (.arg 1)]),(.arg 1,aI)],2⟩|_::_=>⟨bH 170 [(4,.ptr (.loc [0]) 0),(6,.t (.sl kl)),(14,.ptr (.loc [1]) 0),(90,.t (.sl ns)),(91,.t (.int .i64 ((ns.length:Nat):Int))),(92,.t (.int .i64 ((x.1:Nat):Int)))],[(.loc [0],.cells 38 [.t (.int .u8 0),.t (.str []),.aL,.aL]),(.loc [1],.cells 38 [.t (.int .u8 6),.t (.str []),.aL,.ref (.loc [2]) 0 x.2.length]),(.loc [2],.arr (45,true) 5 false ((flat x.2).map .t)),(.arg 0,.cells 68 [.t (.sl E.ts),.t (.sl E.ac),.t (.str E.p),.t (.str E.r),.t (.sl E.c),.map (.arg 1)]),(.arg 1,aI)],3⟩)) (fun x=>(x.1≤ns.length)∧(x.2=oq (ns.take x.1) (kl.take x.1))∧(cu true 5 x.2)∧(x.2.length≤x.1)∧(∀y∈x.2,T .bh y)) (fun x=>ns.length - x.1) (⟨0,[]⟩) (iA (Tryz.f19.body.getD .skip) 30) [oB rN,oB l6,oB dn,oB iB,oB xR,oB k6,oB Cg,oN (o:=aI) (fun _=>rfl)] (by kernel_rfl) ⟨Nat.zero_le _,rfl,cu.nil,Nat.le_refl _,fun y hy=>absurd hy (by simp)⟩ (fun x hok=> ?_)
           obtain⟨pn,EH⟩:=x
           replace hok:(pn≤ns.length)∧(EH=oq (ns.take pn) (kl.take pn))∧(cu true 5 EH)∧(EH.length≤pn)∧(∀y∈EH,T .bh y):=hok
           obtain⟨ahd,Ai,EI,ahe,Ln⟩:=hok
           rcases EH with _|⟨sV,sW⟩
           ·
            rcases aK (decide (((pn:Nat):Int)<((ns.length:Nat):Int))) with jl|jl
            ·
             have KM:=of_decide_eq_true jl
             obtain⟨e26,adW⟩:=lC ns pn (by first|omega|(simp;omega))
             have ahf:=(FA e26 (List.mem_of_getElem? adW))
             obtain⟨WJ,rfl⟩:=T.cT ahf
             obtain⟨e28,tR⟩:=lC kl pn (by first|omega|(simp;omega))
             have Pd:=(NI e28 (List.mem_of_getElem? tR))
             obtain⟨Aj,Ak,EJ,vW,rfl,YT,YU,YV,YW⟩:=T.aR Pd
             exact⟨.inl ⟨⟨pn+1,([.agg [.str WJ,.int .u8 Aj,.str Ak,.sl EJ,.sl vW]]:List Tree)⟩,⟨⟨(by show(pn+1)≤ns.length;omega),((congrArg (fun l=>l++[_]) Ai).trans (Ah adW tR)),(by exact(cu.cons ⟨rfl,rfl,rfl⟩ .nil)),(by show([.agg [.str WJ,.int .u8 Aj,.str Ak,.sl EJ,.sl vW]]:List Tree).length≤(pn+1);first|omega|(simp only[List.length_append,List.length_cons,List.length_nil,List.length_singleton] at*;omega)|(simp;done)|(simp;omega)),(fun y hy=>by rw[List.mem_singleton.1 hy];exact Ll _ Pd)⟩,(by show(ns.length - (pn+1))<(ns.length - pn);omega)⟩⟩,bB (f:=0) (n:=3000) (once:=[]) (k:=170) (T:=3) (S:=[.loc [0],.loc [1],.loc [17]]) (ks:=[.loc [0],.loc [1],.loc [17],.arg 0,.arg 1]) (live:=[4,6,14,90,91,92]) ah ai [oB jl,oE adW,oE tR,oU true 5 ([.agg [.str WJ,.int .u8 Aj,.str Ak,.sl EJ,.sl vW]]:List Tree) (cu.cons ⟨rfl,rfl,rfl⟩ cu.nil) (by simp),oA (([.agg [.str WJ,.int .u8 Aj,.str Ak,.sl EJ,.sl vW]]:List Tree).length*88) (by first|omega|(simp only[List.length_append,List.length_cons,List.length_nil,List.length_singleton] at*;omega)|(simp;done)|(simp;omega)),oI (pn) (by omega),oN (o:=.arr (45,true) 5 false ((flat ([.agg [.str WJ,.int .u8 Aj,.str Ak,.sl EJ,.sl vW]]:List Tree)).map .t)) (fun _=>bw),oN (o:=aI) (fun _=>rfl)] (by kernel_rfl)⟩
            ·
             have KM:=of_decide_eq_false jl
             refine kO ah ai [oB jl] (by kernel_rfl) ?_
             refine uR (f:=0) (n:=3000) (once:=[]) (k:=170) (T:=2) (S:=[.loc [0],.loc [1]]) (ks:=[.loc [0],.loc [1],.arg 0,.arg 1]) (live:=[4,6,14,93]) ah ai (Tryz.f19.body.getD .skip) 35 rfl (⟨bH 170 [(4,.ptr (.loc [0]) 0),(6,.t (.sl kl)),(14,.ptr (.loc [1]) 0),(93,.t (.bool (decide (((pn:Nat):Int)<((ns.length:Nat):Int)))))],[(.loc [0],.cells 38 [.t (.int .u8 0),.t (.str []),.aL,.aL]),(.loc [1],.cells 38 [.t (.int .u8 6),.t (.str []),.aL,.aL]),(.arg 0,.cells 68 [.t (.sl E.ts),.t (.sl E.ac),.t (.str E.p),.t (.str E.r),.t (.sl E.c),.map (.arg 1)]),(.arg 1,aI)],2⟩) [oC (show ev 58 [.t (.sl []),.t (.fn (.func 59))] []=some (bG.ret (.t (.bX [])) [] []) from(Pz Ze)),oN (o:=aI) (fun _=>rfl)] (by kernel_rfl) ?_
             refine AX.region ?_
             refine ak.go (f:=0) ai (aS rfl (ld eu rfl rfl)) ?_
             refine ak.lQ (f:=0) ai (br rfl rfl (mX eu rfl rfl)) ?_
             refine ak.go (f:=0) ai (au rfl) ?_
             refine ak.nil ?_
             have hres:cg (OP m) E f (.agg [.int .u8 op,.int .i64 n,.str s,.str t,.sl ns,.sl ks])=(.agg [.int .u8 6,.str [],.sl [],.sl []],0):=by
               rw[b9 hz,← kN]
               unfold kj
               rw[if_neg (by omega)]
               rw[if_neg (by omega)]
               rw[if_neg (by omega)]
               rw[if_neg (by omega)]
               rw[if_pos (by omega)]
               show(aG 6 [] [] (jZ (oq ns kl)),0)=_
               rw[show oq ns kl=[] from(Ai.trans (by rw[List.take_of_length_le (by omega),List.take_of_length_le (by omega)])).symm]
               rw[GG];rfl
             show ∃_:Unit,KE (cf m) (cB (cf m) _ 2 (.ret (.t (.bX [(cg (OP m) E f (.agg [.int .u8 op,.int .i64 n,.str s,.str t,.sl ns,.sl ks])).1,.int .i64 (cg (OP m) E f (.agg [.int .u8 op,.int .i64 n,.str s,.str t,.sl ns,.sl ks])).2])) [.cells 68 [.t (.sl E.ts),.t (.sl E.ac),.t (.str E.p),.t (.str E.r),.t (.sl E.c),.map (.arg 1)],aI] [])) _ _ _
             rw[hres]
             exact⟨(),kF ah ai [] (by kernel_rfl)⟩
           ·
            rcases aK (decide (((pn:Nat):Int)<((ns.length:Nat):Int))) with WK|WK
            ·
             have ahg:=of_decide_eq_true WK
             obtain⟨e31,Ee⟩:=lC ns pn (by first|omega|(simp;omega))
             have ahh:=(FA e31 (List.mem_of_getElem? Ee))
             obtain⟨WL,rfl⟩:=T.cT ahh
             obtain⟨e33,adX⟩:=lC kl pn (by first|omega|(simp;omega))
             have aaS:=(NI e33 (List.mem_of_getElem? adX))
             obtain⟨Al,Am,EK,vX,rfl,aip,aiq,air,ais⟩:=T.aR aaS
             exact⟨.inl ⟨⟨pn+1,(sV::sW)++([.agg [.str WL,.int .u8 Al,.str Am,.sl EK,.sl vX]]:List Tree)⟩,⟨⟨(by show(pn+1)≤ns.length;omega),((congrArg (fun l=>l++[_]) Ai).trans (Ah Ee adX)),(by exact EI.append (cu.cons ⟨rfl,rfl,rfl⟩ .nil)),(by show((sV::sW)++([.agg [.str WL,.int .u8 Al,.str Am,.sl EK,.sl vX]]:List Tree)).length≤(pn+1);first|omega|(simp only[List.length_append,List.length_cons,List.length_nil,List.length_singleton] at*;omega)|(simp;done)|(simp;omega)),(fun y hy=>(List.mem_append.1 hy).elim (fun hy=>Ln y hy) (fun hy=>by rw[List.mem_singleton.1 hy];exact Ll _ aaS))⟩,(by show(ns.length - (pn+1))<(ns.length - pn);omega)⟩⟩,bB (f:=0) (n:=3000) (once:=[]) (k:=170) (T:=3) (S:=[.loc [0],.loc [1],.loc [2]]) (ks:=[.loc [0],.loc [1],.loc [2],.arg 0,.arg 1]) (live:=[4,6,14,90,91,92]) ah ai [oB WK,oE Ee,oE adX,oU true 5 ([.agg [.str WL,.int .u8 Al,.str Am,.sl EK,.sl vX]]:List Tree) (cu.cons ⟨rfl,rfl,rfl⟩ cu.nil) (by simp),oW true 5 (sV::sW) EI,oA (((sV::sW).length+([.agg [.str WL,.int .u8 Al,.str Am,.sl EK,.sl vX]]:List Tree).length) *88) (by first|omega|(simp only[List.length_append,List.length_cons,List.length_nil,List.length_singleton] at*;omega)|(simp;done)|(simp;omega)),oI (pn) (by omega),oN (o:=.arr (45,true) 5 false ((flat ((sV::sW)++([.agg [.str WL,.int .u8 Al,.str Am,.sl EK,.sl vX]]:List Tree))).map .t)) (fun _=>bw),oN (o:=aI) (fun _=>rfl)] (by kernel_rfl)⟩
            ·
             have ahg:=of_decide_eq_false WK
             refine kO ah ai [oB WK] (by kernel_rfl) ?_
             refine uR (f:=0) (n:=3000) (once:=[]) (k:=170) (T:=3) (S:=[.loc [0],.loc [1],.loc [2]]) (ks:=[.loc [0],.loc [1],.loc [2],.arg 0,.arg 1]) (live:=[4,6,14,93]) ah ai (Tryz.f19.body.getD .skip) 34 rfl (⟨bH 170 [(4,.ptr (.loc [0]) 0),(6,.t (.sl kl)),(14,.ptr (.loc [1]) 0),(93,.t (.bool (decide (((pn:Nat):Int)<((ns.length:Nat):Int)))))],[(.loc [0],.cells 38 [.t (.int .u8 0),.t (.str []),.aL,.aL]),(.loc [1],.cells 38 [.t (.int .u8 6),.t (.str []),.aL,.ref (.loc [2]) 0 ((sV::sW).length)]),(.loc [2],.arr (45,true) 5 false ((flat (sV::sW)).map .t)),(.arg 0,.cells 68 [.t (.sl E.ts),.t (.sl E.ac),.t (.str E.p),.t (.str E.r),.t (.sl E.c),.map (.arg 1)]),(.arg 1,aI)],3⟩) [oN (o:=.arr (45,true) 5 false ((flat (sV::sW)).map .t)) (fun _=>bw),oN (o:=aI) (fun _=>rfl)] (by kernel_rfl) ?_
             refine AX.region ?_
             refine ak.go (f:=0) ai (aB rfl iM rfl) ?_
             refine ak.go (f:=0) ai (aS rfl (ld iH rfl rfl)) ?_
             refine ak.J5 (S:=[.loc [2]]) ai (eU rfl) (by decide) rfl (zj rfl) (PB Ze (by simp) (by omega) Ln) rfl J6 rfl ?_
             refine ak.nil ?_
             refine uR (f:=0) (n:=3000) (once:=[]) (k:=170) (T:=3) (S:=[.loc [0],.loc [1],.loc [2]]) (ks:=[.loc [0],.loc [1],.loc [2],.arg 0,.arg 1]) (live:=[4,6,14,93]) ah ai (Tryz.f19.body.getD .skip) 35 rfl (⟨bH 170 [(4,.ptr (.loc [0]) 0),(6,.t (.sl kl)),(14,.ptr (.loc [1]) 0),(93,.t (.bool (decide (((pn:Nat):Int)<((ns.length:Nat):Int)))))],[(.loc [0],.cells 38 [.t (.int .u8 0),.t (.str []),.aL,.aL]),(.loc [1],.cells 38 [.t (.int .u8 6),.t (.str []),.aL,.ref (.loc [2]) 0 ((sV::sW).length)]),(.loc [2],.arr (45,true) 5 false ((flat (jZ (sV::sW))).map .t)),(.arg 0,.cells 68 [.t (.sl E.ts),.t (.sl E.ac),.t (.str E.p),.t (.str E.r),.t (.sl E.c),.map (.arg 1)]),(.arg 1,aI)],3⟩) [oN (o:=.arr (45,true) 5 false ((flat (jZ (sV::sW))).map .t)) (fun _=>bw),oN (o:=aI) (fun _=>rfl)] (by kernel_rfl) ?_
             refine AX.re (Re.zk (k:=.loc [1]) (m:=1) 3 rfl rfl (kZ rfl (GF EI) (by decide) (jJ _).symm rfl)) ?_
             refine AX.region ?_
             refine ak.go (f:=0) ai (aS rfl (ld eu rfl rfl)) ?_
             refine ak.lQ (f:=0) ai (br rfl rfl (mX eu rfl rfl)) ?_
             refine ak.go (f:=0) ai (au rfl) ?_
             refine ak.nil ?_
             have hres:cg (OP m) E f (.agg [.int .u8 op,.int .i64 n,.str s,.str t,.sl ns,.sl ks])=(.agg [.int .u8 6,.str [],.sl [],.sl (jZ (sV::sW))],0):=by
               rw[b9 hz,← kN]
               unfold kj
               rw[if_neg (by omega)]
               rw[if_neg (by omega)]
               rw[if_neg (by omega)]
               rw[if_neg (by omega)]
               rw[if_pos (by omega)]
               show(aG 6 [] [] (jZ (oq ns kl)),0)=_
               rw[show oq ns kl=(sV::sW) from(Ai.trans (by rw[List.take_of_length_le (by omega),List.take_of_length_le (by omega)])).symm]
               rfl
             show ∃_:Unit,KE (cf m) (cB (cf m) _ 2 (.ret (.t (.bX [(cg (OP m) E f (.agg [.int .u8 op,.int .i64 n,.str s,.str t,.sl ns,.sl ks])).1,.int .i64 (cg (OP m) E f (.agg [.int .u8 op,.int .i64 n,.str s,.str t,.sl ns,.sl ks])).2])) [.cells 68 [.t (.sl E.ts),.t (.sl E.ac),.t (.str E.p),.t (.str E.r),.t (.sl E.c),.map (.arg 1)],aI] [])) _ _ _
             rw[hres]
             exact⟨(),kF ah ai [] (by kernel_rfl)⟩
          ·
           have Vx:=ne_of_beq_false Cg
           rcases aK ((op==8)) with Ef|Ef
           ·
            have UA:=eq_of_beq Ef
            exact absurd h0 (by omega)
           ·
            have UA:=ne_of_beq_false Ef
            rcases aK ((op==14)) with Iv|Iv
            ·
             have VB:=eq_of_beq Iv
             exact absurd h0 (by omega)
            ·
             have VB:=ne_of_beq_false Iv
             exact absurd h0 (by omega)
  ·
   rcases aK (decide (((i_1:Nat):Int)<((ks.length:Nat):Int))) with nL|nL
   ·
    have U9:=of_decide_eq_true nL
    obtain⟨e38,Lp⟩:=lC ks i_1 (by first|omega|(simp;omega))
    have ahi:=(hks e38 (List.mem_of_getElem? Lp))
    obtain⟨EL,NJ,NK,EM,qO,uk,rfl,ait,aiu,aiv,aiw⟩:=T.eB ahi
    have akK:ev 19 [.ptr (.arg 0) 0,.t (.agg [.int .u8 EL,.int .i64 NJ,.str NK,.str EM,.sl qO,.sl uk])] [.cells 68 [.t (.sl E.ts),.t (.sl E.ac),.t (.str E.p),.t (.str E.r),.t (.sl E.c),.map (.arg 1)],aI]=some (bG.ret (.t (.bX [(f (.agg [.int .u8 EL,.int .i64 NJ,.str NK,.str EM,.sl qO,.sl uk])).1,.int .i64 (f (.agg [.int .u8 EL,.int .i64 NJ,.str NK,.str EM,.sl qO,.sl uk])).2])) [.cells 68 [.t (.sl E.ts),.t (.sl E.ac),.t (.str E.p),.t (.str E.r),.t (.sl E.c),.map (.arg 1)],aI] []):=X9 e_self [(.agg [.int .u8 EL,.int .i64 NJ,.str NK,.str EM,.sl qO,.sl uk])] ⟨_,(List.mem_of_getElem? Lp),rfl⟩
    have WM:=(hf _ (List.mem_of_getElem? Lp)).2
    obtain⟨Ao,Ap,EN,vY,eq_41,aix,aiy,aiz,aiA⟩:=T.aR WM
    rw[eq_41] at WM
    have adY:=akK
    rw[eq_41] at adY
    rcases aK (((f (.agg [.int .u8 EL,.int .i64 NJ,.str NK,.str EM,.sl qO,.sl uk])).2 != 0)) with pI|pI
    ·
     have Va:=aA pI
     refine kO ah ai [oB nL,oE Lp,oC adY,oB pI] (by kernel_rfl) ?_
     have hfe:jb f ks=(f (.agg [.int .u8 EL,.int .i64 NJ,.str NK,.str EM,.sl qO,.sl uk])).2:=A3 (fun j hj y hy=>wO j hj y hy) Lp (aA pI)
     have hres:cg (OP m) E f (.agg [.int .u8 op,.int .i64 n,.str s,.str t,.sl ns,.sl ks])=(.agg [.int .u8 0,.str [],.sl [],.sl []],(f (.agg [.int .u8 EL,.int .i64 NJ,.str NK,.str EM,.sl qO,.sl uk])).2):=by
       rw[Dl (by rw[hfe];exact aA pI),hfe];rfl
     show ∃_:Unit,KE (cf m) (cB (cf m) _ 2 (.ret (.t (.bX [(cg (OP m) E f (.agg [.int .u8 op,.int .i64 n,.str s,.str t,.sl ns,.sl ks])).1,.int .i64 (cg (OP m) E f (.agg [.int .u8 op,.int .i64 n,.str s,.str t,.sl ns,.sl ks])).2])) [.cells 68 [.t (.sl E.ts),.t (.sl E.ac),.t (.str E.p),.t (.str E.r),.t (.sl E.c),.map (.arg 1)],aI] [])) _ _ _
     rw[hres]
     exact⟨(),kF ah ai [] (by kernel_rfl)⟩
    ·
     have Va:=aq pI
     exact⟨.inl ⟨⟨i_1+1,(dX::dY)++([.agg [.int .u8 Ao,.str Ap,.sl EN,.sl vY]]:List Tree)⟩,⟨⟨(by show(i_1+1)≤ks.length;omega),((congrArg (fun l=>l++[_]) bN).trans (Py Lp eq_41)),(by exact gW.append (cu.cons ⟨rfl,rfl,rfl⟩ .nil)),(by show((dX::dY)++([.agg [.int .u8 Ao,.str Ap,.sl EN,.sl vY]]:List Tree)).length≤(i_1+1);first|omega|(simp only[List.length_append,List.length_cons,List.length_nil,List.length_singleton] at*;omega)|(simp;done)|(simp;omega)),(jM (G:=fun y=>(f y).2=0) Lp (aq pI) wO),(fun y hy=>(List.mem_append.1 hy).elim (fun hy=>IQ y hy) (fun hy=>by rw[List.mem_singleton.1 hy];exact WM))⟩,(by show(ks.length - (i_1+1))<(ks.length - i_1);omega)⟩⟩,bB (f:=0) (n:=3000) (once:=[]) (k:=170) (T:=3) (S:=[.loc [0],.loc [1],.loc [2]]) (ks:=[.loc [0],.loc [1],.loc [2],.arg 0,.arg 1]) (live:=[0,3,4,6,19,20,21]) ah ai [oB nL,oE Lp,oC adY,oB pI,oU true 4 ([.agg [.int .u8 Ao,.str Ap,.sl EN,.sl vY]]:List Tree) (cu.cons ⟨rfl,rfl,rfl⟩ cu.nil) (by simp),oW true 4 (dX::dY) gW,oA (((dX::dY).length+([.agg [.int .u8 Ao,.str Ap,.sl EN,.sl vY]]:List Tree).length) *72) (by first|omega|(simp only[List.length_append,List.length_cons,List.length_nil,List.length_singleton] at*;omega)|(simp;done)|(simp;omega)),oI (i_1) (by omega),oN (o:=.arr (38,true) 4 false ((flat ((dX::dY)++([.agg [.int .u8 Ao,.str Ap,.sl EN,.sl vY]]:List Tree))).map .t)) (fun _=>bw),oN (o:=aI) (fun _=>rfl)] (by kernel_rfl)⟩
   ·
    have U9:=of_decide_eq_false nL
    refine kO ah ai [oB nL] (by kernel_rfl) ?_
    refine uR (f:=0) (n:=3000) (once:=[]) (k:=170) (T:=3) (S:=[.loc [0],.loc [1],.loc [2]]) (ks:=[.loc [0],.loc [1],.loc [2],.arg 0,.arg 1]) (live:=[0,3,4,6,22]) ah ai (Tryz.f19.body.getD .skip) 10 rfl (⟨bH 170 [(0,.ptr (.arg 0) 0),(3,.ptr (.loc [0]) 0),(4,.ptr (.loc [1]) 0),(6,.ref (.loc [2]) 0 ((dX::dY).length)),(22,.t (.bool (decide (((i_1:Nat):Int)<((ks.length:Nat):Int)))))],[(.loc [0],.cells 26 [.t (.int .u8 op),.t (.int .i64 n),.t (.str s),.t (.str t),.t (.sl ns),.t (.sl ks)]),(.loc [1],.cells 38 [.t (.int .u8 0),.t (.str []),.aL,.aL]),(.loc [2],.arr (38,true) 4 false ((flat (dX::dY)).map .t)),(.arg 0,.cells 68 [.t (.sl E.ts),.t (.sl E.ac),.t (.str E.p),.t (.str E.r),.t (.sl E.c),.map (.arg 1)]),(.arg 1,aI)],3⟩) [oN (o:=.arr (38,true) 4 false ((flat (dX::dY)).map .t)) (fun _=>bw),oN (o:=aI) (fun _=>rfl)] (by kernel_rfl) ?_
    refine AX.re (Re.pV (m:=1) 6 rfl (kZ rfl gW (by decide) (by first|rfl|(simp;done)|(simp;omega)) rfl)) ?_
    refine AX.re (st':=⟨bH 170 [(0,.ptr (.arg 0) 0),(3,.ptr (.loc [0]) 0),(4,.ptr (.loc [1]) 0),(6,.t (.sl (dX::dY))),(22,.t (.bool (decide (((i_1:Nat):Int)<((ks.length:Nat):Int)))))],[(.loc [0],.cells 26 [.t (.int .u8 op),.t (.int .i64 n),.t (.str s),.t (.str t),.t (.sl ns),.t (.sl ks)]),(.loc [1],.cells 38 [.t (.int .u8 0),.t (.str []),.aL,.aL]),(.arg 0,.cells 68 [.t (.sl E.ts),.t (.sl E.ac),.t (.str E.p),.t (.str E.r),.t (.sl E.c),.map (.arg 1)]),(.arg 1,aI)],2⟩) (Re.sq [.loc [0],.loc [1]] ⟨rfl,rfl,rfl,rfl,rfl,trivial⟩ ⟨⟨.loc [0],_,rfl,rfl,.inl rfl⟩,⟨.loc [1],_,rfl,rfl,.inl rfl⟩,⟨.arg 0,_,rfl,rfl,.inl rfl⟩,⟨.arg 1,_,rfl,rfl,.inl rfl⟩,trivial⟩ (by decide) rfl rfl (by decide)) ?_
    have hkl:((dX::dY):List Tree)=ks.map (fun k=>(f k).1):=bN.trans (by rw[List.take_of_length_le (by omega)])
    obtain⟨kl,kN⟩:∃kl,kl=ks.map (fun k=>(f k).1):=⟨_,rfl⟩
    refine AX.re (st':=⟨bH 170 [(0,.ptr (.arg 0) 0),(3,.ptr (.loc [0]) 0),(4,.ptr (.loc [1]) 0),(6,.t (.sl kl)),(22,.t (.bool (decide (((i_1:Nat):Int)<((ks.length:Nat):Int)))))],[(.loc [0],.cells 26 [.t (.int .u8 op),.t (.int .i64 n),.t (.str s),.t (.str t),.t (.sl ns),.t (.sl ks)]),(.loc [1],.cells 38 [.t (.int .u8 0),.t (.str []),.aL,.aL]),(.arg 0,.cells 68 [.t (.sl E.ts),.t (.sl E.ac),.t (.str E.p),.t (.str E.r),.t (.sl E.c),.map (.arg 1)]),(.arg 1,aI)],2⟩) (by rw[kN,← hkl];exact Re.refl _) ?_
    have hll:kl.length=ks.length:=by rw[kN,List.length_map]
    have NI:∀y∈kl,T .aD y:=by rw[kN,← hkl];exact IQ
    have hz:jb f ks=0:=wA (k7 (G:=fun y=>(f y).2=0) (l:=ks) (fun j hj=>wO j (by omega)))
    obtain⟨m1,m2,m3,m4⟩:=hM
    refine AX.region ?_
    refine ak.go (f:=0) ai (aB rfl WG rfl) ?_
    refine ak.go (f:=0) ai (cN rfl (ld adN rfl rfl)) ?_
    refine ak.nil ?_
    rcases aK ((op==1)) with r5|r5
    ·
     have ahj:=eq_of_beq r5
     have hres:cg (OP m) E f (.agg [.int .u8 op,.int .i64 n,.str s,.str t,.sl ns,.sl ks])=(.agg [.int .u8 (IntKind.wrap .u8 (1+(IntKind.wrap .u8 (op - 1)))),.str [],.sl [],.sl []],0):=by
       rw[b9 hz,← kN]
       unfold kj
       rw[if_pos (by omega)]
       rw[show op=1 from eq_of_beq r5];rfl
     show ∃_:Unit,KE (cf m) (cB (cf m) _ 2 (.ret (.t (.bX [(cg (OP m) E f (.agg [.int .u8 op,.int .i64 n,.str s,.str t,.sl ns,.sl ks])).1,.int .i64 (cg (OP m) E f (.agg [.int .u8 op,.int .i64 n,.str s,.str t,.sl ns,.sl ks])).2])) [.cells 68 [.t (.sl E.ts),.t (.sl E.ac),.t (.str E.p),.t (.str E.r),.t (.sl E.c),.map (.arg 1)],aI] [])) _ _ _
     rw[hres]
     exact⟨(),kF ah ai [oB r5,oB r5,oZ,oZ] (by kernel_rfl)⟩
    ·
     have ahj:=ne_of_beq_false r5
     rcases aK ((op==2)) with k9|k9
     ·
      have Vb:=eq_of_beq k9
      have hres:cg (OP m) E f (.agg [.int .u8 op,.int .i64 n,.str s,.str t,.sl ns,.sl ks])=(.agg [.int .u8 (IntKind.wrap .u8 (1+(IntKind.wrap .u8 (op - 1)))),.str [],.sl [],.sl []],0):=by
        rw[b9 hz,← kN]
        unfold kj
        rw[if_pos (by omega)]
        rw[show op=2 from eq_of_beq k9];rfl
      show ∃_:Unit,KE (cf m) (cB (cf m) _ 2 (.ret (.t (.bX [(cg (OP m) E f (.agg [.int .u8 op,.int .i64 n,.str s,.str t,.sl ns,.sl ks])).1,.int .i64 (cg (OP m) E f (.agg [.int .u8 op,.int .i64 n,.str s,.str t,.sl ns,.sl ks])).2])) [.cells 68 [.t (.sl E.ts),.t (.sl E.ac),.t (.str E.p),.t (.str E.r),.t (.sl E.c),.map (.arg 1)],aI] [])) _ _ _
      rw[hres]
      exact⟨(),kF ah ai [oB r5,oB k9,oB k9,oZ,oZ] (by kernel_rfl)⟩
     ·
      have Vb:=ne_of_beq_false k9
      rcases aK ((op==3)) with uN|uN
      ·
       have ahk:=eq_of_beq uN
       have hres:cg (OP m) E f (.agg [.int .u8 op,.int .i64 n,.str s,.str t,.sl ns,.sl ks])=(.agg [.int .u8 (IntKind.wrap .u8 (1+(IntKind.wrap .u8 (op - 1)))),.str [],.sl [],.sl []],0):=by
         rw[b9 hz,← kN]
         unfold kj
         rw[if_pos (by omega)]
         rw[show op=3 from eq_of_beq uN];rfl
       show ∃_:Unit,KE (cf m) (cB (cf m) _ 2 (.ret (.t (.bX [(cg (OP m) E f (.agg [.int .u8 op,.int .i64 n,.str s,.str t,.sl ns,.sl ks])).1,.int .i64 (cg (OP m) E f (.agg [.int .u8 op,.int .i64 n,.str s,.str t,.sl ns,.sl ks])).2])) [.cells 68 [.t (.sl E.ts),.t (.sl E.ac),.t (.str E.p),.t (.str E.r),.t (.sl E.c),.map (.arg 1)],aI] [])) _ _ _
       rw[hres]
       exact⟨(),kF ah ai [oB r5,oB k9,oB uN,oZ,oZ] (by kernel_rfl)⟩
      ·
       have ahk:=ne_of_beq_false uN
       rcases aK ((op==4)) with oD|oD
       ·
        have Vc:=eq_of_beq oD
        rcases aK (((vu E t s) != 0)) with NL|NL
        ·
         have ahl:=aA NL
         have hres:cg (OP m) E f (.agg [.int .u8 op,.int .i64 n,.str s,.str t,.sl ns,.sl ks])=(.agg [.int .u8 0,.str [],.sl [],.sl []],(vu E t s)):=by
           rw[b9 hz,← kN]
           unfold kj
           rw[if_neg (by omega)]
           rw[if_pos (by omega)]
           rw[if_pos (aA NL)];rfl
         show ∃_:Unit,KE (cf m) (cB (cf m) _ 2 (.ret (.t (.bX [(cg (OP m) E f (.agg [.int .u8 op,.int .i64 n,.str s,.str t,.sl ns,.sl ks])).1,.int .i64 (cg (OP m) E f (.agg [.int .u8 op,.int .i64 n,.str s,.str t,.sl ns,.sl ks])).2])) [.cells 68 [.t (.sl E.ts),.t (.sl E.ac),.t (.str E.p),.t (.str E.r),.t (.sl E.c),.map (.arg 1)],aI] [])) _ _ _
         rw[hres]
         exact⟨(),kF ah ai [oB r5,oB k9,oB uN,oB oD,oC (lH PD),oB NL] (by kernel_rfl)⟩
        ·
         have ahl:=aq NL
         have hres:cg (OP m) E f (.agg [.int .u8 op,.int .i64 n,.str s,.str t,.sl ns,.sl ks])=(.agg [.int .u8 4,.str t,.sl [],.sl []],0):=by
           rw[b9 hz,← kN]
           unfold kj
           rw[if_neg (by omega)]
           rw[if_pos (by omega)]
           rw[if_neg (fun q=>q (aq NL))];rfl
         show ∃_:Unit,KE (cf m) (cB (cf m) _ 2 (.ret (.t (.bX [(cg (OP m) E f (.agg [.int .u8 op,.int .i64 n,.str s,.str t,.sl ns,.sl ks])).1,.int .i64 (cg (OP m) E f (.agg [.int .u8 op,.int .i64 n,.str s,.str t,.sl ns,.sl ks])).2])) [.cells 68 [.t (.sl E.ts),.t (.sl E.ac),.t (.str E.p),.t (.str E.r),.t (.sl E.c),.map (.arg 1)],aI] [])) _ _ _
         rw[hres]
         exact⟨(),kF ah ai [oB r5,oB k9,oB uN,oB oD,oC (lH PD),oB NL,oC (bf Ry (x:=.str t) ⟨_,rfl⟩)] (by kernel_rfl)⟩
       ·
        have Vc:=ne_of_beq_false oD
        rcases aK ((op==5)) with Aq|Aq
        ·
         have ahm:=eq_of_beq Aq
         have akL:ev 56 [.ptr (.arg 0) 0,.t (.str s)] [.cells 68 [.t (.sl E.ts),.t (.sl E.ac),.t (.str E.p),.t (.str E.r),.t (.sl E.c),.map (.arg 1)],aI]=some (bG.ret (.t (tE E s)) [.cells 68 [.t (.sl E.ts),.t (.sl E.ac),.t (.str E.p),.t (.str E.r),.t (.sl E.c),.map (.arg 1)],aI] []):=lH aaQ
         have aaT:=NF ⟨lt,ht,la,ha,lc,hc⟩ s
         obtain⟨Zh,Zi,adZ,WN,WO,aiB,aiC,aiD,aiE⟩:=T.aR aaT
         rw[WO] at aaT
         have ahn:=akL
         rw[WO] at ahn
         have hres:cg (OP m) E f (.agg [.int .u8 op,.int .i64 n,.str s,.str t,.sl ns,.sl ks])=(.agg [.int .u8 Zh,.str Zi,.sl adZ,.sl WN],0):=by
           rw[b9 hz,← kN]
           unfold kj
           rw[if_neg (by omega)]
           rw[if_neg (by omega)]
           rw[if_pos (by omega)]
           exact Prod.ext WO rfl
         show ∃_:Unit,KE (cf m) (cB (cf m) _ 2 (.ret (.t (.bX [(cg (OP m) E f (.agg [.int .u8 op,.int .i64 n,.str s,.str t,.sl ns,.sl ks])).1,.int .i64 (cg (OP m) E f (.agg [.int .u8 op,.int .i64 n,.str s,.str t,.sl ns,.sl ks])).2])) [.cells 68 [.t (.sl E.ts),.t (.sl E.ac),.t (.str E.p),.t (.str E.r),.t (.sl E.c),.map (.arg 1)],aI] [])) _ _ _
         rw[hres]
         exact⟨(),kF ah ai [oB r5,oB k9,oB uN,oB oD,oB Aq,oC ahn] (by kernel_rfl)⟩
        ·
         have ahm:=ne_of_beq_false Aq
         rcases aK ((op==6)) with Bz|Bz
         ·
          have aho:=eq_of_beq Bz
          have akM:ev 57 [.t (.sl kl)] []=some (bG.ret (.t (.bX [(bI (JF m) gi kl).1,.int .i64 (bI (JF m) gi kl).2])) [] []):=bf ahb ⟨_,rfl,by omega,NI⟩
          have aaU:=wL (JFT m) rQ NI
          obtain⟨Zj,Zk,ad0,WQ,WR,aiF,aiG,aiH,aiI⟩:=T.aR aaU
          rw[WR] at aaU
          have ad1:=akM
          rw[WR] at ad1
          rcases aK (((bI (JF m) gi kl).2 != 0)) with NM|NM
          ·
           have ahp:=aA NM
           have hres:cg (OP m) E f (.agg [.int .u8 op,.int .i64 n,.str s,.str t,.sl ns,.sl ks])=(.agg [.int .u8 0,.str [],.sl [],.sl []],(bI (JF m) gi kl).2):=by
             rw[b9 hz,← kN]
             unfold kj
             rw[if_neg (by omega)]
             rw[if_neg (by omega)]
             rw[if_neg (by omega)]
             rw[if_pos (by omega)]
             show(if(bI (JF m) gi kl).2≠0 then(gi,(bI (JF m) gi kl).2) else(aG 5 [] [(bI (JF m) gi kl).1] [],0))=_
             rw[if_pos (aA NM)];rfl
           show ∃_:Unit,KE (cf m) (cB (cf m) _ 2 (.ret (.t (.bX [(cg (OP m) E f (.agg [.int .u8 op,.int .i64 n,.str s,.str t,.sl ns,.sl ks])).1,.int .i64 (cg (OP m) E f (.agg [.int .u8 op,.int .i64 n,.str s,.str t,.sl ns,.sl ks])).2])) [.cells 68 [.t (.sl E.ts),.t (.sl E.ac),.t (.str E.p),.t (.str E.r),.t (.sl E.c),.map (.arg 1)],aI] [])) _ _ _
           rw[hres]
           exact⟨(),kF ah ai [oB r5,oB k9,oB uN,oB oD,oB Aq,oB Bz,oC ad1,oB NM] (by kernel_rfl)⟩
          ·
           have ahp:=aq NM
           have hres:cg (OP m) E f (.agg [.int .u8 op,.int .i64 n,.str s,.str t,.sl ns,.sl ks])=(.agg [.int .u8 5,.str [],.sl [.agg [.int .u8 Zj,.str Zk,.sl ad0,.sl WQ]],.sl []],0):=by
             rw[b9 hz,← kN]
             unfold kj
             rw[if_neg (by omega)]
             rw[if_neg (by omega)]
             rw[if_neg (by omega)]
             rw[if_pos (by omega)]
             show(if(bI (JF m) gi kl).2≠0 then(gi,(bI (JF m) gi kl).2) else(aG 5 [] [(bI (JF m) gi kl).1] [],0))=_
             rw[if_neg (fun q=>q (aq NM)),WR];rfl
           show ∃_:Unit,KE (cf m) (cB (cf m) _ 2 (.ret (.t (.bX [(cg (OP m) E f (.agg [.int .u8 op,.int .i64 n,.str s,.str t,.sl ns,.sl ks])).1,.int .i64 (cg (OP m) E f (.agg [.int .u8 op,.int .i64 n,.str s,.str t,.sl ns,.sl ks])).2])) [.cells 68 [.t (.sl E.ts),.t (.sl E.ac),.t (.str E.p),.t (.str E.r),.t (.sl E.c),.map (.arg 1)],aI] [])) _ _ _
           rw[hres]
           exact⟨(),kF ah ai [oB r5,oB k9,oB uN,oB oD,oB Aq,oB Bz,oC ad1,oB NM] (by kernel_rfl)⟩
         ·
          have aho:=ne_of_beq_false Bz
          rcases aK ((op==7)) with Ch|Ch
          ·
           have ahq:=eq_of_beq Ch
           have hnk:ns.length=kl.length:=by rw[hll];exact m2 (eq_of_beq Ch)
           refine eo (f:=0) (n:=3000) (once:=[]) (k:=170) (T:=2) (S:=[.loc [1],.loc [19]]) (ks:=[.loc [1],.loc [19],.arg 0,.arg 1]) (live:=[4,6,14,90,91,92]) ah ai (α:=Nat×List Tree) (fun x=>(match x.2 with| []=>⟨bH 170 [(4,.ptr (.loc [0]) 0),(6,.t (.sl kl)),(14,.ptr (.loc [1]) 0),(90,.t (.sl ns)),(91,.t (.int .i64 ((ns.length:Nat):Int))),(92,.t (.int .i64 ((x.1:Nat):Int)))],[(.loc [0],.cells 38 [.t (.int .u8 0),.t (.str []),.aL,.aL]),(.loc [1],.cells 38 [.t (.int .u8 6),.t (.str []),.aL,.aL]),(.arg 0,.cells 68 [.t (.sl E.ts),.t (.sl E.ac),.t (.str E.p),.t (.str E.r),.t (.sl E.c),.map (.arg 1)]),(.arg 1,aI)],2⟩|_::_=>⟨bH 170 [(4,.ptr (.loc [0]) 0),(6,.t (.sl kl)),(14,.ptr (.loc [1]) 0),(90,.t (.sl ns)),(91,.t (.int .i64 ((ns.length:Nat):Int))),(92,.t (.int .i64 ((x.1:Nat):Int)))],[(.loc [0],.cells 38 [.t (.int .u8 0),.t (.str []),.aL,.aL]),(.loc [1],.cells 38 [.t (.int .u8 6),.t (.str []),.aL,.ref (.loc [2]) 0 x.2.length]),(.loc [2],.arr (45,true) 5 false ((flat x.2).map .t)),(.arg 0,.cells 68 [.t (.sl E.ts),.t (.sl E.ac),.t (.str E.p),.t (.str E.r),.t (.sl E.c),.map (.arg 1)]),(.arg 1,aI)],3⟩)) (fun x=>(x.1≤ns.length)∧(x.2=oq (ns.take x.1) (kl.take x.1))∧(cu true 5 x.2)∧(x.2.length≤x.1)∧(∀y∈x.2,T .bh y)) (fun x=>ns.length - x.1) (⟨0,[]⟩) (iA (Tryz.f19.body.getD .skip) 30) [oB r5,oB k9,oB uN,oB oD,oB Aq,oB Bz,oB Ch,oN (o:=aI) (fun _=>rfl)] (by kernel_rfl) ⟨Nat.zero_le _,rfl,cu.nil,Nat.le_refl _,fun y hy=>absurd hy (by simp)⟩ (fun x hok=> ?_)
           obtain⟨pq,EO⟩:=x
           replace hok:(pq≤ns.length)∧(EO=oq (ns.take pq) (kl.take pq))∧(cu true 5 EO)∧(EO.length≤pq)∧(∀y∈EO,T .bh y):=hok
           obtain⟨ahr,Ar,EP,ahs,Lq⟩:=hok
           rcases EO with _|⟨sX,sY⟩
           ·
            rcases aK (decide (((pq:Nat):Int)<((ns.length:Nat):Int))) with WS|WS
            ·
             have aht:=of_decide_eq_true WS
             obtain⟨e61,ad2⟩:=lC ns pq (by first|omega|(simp;omega))
             have ahu:=(FA e61 (List.mem_of_getElem? ad2))
             obtain⟨WT,rfl⟩:=T.cT ahu
             obtain⟨e63,ad3⟩:=lC kl pq (by first|omega|(simp;omega))
             have aaV:=(NI e63 (List.mem_of_getElem? ad3))
             obtain⟨Au,Av,ER,vZ,rfl,aiJ,aiK,aiL,aiM⟩:=T.aR aaV
             exact⟨.inl ⟨⟨pq+1,([.agg [.str WT,.int .u8 Au,.str Av,.sl ER,.sl vZ]]:List Tree)⟩,⟨⟨(by show(pq+1)≤ns.length;omega),((congrArg (fun l=>l++[_]) Ar).trans (Ah ad2 ad3)),(by exact(cu.cons ⟨rfl,rfl,rfl⟩ .nil)),(by show([.agg [.str WT,.int .u8 Au,.str Av,.sl ER,.sl vZ]]:List Tree).length≤(pq+1);first|omega|(simp only[List.length_append,List.length_cons,List.length_nil,List.length_singleton] at*;omega)|(simp;done)|(simp;omega)),(fun y hy=>by rw[List.mem_singleton.1 hy];exact Ll _ aaV)⟩,(by show(ns.length - (pq+1))<(ns.length - pq);omega)⟩⟩,bB (f:=0) (n:=3000) (once:=[]) (k:=170) (T:=3) (S:=[.loc [0],.loc [1],.loc [17]]) (ks:=[.loc [0],.loc [1],.loc [17],.arg 0,.arg 1]) (live:=[4,6,14,90,91,92]) ah ai [oB WS,oE ad2,oE ad3,oU true 5 ([.agg [.str WT,.int .u8 Au,.str Av,.sl ER,.sl vZ]]:List Tree) (cu.cons ⟨rfl,rfl,rfl⟩ cu.nil) (by simp),oA (([.agg [.str WT,.int .u8 Au,.str Av,.sl ER,.sl vZ]]:List Tree).length*88) (by first|omega|(simp only[List.length_append,List.length_cons,List.length_nil,List.length_singleton] at*;omega)|(simp;done)|(simp;omega)),oI (pq) (by omega),oN (o:=.arr (45,true) 5 false ((flat ([.agg [.str WT,.int .u8 Au,.str Av,.sl ER,.sl vZ]]:List Tree)).map .t)) (fun _=>bw),oN (o:=aI) (fun _=>rfl)] (by kernel_rfl)⟩
            ·
             have aht:=of_decide_eq_false WS
             refine kO ah ai [oB WS] (by kernel_rfl) ?_
             refine uR (f:=0) (n:=3000) (once:=[]) (k:=170) (T:=2) (S:=[.loc [0],.loc [1]]) (ks:=[.loc [0],.loc [1],.arg 0,.arg 1]) (live:=[4,6,14,93]) ah ai (Tryz.f19.body.getD .skip) 35 rfl (⟨bH 170 [(4,.ptr (.loc [0]) 0),(6,.t (.sl kl)),(14,.ptr (.loc [1]) 0),(93,.t (.bool (decide (((pq:Nat):Int)<((ns.length:Nat):Int)))))],[(.loc [0],.cells 38 [.t (.int .u8 0),.t (.str []),.aL,.aL]),(.loc [1],.cells 38 [.t (.int .u8 6),.t (.str []),.aL,.aL]),(.arg 0,.cells 68 [.t (.sl E.ts),.t (.sl E.ac),.t (.str E.p),.t (.str E.r),.t (.sl E.c),.map (.arg 1)]),(.arg 1,aI)],2⟩) [oC (show ev 58 [.t (.sl []),.t (.fn (.func 59))] []=some (bG.ret (.t (.bX [])) [] []) from(Pz Ze)),oN (o:=aI) (fun _=>rfl)] (by kernel_rfl) ?_
             refine AX.region ?_
             refine ak.go (f:=0) ai (aS rfl (ld eu rfl rfl)) ?_
             refine ak.lQ (f:=0) ai (br rfl rfl (mX eu rfl rfl)) ?_
             refine ak.go (f:=0) ai (au rfl) ?_
             refine ak.nil ?_
             have hres:cg (OP m) E f (.agg [.int .u8 op,.int .i64 n,.str s,.str t,.sl ns,.sl ks])=(.agg [.int .u8 6,.str [],.sl [],.sl []],0):=by
               rw[b9 hz,← kN]
               unfold kj
               rw[if_neg (by omega)]
               rw[if_neg (by omega)]
               rw[if_neg (by omega)]
               rw[if_neg (by omega)]
               rw[if_pos (by omega)]
               show(aG 6 [] [] (jZ (oq ns kl)),0)=_
               rw[show oq ns kl=[] from(Ar.trans (by rw[List.take_of_length_le (by omega),List.take_of_length_le (by omega)])).symm]
               rw[GG];rfl
             show ∃_:Unit,KE (cf m) (cB (cf m) _ 2 (.ret (.t (.bX [(cg (OP m) E f (.agg [.int .u8 op,.int .i64 n,.str s,.str t,.sl ns,.sl ks])).1,.int .i64 (cg (OP m) E f (.agg [.int .u8 op,.int .i64 n,.str s,.str t,.sl ns,.sl ks])).2])) [.cells 68 [.t (.sl E.ts),.t (.sl E.ac),.t (.str E.p),.t (.str E.r),.t (.sl E.c),.map (.arg 1)],aI] [])) _ _ _
             rw[hres]
             exact⟨(),kF ah ai [] (by kernel_rfl)⟩
           ·
            rcases aK (decide (((pq:Nat):Int)<((ns.length:Nat):Int))) with WU|WU
            ·
             have ahv:=of_decide_eq_true WU
             obtain⟨e66,ad4⟩:=lC ns pq (by first|omega|(simp;omega))
             have ahw:=(FA e66 (List.mem_of_getElem? ad4))
             obtain⟨WV,rfl⟩:=T.cT ahw
             obtain⟨e68,ad5⟩:=lC kl pq (by first|omega|(simp;omega))
             have aaW:=(NI e68 (List.mem_of_getElem? ad5))
             obtain⟨Aw,Ax,ES,wh,rfl,aiN,aiO,aiP,aiQ⟩:=T.aR aaW
             exact⟨.inl ⟨⟨pq+1,(sX::sY)++([.agg [.str WV,.int .u8 Aw,.str Ax,.sl ES,.sl wh]]:List Tree)⟩,⟨⟨(by show(pq+1)≤ns.length;omega),((congrArg (fun l=>l++[_]) Ar).trans (Ah ad4 ad5)),(by exact EP.append (cu.cons ⟨rfl,rfl,rfl⟩ .nil)),(by show((sX::sY)++([.agg [.str WV,.int .u8 Aw,.str Ax,.sl ES,.sl wh]]:List Tree)).length≤(pq+1);first|omega|(simp only[List.length_append,List.length_cons,List.length_nil,List.length_singleton] at*;omega)|(simp;done)|(simp;omega)),(fun y hy=>(List.mem_append.1 hy).elim (fun hy=>Lq y hy) (fun hy=>by rw[List.mem_singleton.1 hy];exact Ll _ aaW))⟩,(by show(ns.length - (pq+1))<(ns.length - pq);omega)⟩⟩,bB (f:=0) (n:=3000) (once:=[]) (k:=170) (T:=3) (S:=[.loc [0],.loc [1],.loc [2]]) (ks:=[.loc [0],.loc [1],.loc [2],.arg 0,.arg 1]) (live:=[4,6,14,90,91,92]) ah ai [oB WU,oE ad4,oE ad5,oU true 5 ([.agg [.str WV,.int .u8 Aw,.str Ax,.sl ES,.sl wh]]:List Tree) (cu.cons ⟨rfl,rfl,rfl⟩ cu.nil) (by simp),oW true 5 (sX::sY) EP,oA (((sX::sY).length+([.agg [.str WV,.int .u8 Aw,.str Ax,.sl ES,.sl wh]]:List Tree).length) *88) (by first|omega|(simp only[List.length_append,List.length_cons,List.length_nil,List.length_singleton] at*;omega)|(simp;done)|(simp;omega)),oI (pq) (by omega),oN (o:=.arr (45,true) 5 false ((flat ((sX::sY)++([.agg [.str WV,.int .u8 Aw,.str Ax,.sl ES,.sl wh]]:List Tree))).map .t)) (fun _=>bw),oN (o:=aI) (fun _=>rfl)] (by kernel_rfl)⟩
            ·
             have ahv:=of_decide_eq_false WU
             refine kO ah ai [oB WU] (by kernel_rfl) ?_
             refine uR (f:=0) (n:=3000) (once:=[]) (k:=170) (T:=3) (S:=[.loc [0],.loc [1],.loc [2]]) (ks:=[.loc [0],.loc [1],.loc [2],.arg 0,.arg 1]) (live:=[4,6,14,93]) ah ai (Tryz.f19.body.getD .skip) 34 rfl (⟨bH 170 [(4,.ptr (.loc [0]) 0),(6,.t (.sl kl)),(14,.ptr (.loc [1]) 0),(93,.t (.bool (decide (((pq:Nat):Int)<((ns.length:Nat):Int)))))],[(.loc [0],.cells 38 [.t (.int .u8 0),.t (.str []),.aL,.aL]),(.loc [1],.cells 38 [.t (.int .u8 6),.t (.str []),.aL,.ref (.loc [2]) 0 ((sX::sY).length)]),(.loc [2],.arr (45,true) 5 false ((flat (sX::sY)).map .t)),(.arg 0,.cells 68 [.t (.sl E.ts),.t (.sl E.ac),.t (.str E.p),.t (.str E.r),.t (.sl E.c),.map (.arg 1)]),(.arg 1,aI)],3⟩) [oN (o:=.arr (45,true) 5 false ((flat (sX::sY)).map .t)) (fun _=>bw),oN (o:=aI) (fun _=>rfl)] (by kernel_rfl) ?_
             refine AX.region ?_
             refine ak.go (f:=0) ai (aB rfl iM rfl) ?_
             refine ak.go (f:=0) ai (aS rfl (ld iH rfl rfl)) ?_
             refine ak.J5 (S:=[.loc [2]]) ai (eU rfl) (by decide) rfl (zj rfl) (PB Ze (by simp) (by omega) Lq) rfl J6 rfl ?_
             refine ak.nil ?_
             refine uR (f:=0) (n:=3000) (once:=[]) (k:=170) (T:=3) (S:=[.loc [0],.loc [1],.loc [2]]) (ks:=[.loc [0],.loc [1],.loc [2],.arg 0,.arg 1]) (live:=[4,6,14,93]) ah ai (Tryz.f19.body.getD .skip) 35 rfl (⟨bH 170 [(4,.ptr (.loc [0]) 0),(6,.t (.sl kl)),(14,.ptr (.loc [1]) 0),(93,.t (.bool (decide (((pq:Nat):Int)<((ns.length:Nat):Int)))))],[(.loc [0],.cells 38 [.t (.int .u8 0),.t (.str []),.aL,.aL]),(.loc [1],.cells 38 [.t (.int .u8 6),.t (.str []),.aL,.ref (.loc [2]) 0 ((sX::sY).length)]),(.loc [2],.arr (45,true) 5 false ((flat (jZ (sX::sY))).map .t)),(.arg 0,.cells 68 [.t (.sl E.ts),.t (.sl E.ac),.t (.str E.p),.t (.str E.r),.t (.sl E.c),.map (.arg 1)]),(.arg 1,aI)],3⟩) [oN (o:=.arr (45,true) 5 false ((flat (jZ (sX::sY))).map .t)) (fun _=>bw),oN (o:=aI) (fun _=>rfl)] (by kernel_rfl) ?_
             refine AX.re (Re.zk (k:=.loc [1]) (m:=1) 3 rfl rfl (kZ rfl (GF EP) (by decide) (jJ _).symm rfl)) ?_
             refine AX.region ?_
             refine ak.go (f:=0) ai (aS rfl (ld eu rfl rfl)) ?_
             refine ak.lQ (f:=0) ai (br rfl rfl (mX eu rfl rfl)) ?_
             refine ak.go (f:=0) ai (au rfl) ?_
             refine ak.nil ?_
             have hres:cg (OP m) E f (.agg [.int .u8 op,.int .i64 n,.str s,.str t,.sl ns,.sl ks])=(.agg [.int .u8 6,.str [],.sl [],.sl (jZ (sX::sY))],0):=by
               rw[b9 hz,← kN]
               unfold kj
               rw[if_neg (by omega)]
               rw[if_neg (by omega)]
               rw[if_neg (by omega)]
               rw[if_neg (by omega)]
               rw[if_pos (by omega)]
               show(aG 6 [] [] (jZ (oq ns kl)),0)=_
               rw[show oq ns kl=(sX::sY) from(Ar.trans (by rw[List.take_of_length_le (by omega),List.take_of_length_le (by omega)])).symm]
               rfl
             show ∃_:Unit,KE (cf m) (cB (cf m) _ 2 (.ret (.t (.bX [(cg (OP m) E f (.agg [.int .u8 op,.int .i64 n,.str s,.str t,.sl ns,.sl ks])).1,.int .i64 (cg (OP m) E f (.agg [.int .u8 op,.int .i64 n,.str s,.str t,.sl ns,.sl ks])).2])) [.cells 68 [.t (.sl E.ts),.t (.sl E.ac),.t (.str E.p),.t (.str E.r),.t (.sl E.c),.map (.arg 1)],aI] [])) _ _ _
             rw[hres]
             exact⟨(),kF ah ai [] (by kernel_rfl)⟩
          ·
           have ahq:=ne_of_beq_false Ch
           rcases aK ((op==8)) with Fk|Fk
           ·
            have ahx:=eq_of_beq Fk
            obtain⟨e71,ad6⟩:=lC kl 0 (by first|omega|(simp;omega))
            have WW:=(NI e71 (List.mem_of_getElem? ad6))
            obtain⟨Ay,Az,ET,wj,rfl,aiR,aiS,aiT,aiU⟩:=T.aR WW
            have akN:ev 61 [.ptr (.arg 0) 0,.t (.agg [.int .u8 Ay,.str Az,.sl ET,.sl wj]),.t (.str s)] [.cells 68 [.t (.sl E.ts),.t (.sl E.ac),.t (.str E.p),.t (.str E.r),.t (.sl E.c),.map (.arg 1)],aI]=some (bG.ret (.t (.bX [(eA E (.agg [.int .u8 Ay,.str Az,.sl ET,.sl wj]) s).1,.int .i64 (eA E (.agg [.int .u8 Ay,.str Az,.sl ET,.sl wj]) s).2])) [.cells 68 [.t (.sl E.ts),.t (.sl E.ac),.t (.str E.p),.t (.str E.r),.t (.sl E.c),.map (.arg 1)],aI] []):=X9 adS [(.agg [.int .u8 Ay,.str Az,.sl ET,.sl wj]),.str s] ⟨_,_,WW,rfl⟩
            have aaX:=Pw ⟨lt,ht,la,ha,lc,hc⟩ WW s
            obtain⟨Zl,Zm,ad7,WX,WY,aiV,aiW,aiX,aiY⟩:=T.aR aaX
            rw[WY] at aaX
            have ahy:=akN
            rw[WY] at ahy
            have hres:cg (OP m) E f (.agg [.int .u8 op,.int .i64 n,.str s,.str t,.sl ns,.sl ks])=(.agg [.int .u8 Zl,.str Zm,.sl ad7,.sl WX],(eA E (.agg [.int .u8 Ay,.str Az,.sl ET,.sl wj]) s).2):=by
              rw[b9 hz,← kN]
              unfold kj
              rw[if_neg (by omega)]
              rw[if_neg (by omega)]
              rw[if_neg (by omega)]
              rw[if_neg (by omega)]
              rw[if_neg (by omega)]
              rw[if_pos (by omega)]
              show eA E (B8 kl 0) s=_
              rw[qN ad6]
              exact Prod.ext WY rfl
            show ∃_:Unit,KE (cf m) (cB (cf m) _ 2 (.ret (.t (.bX [(cg (OP m) E f (.agg [.int .u8 op,.int .i64 n,.str s,.str t,.sl ns,.sl ks])).1,.int .i64 (cg (OP m) E f (.agg [.int .u8 op,.int .i64 n,.str s,.str t,.sl ns,.sl ks])).2])) [.cells 68 [.t (.sl E.ts),.t (.sl E.ac),.t (.str E.p),.t (.str E.r),.t (.sl E.c),.map (.arg 1)],aI] [])) _ _ _
            rw[hres]
            exact⟨(),kF ah ai [oB r5,oB k9,oB uN,oB oD,oB Aq,oB Bz,oB Ch,oB Fk,oE ad6,oC ahy] (by kernel_rfl)⟩
           ·
            have ahx:=ne_of_beq_false Fk
            rcases aK ((op==14)) with IU|IU
            ·
             have ahz:=eq_of_beq IU
             obtain⟨e77,WZ⟩:=lC kl 0 (by first|omega|(simp;omega))
             have aaY:=(NI e77 (List.mem_of_getElem? WZ))
             obtain⟨IV,IW,NN,EU,rfl,aiZ,ai0,ai1,ai2⟩:=T.aR aaY
             have ahA:ev 62 [.t (.int .u8 1),.t (.agg [.int .u8 IV,.str IW,.sl NN,.sl EU])] []=some (bG.ret (.t (.bool (IF m 1 (.agg [.int .u8 IV,.str IW,.sl NN,.sl EU])))) [] []):=dm adT ⟨_,rfl,(by unfold WC;decide),aaY⟩
             rcases aK ((!(IF m 1 (.agg [.int .u8 IV,.str IW,.sl NN,.sl EU])))) with W4|W4
             ·
              have hres:cg (OP m) E f (.agg [.int .u8 op,.int .i64 n,.str s,.str t,.sl ns,.sl ks])=(.agg [.int .u8 0,.str [],.sl [],.sl []],7):=by
                rw[b9 hz,← kN]
                unfold kj
                rw[if_neg (by omega)]
                rw[if_neg (by omega)]
                rw[if_neg (by omega)]
                rw[if_neg (by omega)]
                rw[if_neg (by omega)]
                rw[if_neg (by omega)]
                rw[if_pos (by omega)]
                show(if IF m 1 (B8 kl 0)=true then JF m (B8 kl 1) (B8 kl 2) else(gi,7))=_
                rw[qN WZ]
                rw[if_neg (ff (fJ W4))];rfl
              show ∃_:Unit,KE (cf m) (cB (cf m) _ 2 (.ret (.t (.bX [(cg (OP m) E f (.agg [.int .u8 op,.int .i64 n,.str s,.str t,.sl ns,.sl ks])).1,.int .i64 (cg (OP m) E f (.agg [.int .u8 op,.int .i64 n,.str s,.str t,.sl ns,.sl ks])).2])) [.cells 68 [.t (.sl E.ts),.t (.sl E.ac),.t (.str E.p),.t (.str E.r),.t (.sl E.c),.map (.arg 1)],aI] [])) _ _ _
              rw[hres]
              exact⟨(),kF ah ai [oB r5,oB k9,oB uN,oB oD,oB Aq,oB Bz,oB Ch,oB Fk,oB IU,oE WZ,oC ahA,oB W4] (by kernel_rfl)⟩
             ·
              obtain⟨e81,ad8⟩:=lC kl 1 (by first|omega|(simp;omega))
              have W5:=(NI e81 (List.mem_of_getElem? ad8))
              obtain⟨PE,PF,W6,Lr,rfl,ai3,ai4,ai5,ai6⟩:=T.aR W5
              obtain⟨e83,ad9⟩:=lC kl 2 (by first|omega|(simp;omega))
              have W7:=(NI e83 (List.mem_of_getElem? ad9))
              obtain⟨PG,PJ,W8,Ls,rfl,ai7,ai8,ai9,aja⟩:=T.aR W7
              obtain⟨akO,aaZ⟩:∃w,(JF m (.agg [.int .u8 PE,.str PF,.sl W6,.sl Lr]) (.agg [.int .u8 PG,.str PJ,.sl W8,.sl Ls])).2=w:=⟨_,rfl⟩
              have aa0:=adl m W5 W7
              obtain⟨Zn,Zo,aea,W9,Xa,ajb,ajc,ajd,aje⟩:=T.aR aa0
              rw[Xa] at aa0
              have aeb:=dm vN (x:=(.agg [.int .u8 PE,.str PF,.sl W6,.sl Lr])) (y:=(.agg [.int .u8 PG,.str PJ,.sl W8,.sl Ls])) ⟨W5,W7⟩
              rw[Xa] at aeb
              rw[aaZ] at aeb
              have hres:cg (OP m) E f (.agg [.int .u8 op,.int .i64 n,.str s,.str t,.sl ns,.sl ks])=(.agg [.int .u8 Zn,.str Zo,.sl aea,.sl W9],akO):=by
                rw[b9 hz,← kN]
                unfold kj
                rw[if_neg (by omega)]
                rw[if_neg (by omega)]
                rw[if_neg (by omega)]
                rw[if_neg (by omega)]
                rw[if_neg (by omega)]
                rw[if_neg (by omega)]
                rw[if_pos (by omega)]
                show(if IF m 1 (B8 kl 0)=true then JF m (B8 kl 1) (B8 kl 2) else(gi,7))=_
                rw[qN WZ]
                rw[if_pos (dJ W4),qN ad8,qN ad9]
                exact Prod.ext Xa aaZ
              show ∃_:Unit,KE (cf m) (cB (cf m) _ 2 (.ret (.t (.bX [(cg (OP m) E f (.agg [.int .u8 op,.int .i64 n,.str s,.str t,.sl ns,.sl ks])).1,.int .i64 (cg (OP m) E f (.agg [.int .u8 op,.int .i64 n,.str s,.str t,.sl ns,.sl ks])).2])) [.cells 68 [.t (.sl E.ts),.t (.sl E.ac),.t (.str E.p),.t (.str E.r),.t (.sl E.c),.map (.arg 1)],aI] [])) _ _ _
              rw[hres]
              exact⟨(),kF ah ai [oB r5,oB k9,oB uN,oB oD,oB Aq,oB Bz,oB Ch,oB Fk,oB IU,oE WZ,oC ahA,oB W4,oE ad8,oE ad9,oC aeb] (by kernel_rfl)⟩
            ·
             have ahz:=ne_of_beq_false IU
             obtain⟨e88,IX⟩:=lC kl 0 (by first|omega|(simp;omega))
             have aa1:=(NI e88 (List.mem_of_getElem? IX))
             obtain⟨IY,IZ,NP,EW,rfl,ajf,ajg,ajh,aji⟩:=T.aR aa1
             have Zp:ev 62 [.t (.int .u8 (aU op).1),.t (.agg [.int .u8 IY,.str IZ,.sl NP,.sl EW])] []=some (bG.ret (.t (.bool (IF m (aU op).1 (.agg [.int .u8 IY,.str IZ,.sl NP,.sl EW])))) [] []):=dm adT ⟨_,rfl,(EG op).1,aa1⟩
             rcases aK ((!(IF m (aU op).1 (.agg [.int .u8 IY,.str IZ,.sl NP,.sl EW])))) with nh|nh
             ·
              have hres:cg (OP m) E f (.agg [.int .u8 op,.int .i64 n,.str s,.str t,.sl ns,.sl ks])=(.agg [.int .u8 0,.str [],.sl [],.sl []],7):=by
                rw[b9 hz,← kN]
                unfold kj
                rw[if_neg (by omega)]
                rw[if_neg (by omega)]
                rw[if_neg (by omega)]
                rw[if_neg (by omega)]
                rw[if_neg (by omega)]
                rw[if_neg (by omega)]
                rw[if_neg (by omega)]
                show(if IF m (aU op).1 (B8 kl 0)=false∨(1<kl.length∧IF m (aU op).2.1 (B8 kl 1)=false) then(gi,7) else(aG (aU op).2.2 [] [] [],0))=_
                rw[qN IX]
                rw[if_pos (.inl (fJ nh))];rfl
              show ∃_:Unit,KE (cf m) (cB (cf m) _ 2 (.ret (.t (.bX [(cg (OP m) E f (.agg [.int .u8 op,.int .i64 n,.str s,.str t,.sl ns,.sl ks])).1,.int .i64 (cg (OP m) E f (.agg [.int .u8 op,.int .i64 n,.str s,.str t,.sl ns,.sl ks])).2])) [.cells 68 [.t (.sl E.ts),.t (.sl E.ac),.t (.str E.p),.t (.str E.r),.t (.sl E.c),.map (.arg 1)],aI] [])) _ _ _
              rw[hres]
              exact⟨(),kF ah ai [oB r5,oB k9,oB uN,oB oD,oB Aq,oB Bz,oB Ch,oB Fk,oB IU,oC (lH IP),oE IX,oC Zp,oB nh,oB nh,oB nh,oB nh,oB nh,oB nh,oT] (by kernel_rfl)⟩
             ·
              rcases aK (decide (((kl.length:Nat):Int)>1)) with mR|mR
              ·
               have ahB:=of_decide_eq_true mR
               obtain⟨e93,Xb⟩:=lC kl 1 (by first|omega|(simp;omega))
               have aa2:=(NI e93 (List.mem_of_getElem? Xb))
               obtain⟨I1,I2,NQ,EX,rfl,ajj,ajk,ajl,ajm⟩:=T.aR aa2
               have ahC:ev 62 [.t (.int .u8 (aU op).2.1),.t (.agg [.int .u8 I1,.str I2,.sl NQ,.sl EX])] []=some (bG.ret (.t (.bool (IF m (aU op).2.1 (.agg [.int .u8 I1,.str I2,.sl NQ,.sl EX])))) [] []):=dm adT ⟨_,rfl,(EG op).2,aa2⟩
               rcases aK ((!(IF m (aU op).2.1 (.agg [.int .u8 I1,.str I2,.sl NQ,.sl EX])))) with Xc|Xc
               ·
                have hres:cg (OP m) E f (.agg [.int .u8 op,.int .i64 n,.str s,.str t,.sl ns,.sl ks])=(.agg [.int .u8 0,.str [],.sl [],.sl []],7):=by
                  rw[b9 hz,← kN]
                  unfold kj
                  rw[if_neg (by omega)]
                  rw[if_neg (by omega)]
                  rw[if_neg (by omega)]
                  rw[if_neg (by omega)]
                  rw[if_neg (by omega)]
                  rw[if_neg (by omega)]
                  rw[if_neg (by omega)]
                  show(if IF m (aU op).1 (B8 kl 0)=false∨(1<kl.length∧IF m (aU op).2.1 (B8 kl 1)=false) then(gi,7) else(aG (aU op).2.2 [] [] [],0))=_
                  rw[qN IX]
                  rw[qN Xb]
                  rw[if_pos (.inr ⟨by have:=of_decide_eq_true mR;omega,fJ Xc⟩)];rfl
                show ∃_:Unit,KE (cf m) (cB (cf m) _ 2 (.ret (.t (.bX [(cg (OP m) E f (.agg [.int .u8 op,.int .i64 n,.str s,.str t,.sl ns,.sl ks])).1,.int .i64 (cg (OP m) E f (.agg [.int .u8 op,.int .i64 n,.str s,.str t,.sl ns,.sl ks])).2])) [.cells 68 [.t (.sl E.ts),.t (.sl E.ac),.t (.str E.p),.t (.str E.r),.t (.sl E.c),.map (.arg 1)],aI] [])) _ _ _
                rw[hres]
                exact⟨(),kF ah ai [oB r5,oB k9,oB uN,oB oD,oB Aq,oB Bz,oB Ch,oB Fk,oB IU,oC (lH IP),oE IX,oC Zp,oB nh,oB nh,oB nh,oB nh,oB mR,oB mR,oB mR,oB mR,oE Xb,oB mR,oB mR,oC ahC,oB mR,oB nh,oB mR,oB nh,oB Xc] (by kernel_rfl)⟩
               ·
                have hres:cg (OP m) E f (.agg [.int .u8 op,.int .i64 n,.str s,.str t,.sl ns,.sl ks])=(.agg [.int .u8 ((aU op).2.2),.str [],.sl [],.sl []],0):=by
                  rw[b9 hz,← kN]
                  unfold kj
                  rw[if_neg (by omega)]
                  rw[if_neg (by omega)]
                  rw[if_neg (by omega)]
                  rw[if_neg (by omega)]
                  rw[if_neg (by omega)]
                  rw[if_neg (by omega)]
                  rw[if_neg (by omega)]
                  show(if IF m (aU op).1 (B8 kl 0)=false∨(1<kl.length∧IF m (aU op).2.1 (B8 kl 1)=false) then(gi,7) else(aG (aU op).2.2 [] [] [],0))=_
                  rw[qN IX]
                  rw[qN Xb]
                  rw[if_neg (fun q=>q.elim (fun q=>ff q (dJ nh)) (fun q=>ff q.2 (dJ Xc)))];rfl
                show ∃_:Unit,KE (cf m) (cB (cf m) _ 2 (.ret (.t (.bX [(cg (OP m) E f (.agg [.int .u8 op,.int .i64 n,.str s,.str t,.sl ns,.sl ks])).1,.int .i64 (cg (OP m) E f (.agg [.int .u8 op,.int .i64 n,.str s,.str t,.sl ns,.sl ks])).2])) [.cells 68 [.t (.sl E.ts),.t (.sl E.ac),.t (.str E.p),.t (.str E.r),.t (.sl E.c),.map (.arg 1)],aI] [])) _ _ _
                rw[hres]
                exact⟨(),kF ah ai [oB r5,oB k9,oB uN,oB oD,oB Aq,oB Bz,oB Ch,oB Fk,oB IU,oC (lH IP),oE IX,oC Zp,oB nh,oB nh,oB nh,oB nh,oB mR,oB mR,oB mR,oB mR,oE Xb,oB mR,oB mR,oC ahC,oB mR,oB nh,oB mR,oB nh,oB Xc] (by kernel_rfl)⟩
              ·
               have ahB:=of_decide_eq_false mR
               have hres:cg (OP m) E f (.agg [.int .u8 op,.int .i64 n,.str s,.str t,.sl ns,.sl ks])=(.agg [.int .u8 ((aU op).2.2),.str [],.sl [],.sl []],0):=by
                 rw[b9 hz,← kN]
                 unfold kj
                 rw[if_neg (by omega)]
                 rw[if_neg (by omega)]
                 rw[if_neg (by omega)]
                 rw[if_neg (by omega)]
                 rw[if_neg (by omega)]
                 rw[if_neg (by omega)]
                 rw[if_neg (by omega)]
                 show(if IF m (aU op).1 (B8 kl 0)=false∨(1<kl.length∧IF m (aU op).2.1 (B8 kl 1)=false) then(gi,7) else(aG (aU op).2.2 [] [] [],0))=_
                 rw[qN IX]
                 rw[if_neg (fun q=>q.elim (fun q=>ff q (dJ nh)) (fun q=>absurd q.1 (by have:=of_decide_eq_false mR;omega)))];rfl
               show ∃_:Unit,KE (cf m) (cB (cf m) _ 2 (.ret (.t (.bX [(cg (OP m) E f (.agg [.int .u8 op,.int .i64 n,.str s,.str t,.sl ns,.sl ks])).1,.int .i64 (cg (OP m) E f (.agg [.int .u8 op,.int .i64 n,.str s,.str t,.sl ns,.sl ks])).2])) [.cells 68 [.t (.sl E.ts),.t (.sl E.ac),.t (.str E.p),.t (.str E.r),.t (.sl E.c),.map (.arg 1)],aI] [])) _ _ _
               rw[hres]
               exact⟨(),kF ah ai [oB r5,oB k9,oB uN,oB oD,oB Aq,oB Bz,oB Ch,oB Fk,oB IU,oC (lH IP),oE IX,oC Zp,oB nh,oB nh,oB nh,oB nh,oB mR,oB mR,oB mR,oB mR,oB mR,oB mR,oB mR,oB nh,oB mR,oB nh,oF] (by kernel_rfl)⟩
end
end Go.Proofs.YtijfhoelihclbaaGreatDoor.w.e

namespace Go.Proofs.YtijfhoelihclbaaGreatDoor.w.e
open Go Go.Abs Go.Abs.Ty
set_option linter.unusedVariables false
set_option maxRecDepth 100000
set_option maxHeartbeats 2000000
noncomputable section
def DE:Nat→Tree→Prop
 |0,_=>False
 |n+1,x=>T .bJ x∧Gt x∧∀k∈uz x,DE n k
theorem PK:∀{n m:Nat} {x:Tree},n≤m→DE n x→DE m x
 |0,_,_,_,h=>h.elim
 |n+1,0,_,hle,_=>by omega
 |n+1,m+1,x,hle,⟨h1,h2,h3⟩=>⟨h1,h2,fun k hk=>PK (by omega) (h3 k hk)⟩
theorem ahD {x:Tree}(hr:Rt x):T .bJ x→∃n,DE n x:=by
 induction hr with
 | mk op n s t names kids h hk ih=>
  intro hx
  obtain⟨op',n',s',t',ns',ks',e,h1,h2,h3,h4⟩:=T.eB hx
  have e2:kids=ks':=by
   injection e with e
   injection e with _ e;injection e with _ e;injection e with _ e;injection e with _ e;injection e with _ e;injection e with e _
   injection e
  obtain⟨d,hd⟩:=uniform (P:=DE) (fun _ _ _ hle h=>PK hle h) (l:=kids) fun y hy=>ih y hy (h4 y (e2▸hy))
  exact⟨d+1,hx,h,hd⟩
theorem AA (m:Int)(E:Env)(hE:uM E):∀(n:Nat) (x:Tree),DE n x→ay (cf m) 19 [.ptr (.arg 0) 0,.t x] [.cells 68 [.t (.sl E.ts),.t (.sl E.ac),.t (.str E.p),.t (.str E.r),.t (.sl E.c),.map (.arg 1)],aI] (.ret (.t (.bX [(qX (OP m) E n x).1,.int .i64 (qX (OP m) E n x).2])) [.cells 68 [.t (.sl E.ts),.t (.sl E.ac),.t (.str E.p),.t (.str E.r),.t (.sl E.c),.map (.arg 1)],aI] [])∧T .aD (qX (OP m) E n x).1
 |0,x,h=>h.elim
 |n+1,x,⟨h1,h2,h3⟩=>by
  have h10:=h1
  obtain⟨op,k,s,t,ns,ks,rfl,g1,g2,g3,g4⟩:=T.eB h1
  exact⟨WH m E hE op k s t ns ks g1 g2 g3 g4 h2 (qX (OP m) E n) fun y hy=>AA m E hE n y (h3 y hy),adQ m hE h10 fun y hy=>(AA m E hE n y (h3 y hy)).2⟩
def NR (E:Env):Tree:=.agg [.sl E.ts,.sl E.ac]
def orA (m:Int)(E:Env)(e:Tree):Int:=Wi m (.sl [.int .i64 (vV m e),.int .i64 (Ag m (.agg [.sl E.ts,.sl E.ac]))])
def orB (m:Int)(E:Env):Int:=Wi m (.sl [.int .i64 (cr r6 E.p E.ts).2,.int .i64 (cr r6 E.r E.ts).2,.int .i64 (ctF m (.agg [.int .u8 6,.str [],.sl [],.sl E.c]))])
def eC (m:Int)(n:Nat)(E:Env)(e:Tree):Tree×Int:=
 if orA m E e≠0 then(gi,orA m E e) else if orB m E≠0 then(gi,orB m E) else if(qX (OP m) E n e).2≠0 then(gi,(qX (OP m) E n e).2) else((qX (OP m) E n e).1,0)
theorem aa3 (l:List Int)(h:l.length≤4194304):T .dA (.sl (l.map (Tree.int .i64))):=.dA _ (by simpa using h) fun y hy=>by obtain⟨a,_,rfl⟩:=List.mem_map.1 hy;exact .dK _
theorem I3 (m:Int)(a b:Int):Wi m (.sl [.int .i64 a,.int .i64 b])=0↔a=0∧b=0:=by
 refine(Lb m (x:=.sl [.int .i64 a,.int .i64 b]) (aa3 [a,b] (by simp))).trans ?_
 simp[lG]
theorem Lt (m:Int)(a b c:Int):Wi m (.sl [.int .i64 a,.int .i64 b,.int .i64 c])=0↔a=0∧b=0∧c=0:=by
 refine(Lb m (x:=.sl [.int .i64 a,.int .i64 b,.int .i64 c]) (aa3 [a,b,c] (by simp))).trans ?_
 simp[lG]
theorem wk {m:Int}{n:Nat}{E:Env}{e:Tree}(h:(eC m n E e).2≠0):(eC m n E e).1=gi:=by
  unfold eC at*
  split at h
  · rename_i h1;rw[if_pos h1]
  · rename_i h1
    rw[if_neg h1]
    split at h
    · rename_i h2;rw[if_pos h2]
    · rename_i h2
      rw[if_neg h2]
      split at h
      · rename_i h3;rw[if_pos h3]
      · exact absurd rfl h
theorem PN {m:Int}{n:Nat}{E:Env}{e:Tree}(h:(eC m n E e).2=0):orA m E e=0∧orB m E=0∧(qX (OP m) E n e).2=0∧eC m n E e=((qX (OP m) E n e).1,0):=by
  unfold eC at*
  by_cases h1:orA m E e=0
  · rw[ if_neg (fun q=>q h1)] at h
    by_cases h2:orB m E=0
    · rw[if_neg (fun q=>q h2)] at h
      by_cases h3:(qX (OP m) E n e).2=0
      · refine⟨h1,h2,h3, ?_⟩
        rw[if_neg (fun q=>q h1),if_neg (fun q=>q h2),if_neg (fun q=>q h3)]
      · rw[if_pos h3] at h;exact absurd h h3
    · rw[if_pos h2] at h;exact absurd h h2
  · rw[if_pos h1] at h;exact absurd h h1
theorem Zq {m:Int}{n:Nat}{E:Env}{e:Tree}(h1:orA m E e=0)(h2:orB m E=0)(h3:(qX (OP m) E n e).2=0):eC m n E e=((qX (OP m) E n e).1,0):=by
 unfold eC
 rw[if_neg (fun q=>q h1),if_neg (fun q=>q h2),if_neg (fun q=>q h3)]
theorem wP {m:Int}{n:Nat}{E:Env}{r:List Tree}{e:Tree}(h:(eC m n E e).2=0)(hs:Ag m (.agg [.sl (E.ts++r),.sl E.ac])=0):eC m n {E with ts:=E.ts++r} e=eC m n E e:=by
 obtain⟨h1,h2,h3,h4⟩:=PN h
 obtain⟨a1,a2⟩:=(I3 m _ _).1 h1
 obtain⟨b1,b2,b3⟩:=(Lt m _ _ _).1 h2
 have hi:=FP (O:=OP m) (E:=E) (r:=r) n e h3
 rw[h4,Zq (m:=m) (n:=n) (E:={E with ts:=E.ts++r}) (e:=e) ((I3 m _ _).2 ⟨a1,hs⟩) ((Lt m _ _ _).2 ⟨by rw[xF b1];exact b1,by rw[xF b2];exact b2,b3⟩) (by rw[hi];exact h3),hi]
end
end Go.Proofs.YtijfhoelihclbaaGreatDoor.w.e
