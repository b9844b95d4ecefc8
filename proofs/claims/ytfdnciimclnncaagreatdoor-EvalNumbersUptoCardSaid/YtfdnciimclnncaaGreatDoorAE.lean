/- slices.SortFunc of Uids, in their order. -/
import Derived.WalkKit
import Derived.OwnWalkIn
import Derived.TacticsInMore
import Derived.Shelf.Abstract
import Derived.Shelf.SlSortCmp.WholeK
import Derived.Shelf.SlSortCmp.NoneTotal
import Derived.Sort.LotA
import Derived.StillTailTactics
import Derived.Test.YtfdnciimclnncaaGreatDoorSrt
import Derived.Test.YtfdnciimclnncaaGreatDoorShelf
import Derived.Test.YtfdnciimclnncaaGreatDoorN
import Derived.Test.YtfdnciimclnncaaGreatDoorAD
import Derived.Test.YtfdnciimclnncaaGreatDoorZ
import Derived.Test.YtfdnciimclnncaaGreatDoorAA
set_option linter.unusedVariables false
set_option linter.unusedSimpArgs false
namespace Go.Proofs.YtfdnciimclnncaaGreatDoor.w
open Go Go.Abs Go.RowKit Go.Sort Go.Shelf
attribute [local go_sem] Oper.semAt_some
def R6:Tree->List UInt8
 |.agg [.str n,_]=>n
 |_=>[]
def idU:Tree->List UInt8
 |.agg [_,.str n]=>n
 |_=>[]
def orI (x y:Int):Int:=if x≠0 then x else y
def nT (a b:List UInt8):Int:=if a<b then -1 else if b<a then 1 else 0
def Yw (x y:Tree):Int:=orI (nT (R6 x) (R6 y)) (nT (idU x) (idU y))
def cfA (l:List Tree)(i j:Nat):Int:=Yw (l[i]?.getD .cR) (l[j]?.getD .cR)
def permA (l:List Tree):Array Nat:=pdq (ltOf (cfA l)) (Array.range l.length) 0 l.length (Lib.bitLen l.length) true true
def vI (l:List Tree):List Tree:=(permA l).toList.map λi=>l[i]?.getD .cR
def AtF (e:Tree):Prop:=∃n s,e=.agg [.str n,.str s]
theorem Wd {a b:List UInt8}:nT a b<0↔a<b:=by
 unfold nT;by_cases h1:a<b
 ·simp[h1]
 ·by_cases h2:b<a<;>simp[h1,h2]
theorem M4 {a b:List UInt8}:nT a b=0↔a=b:=by
 unfold nT;by_cases h1:a<b
 ·simp only[if_pos h1];exact⟨λh=>by omega,λh=>by subst h;exact absurd h1 (List.lt_irrefl _)⟩
 ·by_cases h2:b<a
  ·simp only[if_neg h1,if_pos h2];exact⟨λh=>by omega,λh=>by subst h;exact absurd h2 h1⟩
  ·simp only[if_neg h1,if_neg h2,true_iff];exact List.le_antisymm (List.not_lt.1 h2) (List.not_lt.1 h1)
theorem akd {x y:Tree}:Yw x y<0↔R6 x<R6 y\/(R6 x=R6 y/\idU x<idU y):=by
 unfold Yw orI;by_cases h:nT (R6 x) (R6 y)=0
 ·rw[if_neg (by simpa using h)];have e:=M4.1 h;rw[Wd,e];exact⟨λh=>.inr ⟨rfl,h⟩,λh=>h.elim (λh=>absurd h (List.lt_irrefl _)) λh=>h.2⟩
 ·rw[if_pos h,Wd];exact⟨.inl,λq=>q.elim id λq=>absurd (M4.2 q.1) h⟩
theorem KX (l:List Tree)(i j:Nat):ltOf (cfA l) i j=decide (R6 (l[i]?.getD .cR)<R6 (l[j]?.getD .cR)\/(R6 (l[i]?.getD .cR)=R6 (l[j]?.getD .cR)/\idU (l[i]?.getD .cR)<idU (l[j]?.getD .cR))):=by
 unfold ltOf cfA;exact decide_eq_decide.2 akd
theorem aoh (l:List Tree):SWO (ltOf (cfA l)) where
 irrefl x:=by
  rw[KX];exact decide_eq_false λh=>h.elim (List.lt_irrefl _) λh=>List.lt_irrefl _ h.2
 trans x y z h1 h2:=by
  rw[KX] at*;have h1:=of_decide_eq_true h1;have h2:=of_decide_eq_true h2;refine decide_eq_true ?_;rcases h1 with h1|⟨e1,h1⟩<;>rcases h2 with h2|⟨e2,h2⟩
  ·exact .inl (List.lt_trans h1 h2)
  ·exact .inl (e2▸h1)
  ·exact .inl (e1▸h2)
  ·exact .inr ⟨e1.trans e2,List.lt_trans h1 h2⟩
 ntrans x y z h1 h2:=by
  rw[KX] at*;have h1:=of_decide_eq_false h1;have h2:=of_decide_eq_false h2;refine decide_eq_false λh=> ?_
  generalize R6 (l[x]?.getD .cR)=a at*;generalize R6 (l[y]?.getD .cR)=b at*;generalize R6 (l[z]?.getD .cR)=c at*;generalize idU (l[x]?.getD .cR)=a' at*;generalize idU (l[y]?.getD .cR)=b' at*;generalize idU (l[z]?.getD .cR)=c' at*;have n1:¬a<b:=λq=>h1 (.inl q)
  have n2:¬b<c:=λq=>h2 (.inl q)
  have l1:b<=a:=List.not_lt.1 n1;have l2:c<=b:=List.not_lt.1 n2;rcases h with h|⟨rfl,h⟩
  ·exact List.not_lt.2 (List.le_trans l2 l1) h
  ·have e:a=b:=List.le_antisymm l2 l1;subst e;have m1:¬a'<b':=λq=>h1 (.inr ⟨rfl,q⟩)
   have m2:¬b'<c':=λq=>h2 (.inr ⟨rfl,q⟩)
   exact List.not_lt.2 (List.le_trans (List.not_lt.1 m2) (List.not_lt.1 m1)) h
theorem KY (l:List Tree):(permA l).toList.Perm (List.range l.length):=by
 have h:=(pdq_sorts (ltOf (cfA l)) (aoh l) (Array.range l.length) 0 (Array.range l.length).size (Lib.bitLen l.length) true true (Nat.zero_le _) (Nat.le_refl _) (Or.inl rfl)).1;have h3:=h.2.2;have hs:=h.1;simp only[Array.size_range] at h3 hs;have e1:(permA l).extract 0 l.length=permA l:=by
  have:(permA l).size=l.length:=hs;rw[← this];exact Array.extract_size
 have e2:(Array.range l.length).extract 0 l.length=Array.range l.length:=by
  have:=Array.extract_size (xs:=Array.range l.length);rwa [Array.size_range] at this
 have h4:((permA l).extract 0 l.length).toList.Perm ((Array.range l.length).extract 0 l.length).toList:=h3;rw[e1,e2] at h4;simpa using h4
theorem yj (l:List Tree):(permA l).size=l.length:=by
 have:=(KY l).length_eq;simpa using this
theorem s7 (l:List Tree):(vI l).length=l.length:=by simp[vI,yj]
theorem R7 {l:List Tree}{j:Nat}(hj:j<l.length):(permA l)[j]! <l.length:=by
 have hj':j<(permA l).size:=by rw[yj];exact hj
 rw[getElem!_pos _ j hj'];have:(permA l)[j]∈(permA l).toList:=by simp
 have:=(KY l).mem_iff.1 this;simpa using this
theorem R8 {l:List Tree}{j:Nat}(hj:j<l.length):(vI l)[j]?=l[(permA l)[j]!]?:=by
 have hj':j<(permA l).size:=by rw[yj];exact hj
 have h:=R7 hj;rw[getElem!_pos _ j hj'] at h ⊢;simp only[vI,List.getElem?_map,Array.getElem?_toList,Array.getElem?_eq_getElem hj',Option.map_some,List.getElem?_eq_getElem h,Option.getD_some]
theorem F6 {l:List Tree}{x:Tree}(h:x∈vI l):x∈l:=by
 obtain⟨j,hj,e⟩:=List.getElem_of_mem h;rw[s7] at hj;have h1:=R8 hj;rw[List.getElem?_eq_getElem (by rw[s7];exact hj),e] at h1;exact List.mem_of_getElem? h1.symm
theorem AN:∀(L:List Tree) (hu:∀e∈L,e.cells.length=2) (j:Nat),(flat L)[j]?=(L[j / 2]?).bind λe=>e.cells[j % 2]?
 | [],_,j=>by simp[flat]
 | a ::L,hu,j=>by
   have ha:a.cells.length=2:=hu a List.mem_cons_self
   have ih:=AN L (λe he=>hu e (List.mem_cons_of_mem _ he))
   have e:flat (a::L)=a.cells++flat L:=rfl
   rw[e]
   by_cases h:j<2
   · rw[List.getElem?_append_left (by omega),Nat.div_eq_of_lt h,Nat.mod_eq_of_lt h];rfl
   · obtain⟨k,rfl⟩:∃k,j=k+2:=⟨j - 2,by omega⟩
     rw[List.getElem?_append_right (by omega),ha,Nat.add_sub_cancel,ih,Nat.add_div_right _ (by decide),Nat.add_mod_right]
     rfl
theorem agz (x:ByteArray)(w:World):Calls Tryz.prog 138 #[.string x] w λe w'=>e=.returned (.bool false)/\w'=w:=by
 go_enter Tryz.func138,Tryz.ntmps138;go_wp2;go_ret;exact⟨by simp,rfl⟩
theorem bytesLess_eq:∀(x y:List UInt8),Op.bytesLess x y=decide (x<y)
 | [],[]=>by simp[Op.bytesLess]
 |_::_,[]=>by simp[Op.bytesLess]
 | [],_::_=>by simp[Op.bytesLess]
 |a::x,b::y=>by
  rw[Op.bytesLess,bytesLess_eq x y]
  simp only[List.cons_lt_cons_iff]
  by_cases h1:a<b<;>by_cases h2:a=b<;>by_cases h3:x<y<;>simp[h1,h2,h3]
theorem aoi (x y:List UInt8)(w:World):Sem.run Tryz.prog (binOp .gtr 9 (.string ⟨x.toArray⟩) (.string ⟨y.toArray⟩)) w=.ok (.bool (!(Op.bytesLess x y||x==y))) w:=by
 simp[binOp,Op.stringOp,Lib.toList_data]
theorem aoj {x y:List UInt8}(h1:¬x<y)(h2:x≠y):y<x:=by
 by_cases h:y<x
 ·exact h
 ·exact absurd (List.le_antisymm (List.not_lt.1 h) (List.not_lt.1 h1)) h2
set_option maxHeartbeats 1000000 in
theorem M5 (x y:List UInt8)(w:World):Calls Tryz.prog 87 #[.string ⟨x.toArray⟩,.string ⟨y.toArray⟩] w λe w'=>e=.returned (.int .i64 (nT x y))/\w'=w:=by
 go_enter Tryz.func87,Tryz.ntmps87;go_wp2_with (go_at_call 138;refine(agz _ _).mono ?_;rintro e w' ⟨rfl,rfl⟩)
 ·rename_i h;have h:=of_decide_eq_true ((bytesLess_eq x y).symm.trans h);rw[show nT x y=-1 from if_pos h];go_ret;exact⟨rfl,rfl⟩
 ·rename_i h _ _ _ _ _ _;have hx:¬x<y:=of_decide_eq_false ((bytesLess_eq x y).symm.trans h);rw[aoi,h,Bool.false_or];simp only[Result.andThen_ok];obtain⟨b,hb⟩:∃b,b=(x==y):=⟨_,rfl⟩;have hc:nT x y=if b=true then 0 else 1:=by
   unfold nT;rw[if_neg hx];by_cases e:x=y
   ·subst e;simp[hb,hx]
   ·have:(x==y)=false:=by simpa using e
    rw[if_pos (aoj hx e),hb,this];rfl
  rw[← hb];clear hb;cases b
  ·go_wp2;go_ret;exact⟨by first|rfl|(rw[hc];rfl),rfl⟩
  ·go_wp2;go_ret;exact⟨by first|rfl|(rw[hc];rfl),rfl⟩
def uS (us:Array Value)(n i:Nat):List Value:=if i<n then(us.toList.drop (i*2)).take 2 else [.string ⟨#[]⟩,.string ⟨#[]⟩]
set_option maxHeartbeats 1000000 in
theorem aq1 (b off cap:Nat)(x y:Int)(W:World)(h0:W.cell? ⟨b,off,none⟩=some (.int .i64 x))(h1:W.cell? ⟨b,off+1,none⟩=some (.int .i64 y)):
 Calls Tryz.prog 86 #[.slice (some ⟨b,off,none⟩) 2 cap] W λe w'=>e=.returned (.int .i64 (orI x y))/\w'=W:=by
 go_enter Tryz.func86,Tryz.ntmps86
 go_wp2
 go_loopw [8] (λi wr=>wr=W/\(i=.int .i64 0\/(i=.int .i64 1/\x=0)\/(i=.int .i64 2/\x=0/\y=0))) (λi _=>2 - (intOf i).toNat)
 case atStart=>exact⟨rfl,.inl rfl⟩
 case round=>
  obtain⟨rfl,rfl|⟨rfl,rfl⟩|⟨rfl,rfl,rfl⟩⟩:=hrel
  ·go_wp2
   ·rename_i h;have hx:x≠0:=by simpa using h
    have e:orI x y=x:=if_pos hx;go_ret;exact⟨by rw[e];rfl,rfl⟩
   ·rename_i h;have hx:x=0:=by simpa using h
    exact⟨⟨trivial,.inr (.inl ⟨rfl,hx⟩)⟩,by decide⟩
  ·have e:orI 0 y=y:=by simp[orI]
   go_wp2
   ·go_ret;exact⟨by rw[e];rfl,rfl⟩
   ·rename_i h;have hy:y=0:=by simpa using h
    exact⟨⟨trivial,.inr (.inr ⟨rfl,trivial,hy⟩)⟩,by decide⟩
  ·go_wp2;go_ret;exact⟨rfl,rfl⟩
set_option maxRecDepth 100000 in
set_option maxHeartbeats 2000000 in
theorem acW (a b a' b':List UInt8)(W:World):
 Calls Tryz.prog 46 #[.agg #[.string ⟨a.toArray⟩,.string ⟨b.toArray⟩],.agg #[.string ⟨a'.toArray⟩,.string ⟨b'.toArray⟩]] W λe w'=>e=.returned (.int .i64 (orI (nT a a') (nT b b')))/\∃q os',w'=grow (W.drewN q) os':=by
 have hc1:=λW'=>M5 a a' W'
 have cq:=λW'=>M5 b b' W'
 generalize nT a a'=r1 at hc1 ⊢
 generalize nT b b'=r2 at cq ⊢
 go_enter Tryz.func46,Tryz.ntmps46
 go_wp2
 refine wp_region_still_tail 10 (by kernel_rfl) (by kernel_rfl) ?_
 obtain⟨U,hU⟩:∃U,U=(W.alloc (.cells #[.string ⟨a.toArray⟩,.string ⟨b.toArray⟩] 28)).alloc (.cells #[.string ⟨a'.toArray⟩,.string ⟨b'.toArray⟩] 28):=⟨_,rfl⟩
 rw[← hU]
 generalize hV:({U with drawn:=U.drawn+1}:World)=V
 have c1:V.cell? ⟨W.heap.size,0,none⟩=some (.string ⟨a.toArray⟩):=by rw[← hV];show U.cell? _=_;rw[hU];simp[go_sem]
 have c2:V.cell? ⟨W.heap.size,1,none⟩=some (.string ⟨b.toArray⟩):=by rw[← hV];show U.cell? _=_;rw[hU];simp[go_sem]
 have c3:V.cell? ⟨W.heap.size+1,0,none⟩=some (.string ⟨a'.toArray⟩):=by rw[← hV];show U.cell? _=_;rw[hU];simp[go_sem]
 have c4:V.cell? ⟨W.heap.size+1,1,none⟩=some (.string ⟨b'.toArray⟩):=by rw[← hV];show U.cell? _=_;rw[hU];simp[go_sem]
 simp only[List.take_succ_cons,List.take_zero,List.drop_succ_cons,List.drop_zero]
 iterate 4 still_step
 still_call (hc1 _)
 iterate 4 still_step
 still_call (cq _)
 refine wpStill_nil ?_
 go_wp2_with (go_at_call 86;refine(aq1 _ _ _ r1 r2 _ (by simp[go_sem]) (by simp[go_sem])).mono ?_;rintro e w' ⟨rfl,rfl⟩)
 go_ret
 refine⟨rfl,1,(#[.cells #[.string ⟨a.toArray⟩,.string ⟨b.toArray⟩] 28]++ #[.cells #[.string ⟨a'.toArray⟩,.string ⟨b'.toArray⟩] 28])++ #[.cells #[.int .i64 r1,.int .i64 r2] 3], ?_⟩
 rw[← hV,hU,alloc_eq_grow,alloc_eq_grow,alloc_eq_grow,grow_grow]
 exact grow_grow (W.drewN 1) _ _
set_option maxHeartbeats 1000000 in
theorem acX (m:Int)(l:List Tree)(hl:l.length<=4194304)(hne:l≠ [])(hf:∀e∈l,AtF e):
 ai (cf m) 151 [.ref (.arg 0) 0 l.length,.t (.fn (.func 46))] [.arr (28,true) 2 false ((flat l).map .t)] (.ret (.t (.bU [])) [.arr (28,true) 2 false ((flat (vI l)).map .t)] []):=by
 intro G w vs hw hg had hH hv
 obtain⟨x,vs1,rfl,hx,hv⟩:=hv.j5
 obtain⟨y,rfl,hy⟩:=hv.only
 obtain⟨hd,ho⟩:=hH (.arg 0) _ rfl
 obtain⟨_,cap,us,ty,fr,ha,hh,⟨tG,hty⟩,hsz,hcl,HS,hF⟩:=ho
 have hu:∀e∈l,e.cells.length=2:=λe he=>by obtain⟨n,s,rfl⟩:=hf e he;rfl
 have hu2:∀e∈vI l,e.cells.length=2:=λe he=>hu e (F6 he)
 have hn:((flat l).map TV.t).length=l.length*2:=by rw[List.length_map,fB hu]
 have hn2:((flat (vI l)).map TV.t).length=l.length*2:=by rw[List.length_map,fB hu2,s7]
 rw[hn] at ha hcl HS
 have hpos:0<l.length:=by cases l with|nil=>exact absurd rfl hne|cons=>simp
 obtain rfl:y=.func (.func 46) #[] #[]:=by
  cases hy with|t _ _ hy=>cases hy;rfl
 obtain rfl:x=.slice (some ⟨G.mu (.arg 0),0,none⟩) l.length cap:=by
  cases hx with
  | ref k off len n cg cap' v hd' Cy hle' ho' Bu=>
    rw[ha] at Cy;cases Cy
    obtain⟨a,rfl,h2⟩:=Bu (by omega)
    have:=h2 (by omega)
    subst this;rfl
 have hcell:∀q c,(flat l)[q]?=some c->∃v,us[q]?=some v/\VT G.F c v:=λq c hc=>by
  have hq:q<l.length*2:=by rw[← fB hu];exact(List.getElem?_eq_some_iff.1 hc).1
  obtain⟨v,hv1,hv2⟩:=HS.at (j:=q) (c:=.t c) (by rw[List.getElem?_map,hc];rfl);rw[List.getElem?_take_of_lt hq,Array.getElem?_toList] at hv1;cases hv2 with|t _ _ h=>exact⟨v,hv1,h⟩
 have agA:∀i,uS us l.length i=[.string ⟨(R6 (l[i]?.getD .cR)).toArray⟩,.string ⟨(idU (l[i]?.getD .cR)).toArray⟩]:=λi=>by
  by_cases hi:i<l.length
  ·obtain⟨n,s,he⟩:=hf l[i] (List.getElem_mem hi);have hat:∀r,r<2->(flat l)[i*2+r]?=(Tree.agg [.str n,.str s]).cells[r]?:=λr hr=>by
    rw[AN l hu,show(i*2+r)/ 2=i by omega,show(i*2+r) % 2=r by omega,List.getElem?_eq_getElem hi,he];rfl
   obtain⟨v0,h0,w0⟩:=hcell _ _ (hat 0 (by decide));obtain⟨v1,h1,w1⟩:=hcell _ _ (hat 1 (by decide));have hnm:R6 (l[i]?.getD .cR)=n:=by rw[List.getElem?_eq_getElem hi,Option.getD_some,he];rfl
   have aq2:idU (l[i]?.getD .cR)=s:=by rw[List.getElem?_eq_getElem hi,Option.getD_some,he];rfl
   have kA:uS us l.length i=[v0,v1]:=by
    unfold uS;rw[if_pos hi];apply List.ext_getElem?;intro r;by_cases hr:r<2
    ·rw[List.getElem?_take_of_lt hr,List.getElem?_drop,Array.getElem?_toList];match r,hr with
     |0,_=>exact h0
     |1,_=>exact h1
    ·rw[List.getElem?_eq_none (by simp;omega),List.getElem?_eq_none (by simp;omega)]
   rw[kA,hnm,aq2];cases w0;cases w1;rfl
  ·unfold uS;rw[if_neg hi,List.getElem?_eq_none (by omega)];rfl
 have hk:∀i,(uS us l.length i).length=2:=λi=>by rw[agA i];rfl
 have h1:∀i,∀v∈uS us l.length i,v.oneCell'=true:=λi v hv=>by
  rw[agA i] at hv;simp only[List.mem_cons,List.not_mem_nil,or_false] at hv;rcases hv with rfl|rfl<;>rfl
 have hcmp:CmpLays Tryz.prog 46 #[] (uS us l.length) 2 (cfA l) (G.mu (.arg 0)) 0 (Array.range l.length).size w:=λmm os dk _ i j=>by
  have e:=agA i;have e':=agA j;generalize sortWorldK (uS us l.length) 2 w (G.mu (.arg 0)) 0 mm dk os=W;rw[e,e'];exact acW _ _ _ _ W
 have hrd:∀i,i<l.length->(Array.range l.length)[i]! =i:=λi hi=>by simp[hi]
 have aok:∀(D:Array Nat),D.size=l.length->(∀q,q<l.length->D[q]! <l.length)->∀j,j<l.length*2->us[D[j / 2]! *2+j % 2]?=some (flatK (uS us l.length) 2 D)[j]!:=λD hD hlt j hj=>by
  have hj5:j / 2<l.length:=by omega
  have hq:=hlt _ hj5;rw[get_flatK _ _ _ _ (by rw[hD];exact hj)];have hlen:D[j / 2]! *2+j % 2<us.size:=by omega
  have:(uS us l.length D[j / 2]!)[j % 2]?=us[D[j / 2]! *2+j % 2]?:=by
   unfold uS;rw[if_pos hq,List.getElem?_take_of_lt (by omega),List.getElem?_drop,Array.getElem?_toList]
  rw[← this];have h5:j % 2<(uS us l.length D[j / 2]!).length:=by rw[hk];omega
  rw[List.getElem?_eq_getElem h5,getElem!_pos (uS us l.length D[j / 2]!) (j % 2) h5]
 have aol:HoldsK (uS us l.length) 2 w (G.mu (.arg 0)) 0 (Array.range l.length):=λj hj=>by
  have hj':j<l.length*2:=by simpa using hj
  have hju:j<us.size:=by omega
  refine⟨?_,by rw[Nat.zero_add];exact ni hh tG hju⟩;have:=aok (Array.range l.length) (by simp) (λq hq=>by rw[hrd q hq];exact hq) j hj';rw[hrd _ (by omega),show j / 2*2+j % 2=j by omega] at this;simp only[World.cell?,hh,Nat.zero_add];exact this
 have eg:∀args w,(callFunc 46 args).run Tryz.prog w=.ok (.enter 46 args) w:=enters_of Tryz.func46 (by kernel_rfl) rfl
 have es:∀args w,(callFunc 151 args).run Tryz.prog w=.ok (.enter 151 args) w:=enters_of Tryz.func151 (by kernel_rfl) rfl
 have aom:=AnyQ.slices_SortFunc_eq Tryz.sortf151 2 Tryz.isAgg28 Tryz.sizeOf28 (uS us l.length) hk h1 (cfA l) (aoh l) 46 #[] (G.mu (.arg 0)) 0 cap (Array.range l.length) w eg hcmp aol (hw.lt _ hd) (by simp;omega)
 rw[Array.size_range] at aom
 refine .inl ⟨es _ _,Calls.mono aom ?_⟩
 rintro e w' ⟨rfl,q,os,rfl⟩
 have hps:=yj l
 obtain⟨D,hD⟩:∃D,D=permA l:=⟨_,rfl⟩
 have hDs:D.size=l.length:=by rw[hD];exact hps
 have hDl:∀q,q<l.length->D[q]! <l.length:=λq hq=>by rw[hD];exact R7 hq
 change yH G w 1 _ _ (sortWorldK (uS us l.length) 2 w (G.mu (.arg 0)) 0 q (permA l) os)
 rw[← hD]
 obtain⟨w',hw'⟩:∃w',w'=sortWorldK (uS us l.length) 2 w (G.mu (.arg 0)) 0 q D os:=⟨_,rfl⟩
 rw[← hw']
 have gB:w.grownBy w' (some (G.mu (.arg 0))):=by
  rw[hw'];unfold sortWorldK putRowK;refine⟨rfl,rfl,rfl,by simp,λk hk hne=> ?_⟩;rw[heap_grow_old _ _ (by simpa using hk)];have:G.mu (.arg 0)≠k:=λe=>hne (by rw[e])
  simp[putRow,mapBlock,Sort.ahead,Array.getElem?_modify,this]
 have hblk:w'.heap[G.mu (.arg 0)]?=some (.cells (putCells id 0 (flatK (uS us l.length) 2 D) us) ty fr):=by
  rw[hw'];unfold sortWorldK putRowK;rw[heap_grow_old _ _ (by simpa using hw.lt _ hd)];simp only[putRow,mapBlock,Sort.ahead,Array.getElem?_modify,if_true,hh,Option.map_some,onCells]
 have hcs:(putCells id 0 (flatK (uS us l.length) 2 D) us).size=us.size:=by simp[putCells]
 refine⟨_,G,rfl,⟨.refl G,⟨λb o v hf=> ?_,hw.inj,λk d=>Nat.lt_of_lt_of_le (hw.lt k d) gB.size⟩,λ_ _ h=>absurd trivial h,λb hlt hn=>⟨gB.block b hlt λe=>hn _ trivial hd (Gh.lG ha (by decide)) (Option.some.inj e).symm,λ_=>rfl⟩,λ_ d=>.inl d,λk d=>.inl ⟨k,d,rfl,.inl rfl⟩,gB.size,gB.os,gB.tape,gB.output⟩,rfl,λi o ho=> ?_,λ_ _ h=>by simp at h, ?_⟩
 ·obtain⟨us',t',f',h1,h2⟩:=hw.F b o v hf;have hb:b≠G.mu (.arg 0):=λe=>by
   subst e;rw[hF o (.inl rfl)] at hf;cases hf
  exact⟨us',t',f',by rw[gB.block b (Array.getElem?_eq_some_iff.1 h1).1 λe=>hb (Option.some.inj e)];exact h1,h2⟩
 ·match i,ho with
  | 0,ho=>
    simp at ho;subst ho
    refine⟨hd,by decide,cap,_,ty,fr,by rw[hn2];exact ha,hblk,⟨λo ho=>tG o (by rw[hcs] at ho;exact ho),hty⟩,by rw[hcs];exact hsz,by rw[hn2,hcs];exact hcl, ?_,λo _=>hF o (.inl rfl)⟩
    rw[hn2]
    have hlq:(putCells id 0 (flatK (uS us l.length) 2 D) us).toList.length=us.size:=(Array.length_toList (xs:=putCells id 0 (flatK (uS us l.length) 2 D) us)).trans hcs
    refine⟨by rw[List.length_take,hlq,hn2];omega,λj c v hc hv=> ?_⟩
    rw[List.getElem?_map,Option.map_eq_some_iff] at hc
    obtain⟨c,hc,rfl⟩:=hc
    have hj:j<l.length*2:=by rw[← hn2,List.length_map];exact(List.getElem?_eq_some_iff.1 hc).1
    rw[List.getElem?_take_of_lt hj,Array.getElem?_toList] at hv
    have hju:j<us.size:=by omega
    have hv2:v=(flatK (uS us l.length) 2 D)[j]!:=by
      simp only[putCells,Array.getElem?_mapIdx,Array.getElem?_eq_getElem hju,Option.map_some,size_flatK,hDs,Nat.zero_le,true_and,Nat.zero_add,if_pos hj,Option.some.injEq,Nat.sub_zero,id] at hv
      exact hv.symm
    have h3:=aok D hDs hDl j hj
    rw[AN _ hu2,R8 (by omega),← hD] at hc
    have cq:(flat l)[D[j / 2]! *2+j % 2]?=some c:=by
      rw[AN l hu,show(D[j / 2]! *2+j % 2)/ 2=D[j / 2]! by omega,show(D[j / 2]! *2+j % 2) % 2=j % 2 by omega]
      exact hc
    obtain⟨v',h4,h5⟩:=hcell _ _ cq
    rw[h3] at h4
    cases h4
    rw[hv2]
    exact .t _ _ h5
 ·exact .t _ _ (.bU [] [] rfl (by simp))
end Go.Proofs.YtfdnciimclnncaaGreatDoor.w
namespace Go.Proofs.YtfdnciimclnncaaGreatDoor.w.e
open Go Go.Abs
set_option maxRecDepth 100000
set_option maxHeartbeats 2000000
noncomputable section
open Classical in
def pcU (P:Tree->Tree->Prop)(F:Tree->Tree->List Tree):List TV->List aP->Option bh:=λvb os=>match vb,os with
 | [.t x,.t y],[]=>if P x y then some (upR (.loc [0]) (F x y)) else none
 |_,_=>none
theorem ake {C:ez}{g:FuncId}{P:Tree->Tree->Prop}{F:Tree->Tree->List Tree}(h:∀x y,P x y->ai C g [.t x,.t y] [] (upR (.loc [0]) (F x y))):kQ C g (pcU P F):=λa o q hq=>by
 unfold pcU at hq;split at hq
 ·split at hq
  ·rename_i hp;cases hq;exact h _ _ hp
  ·cases hq
 ·cases hq
theorem aon {ev:bt}{g:FuncId}{P:Tree->Tree->Prop}{F:Tree->Tree->List Tree}(h:Has ev g (pcU P F)){x y:Tree}(hp:P x y):ev g [.t x,.t y] []=some (upR (.loc [0]) (F x y)):=h _ _ _ (if_pos hp)
def UpP (x y:Tree):Prop:=(T .aQ x/\DO x)/\(T .fe y/\(tZ y).length<=16)/\tZ y≠ []
theorem acY (m:Int):∃F:Tree->Tree->List Tree,∀x y,UpP x y->ai (cf m) 48 [.t x,.t y] [] (upR (.loc [0]) (F x y))/\((∀u∈F x y,T .aI u)/\(F x y).length<=1040):=by
 obtain⟨F,hF⟩:=bJ (α:=Tree×Tree) (P:=λp=>UpP p.1 p.2) (Q:=λp (r:List Tree)=>ai (cf m) 48 [.t p.1,.t p.2] [] (upR (.loc [0]) r)/\((∀u∈r,T .aI u)/\r.length<=1040)) λp hp=>by
  obtain⟨x,y⟩:=p;obtain⟨⟨hx,hr⟩,⟨hy,hs⟩,hne⟩:=hp;obtain⟨l,rfl,hl,hl2⟩:=T.fD hx;obtain⟨sm,rfl,Gj,hs2⟩:=T.vq hy;have aqE:sm.length<=16:=hs;have hU:(sm++l.flatMap vV).length<=1040:=by
   have:=RE (l:=l) hr.2;have aqD:l.length<=64:=hr.1;rw[List.length_append];omega
  obtain⟨⟨r,h1,h2⟩,h3⟩:=aq0 m l sm (sm++l.flatMap vV) hl hl2 Gj hs2 hne (λy hy=>List.mem_append_left _ hy) (λe he y hy=>List.mem_append_right _ (List.mem_flatMap.2 ⟨e,he,hy⟩)) (by omega);exact⟨r,h3,h1,by omega⟩
 exact⟨λx y=>F (x,y),λx y h=>hF (x,y) h⟩
def KZ (L:List Tree):List TV×List aP:=([.ref (.arg 0) 0 L.length,.t (.fn (.func 46))],[.arr (28,true) 2 false ((flat L).map .t)])
def M6 (L:List Tree):Prop:=(∀y∈L,T .aI y)/\L≠ []/\L.length<=4194304
def acZ (L:List Tree):bh:=.ret (.t (.bU [])) [.arr (28,true) 2 false ((flat (vI L)).map .t)] []
theorem agB:∀x y,M6 x->M6 y->KZ x=KZ y->x=y:=λx y h1 h2 h=>gZ (by decide) (bn h1.1) (bn h2.1) (congrArg (AU 0) h)
theorem akf (m:Int)(L:List Tree)(h:M6 L):ai (cf m) 151 (KZ L).1 (KZ L).2 (acZ L):=acX m L h.2.2 h.2.1 λe he=>by
 obtain⟨a,b,rfl,_⟩:=T.cr (h.1 e he);exact⟨a,b,rfl⟩
theorem ac0 (m:Int):ai (cf m) 151 [.t (.sl []),.t (.fn (.func 46))] [] (.ret (.t (.bU [])) [] []):=by
 intro G w vs hw hg had hH hv;obtain⟨x,y,rfl,hx,hy⟩:=hv.two;have es:∀args w,(callFunc 151 args).run Tryz.prog w=.ok (.enter 151 args) w:=enters_of Tryz.func151 (by kernel_rfl) rfl;have hx':∃a cap,x=.slice a 0 cap:=by
  cases hx with|t _ _ hx=>
  generalize hz':([]:List Tree)=l at hx;cases hx with
  |Es a cap=>exact⟨a,cap,rfl⟩
  |sl cg es b o cap vals hne hc hu hF WJ=>exact absurd hz'.symm hne
 obtain⟨a,cap,rfl⟩:=hx';refine .inl ⟨es _ _,Calls.mono (AnyF.slices_SortFunc_none Tryz.sortf151 a cap y w) ?_⟩;rintro e w' ⟨rfl,rfl⟩;exact⟨_,G,rfl,Step.refl hw _ _,rfl,λi o ho=>by simp at ho,λ_ _ h=>by simp at h,.t _ _ (.bU [] [] rfl (by simp))⟩
theorem Yi:∀x o r,px [.t (.sl []),.t (.fn (.func 46))] [] (.ret (.t (.bU [])) [] []) x o=some r->iQ KZ M6 acZ x o=none:=λx o r hr=>by
 unfold px at hr;split at hr
 ·rename_i hp;unfold iQ;refine dif_neg λ⟨z,_,hz⟩=> ?_
  rw[hp.2] at hz;exact absurd (congrArg (λp=>p.2.length) hz) (by simp[KZ])
 ·cases hr
theorem ac1 (m:Int)(l:List Tree)(hl:l.length<=4194304)(hl2:∀y∈l,T .bP y)(a b:List UInt8)(ha:a.length<=4194304)(hb:b.length<=4194304):∃r:{r:List Tree×Int //(∀y∈r.1,T .aI y)/\r.1.length<=4194304},ai (cf m) 105 [.t (.sl l),.t (.agg [.str a,.str b])] [] (.ret (.t (.bU [.sl r.1.1,.int .i64 r.1.2])) [] []):=by
 obtain⟨UC,ac2⟩:=Fv m;obtain⟨zG,Ol⟩:=Di m;obtain⟨uoF,ahR⟩:=acY m;obtain⟨ev,aK,OZ,Fp,ahS,zY⟩:∃ev,aD (cf m) ev/\Has ev 24 (mY (λx=>T .aQ x) (λx=>.int .i64 (UC x)))/\Has ev 22 (mY (λx=>T .aI x) (λx=>.int .i64 (zG x)))/\Has ev 48 (pcU UpP uoF)/\Has ev 151 (Kg (iQ KZ M6 acZ) (px [.t (.sl []),.t (.fn (.func 46))] [] (.ret (.t (.bU [])) [] []))):=⟨_,(aq (bT (λx h=>(ac2 x h).1)) (aq (bT (λx h=>(Ol x h).1)) (aq (ake (λx y h=>(ahR x y h).1)) (aq (Dv (dD (akf m)) (fT (ac0 m))) aF)))),au,(az rfl au),(az rfl (az rfl au)),(az rfl (az rfl (az rfl au)))⟩;refine AX.start 26 2 Tryz.func105 rfl (by decide) rfl rfl (by decide) ?_;refine AX.frames ?_;have hp1:=(ac2 (.sl l) (.aQ _ cc hl2)).2;rcases aM (((UC (.sl l)) != 0)) with cq|cq
 ·have jP:=dM cq;refine⟨⟨([],(UC (.sl l))),λy hy=>(by cases hy),Nat.zero_le _⟩,qH ah 33554432 [] [oC (cO OZ (x:=.sl l) (.aQ _ cc hl2)),oB cq]⟩
 ·have jP:=cC cq;rcases aM (((zG (.agg [.str a,.str b])) != 0)) with bK|bK
  ·have mH:=dM bK;refine⟨⟨([],(zG (.agg [.str a,.str b]))),λy hy=>(by cases hy),Nat.zero_le _⟩,qH ah 33554432 [] [oC (cO OZ (x:=.sl l) (.aQ _ cc hl2)),oB cq,oC (cO Fp (x:=.agg [.str a,.str b]) (.aI _ _ cc cc)),oB bK]⟩
  ·have mH:=cC bK;have hrow:DO (.sl l):=hp1 (cC cq);have ac3:UpP (.sl l) (.sl [.agg [.str a,.str b]]):=⟨⟨(.aQ _ cc hl2),hrow⟩,⟨(.fe _ cc (bD (.aI _ _ cc cc) (λ_ h=>absurd h (by simp)))),(by show(1:Nat)<=16;omega)⟩,by simp[tZ]⟩;have M7:=(ahR _ _ ac3).2;rcases hr_4:(uoF (.sl l) (.sl [.agg [.str a,.str b]])) with _|⟨HI,HJ⟩
   ·refine⟨⟨([],0),λy hy=>(by cases hy),Nat.zero_le _⟩,qH ah 33554432 [] [oC (cO OZ (x:=.sl l) (.aQ _ cc hl2)),oB cq,oC (cO Fp (x:=.agg [.str a,.str b]) (.aI _ _ cc cc)),oB bK,wg 48 [.t (.sl l),.t (.sl [.agg [.str a,.str b]])] (.sl []) ((aon ahS ac3).trans (congrArg (λz=>some (upR (.loc [0]) z)) hr_4)),oC (jo (Dw zY Yi))]⟩
   ·rw[hr_4] at M7;have akg:M6 (HI::HJ):=⟨M7.1,by simp,by have:=M7.2;omega⟩;have asS:(vI (HI::HJ)).length=(HI::HJ).length:=s7 _;refine⟨⟨((vI (HI::HJ)),0),(λy hy=>M7.1 y (F6 hy)),(by show(vI _).length<=_;have:=M7.2;omega)⟩,qH ah 33554432 [] [oC (cO OZ (x:=.sl l) (.aQ _ cc hl2)),oB cq,oC (cO Fp (x:=.agg [.str a,.str b]) (.aI _ _ cc cc)),oB bK,oC (show ev 48 [.t (.sl l),.t (.sl [.agg [.str a,.str b]])] []=some (bh.ret (.ref (.loc [0]) 0 (HI::HJ).length) [] [(.loc [0],.arr (28,true) 2 false ((flat (HI::HJ)).map .t))]) from(aon ahS ac3).trans (congrArg (λz=>some (upR (.loc [0]) z)) hr_4)),cZ 28 2 (HI::HJ),cZ 28 2 (HI::HJ),oC (fH (vu zY) agB (HI::HJ) akg rfl rfl),cZ 28 2 (vI (HI::HJ)),oX true 2 (vI (HI::HJ)) ((HI::HJ).length) cT (bn (λy hy=>M7.1 y (F6 hy)))]⟩
end
end Go.Proofs.YtfdnciimclnncaaGreatDoor.w.e
namespace Go.Proofs.YtfdnciimclnncaaGreatDoor.w.e
open Go Go.Abs
set_option maxRecDepth 100000
set_option maxHeartbeats 2000000
noncomputable section
theorem akh (m:Int)(L:List Tree)(hL1:L.length<=4194304)(hL2:∀y∈L,T .aI y)(e:Tree)(he:T .av e):∃r:Bool,ai (cf m) 107 (.t e::[.ptr (.arg 0) 0]) [.cells 56 [.t (.sl L)]] (.ret (.t (.bool r)) [.cells 56 [.t (.sl L)]] []):=by
 have bw:=he;obtain⟨cN,jX,n_1,s_1,dH,aU,dm,rfl,cL,cF,fQ,dX,fk,eR⟩:=T.aB bw;obtain⟨GK,Rh⟩:=Ka m;obtain⟨ev,aK,F0,Du⟩:∃ev,aD (cf m) ev/\Has ev 104 (mY (λx=>∃k b n s t ns l,x=(aA k b n s t ns l)) afB)/\Has ev 47 (rM (λx y=>T .fe x/\T .aI y) (λx y=>.bool (GK x y))):=⟨_,(aq (bT λx h=>by obtain⟨k,b,n,s,t,ns,l,rfl⟩:=h;exact Up m k b n s t ns l) (aq (dA (λx y h=>(Rh x y h).1)) aF)),au,(az rfl au)⟩;refine AX.start 8 2 Tryz.func107 rfl (by decide) rfl rfl (by decide) ?_;refine AX.frames ?_;exact⟨(GK (.sl L) (.agg [.str dH,.str s_1])),kf ah [wg 104 [.t (aA cN jX n_1 s_1 dH aU dm)] (.agg [.str dH,.str s_1]) (cO F0 (x:=(aA cN jX n_1 s_1 dH aU dm)) ⟨_,_,_,_,_,_,_,rfl⟩),oC (eL Du (x:=.sl L) (y:=.agg [.str dH,.str s_1]) ⟨(.fe _ cc hL2),(.aI _ _ cc cc)⟩)]⟩
theorem aoo (m:Int)(L:List Tree)(q:Tree->Bool)(l:List Tree)(hl:l.length<=4194304)(hl2:∀y∈l,T .av y)(hq:∀x,T .av x->RK (cf m) 107 [.ptr (.arg 0) 0] [.cells 56 [.t (.sl L)]] x (.bool (q x))):∃r:Int,ai (cf m) 152 (.t (.sl l)::[.fn (.func 107) [] [.ptr (.arg 0) 0]]) [.cells 56 [.t (.sl L)]] (.ret (.t (.int .i64 r)) [.cells 56 [.t (.sl L)]] []):=by
 obtain⟨ev,aK,e_q⟩:∃ev,aD (cf m) ev/\Has ev 107 (pk [.ptr (.arg 0) 0] [.cells 56 [.t (.sl L)]] (T .av) λx=>.bool (q x)):=⟨_,(aq (ZV hq) aF),au⟩;refine AX.start 19 2 Tryz.func152 rfl (by decide) rfl rfl (by decide) ?_;refine AX.frames ?_;refine kl (α:=Nat) ah 0 [] 19 0 [] [.arg 0] [0,1,7,8] (λx=>⟨eD 19 [(0,.t (.sl l)),(1,.fn (.func 107) [] [.ptr (.arg 0) 0]),(7,.t (.int .i64 ((l.length:Nat):Int))),(8,.t (.int .i64 ((x:Nat):Int)))],[(.arg 0,.cells 56 [.t (.sl L)])],0⟩) (λx=>(x<=l.length)) (λx=>l.length - x) 0 (j6 (Tryz.f152.body.getD .skip) 2) [] (by show(0<=l.length);first|trivial|omega|(refine⟨?_, ?_⟩<;>first|omega|exact SM.nil)|simp) (λx hok=> ?_);obtain⟨i_1,zB⟩:∃y,y=x:=⟨x,rfl⟩;subst zB;replace hok:(i_1<=l.length):=hok;have cM:=hok;rcases aM (decide (((i_1:Nat):Int)<((l.length:Nat):Int))) with cq|cq
 ·have jP:=of_decide_eq_true cq;obtain⟨e3,lU⟩:=dr l i_1;have mI:=(hl2 e3 (fW lU));obtain⟨nQ,BQ,yz,yA,BR,kz,mS,rfl,qM,rU,BS,zF,BT,BU⟩:=T.aB mI;have aop:=aix e_q (x:=(aA nQ BQ yz yA BR kz mS)) mI;rcases aM ((q (aA nQ BQ yz yA BR kz mS))) with jm|jm
  ·refine kx ah [oB cq,oE lU,oC aop,oB jm] ?_;exact⟨((i_1:Nat):Int),kf ah []⟩
  ·exact⟨.inl ⟨i_1+1,⟨(by show(i_1+1)<=l.length;omega),(by show(l.length - (i_1+1))<(l.length - i_1);omega)⟩⟩,vS ah 0 [] 19 0 [] [.arg 0] [0,1,7,8] [oB cq,oE lU,oC aop,oB jm,oI (i_1) (by omega)]⟩
 ·have jP:=of_decide_eq_false cq;refine kx ah [oB cq] ?_;exact⟨-1,kf ah []⟩
theorem aoq (m:Int)(L:List Tree)(q:Tree->Bool)(l:List Tree)(hl:l.length<=4194304)(hl2:∀y∈l,T .av y)(hq:∀x,T .av x->RK (cf m) 107 [.ptr (.arg 0) 0] [.cells 56 [.t (.sl L)]] x (.bool (q x))):∃r:Bool,ai (cf m) 106 (.t (.sl l)::[.fn (.func 107) [] [.ptr (.arg 0) 0]]) [.cells 56 [.t (.sl L)]] (.ret (.t (.bool r)) [.cells 56 [.t (.sl L)]] []):=by
 obtain⟨ri,hri⟩:=aoo m L q l hl hl2 hq;obtain⟨ev,aK,aor⟩:∃ev,aD (cf m) ev/\Has ev 152 (px (.t (.sl l)::[.fn (.func 107) [] [.ptr (.arg 0) 0]]) [.cells 56 [.t (.sl L)]] (.ret (.t (.int .i64 ri)) [.cells 56 [.t (.sl L)]] [])):=⟨_,(aq (fT hri) aF),au⟩;refine AX.start 9 2 Tryz.func106 rfl (by decide) rfl rfl (by decide) ?_;refine AX.frames ?_;exact⟨decide (ri>=0),kf ah [oC (jo aor)]⟩
theorem aki (m:Int)(L:List Tree)(hL1:L.length<=4194304)(hL2:∀y∈L,T .aI y):∃q:Tree->Bool,∀x,T .av x->RK (cf m) 107 [.ptr (.arg 0) 0] [.cells 56 [.t (.sl L)]] x (.bool (q x)):=by
 obtain⟨F,hF⟩:=bJ (α:=Tree) (P:=λx=>T .av x) (Q:=λx (r:Bool)=>RK (cf m) 107 [.ptr (.arg 0) 0] [.cells 56 [.t (.sl L)]] x (.bool r)) λx hx=>akh m L hL1 hL2 x hx
 exact⟨F,hF⟩
theorem UD (m:Int):∃F:Tree->Tree->List Tree×Int,∀x y,(T .aQ x/\T .aI y)->R2 (cf m) 105 x y (.bU [.sl (F x y).1,.int .i64 (F x y).2])/\((∀u∈(F x y).1,T .aI u)/\(F x y).1.length<=4194304):=by
 refine tO (P:=λx y=>T .aQ x/\T .aI y) (mk:=λ(r:List Tree×Int)=>.bU [.sl r.1,.int .i64 r.2]) (Post:=λx y r=>(∀u∈r.1,T .aI u)/\r.1.length<=4194304) λx y h=> ?_
 obtain⟨l,rfl,hl,hl2⟩:=T.fD h.1;obtain⟨a,b,rfl,ha,hb⟩:=T.cr h.2;exact ac1 m l hl hl2 a b ha hb
theorem akj (m:Int)(l:List Tree)(L:List Tree)(h0:l.length<=4194304)(h1:∀y∈l,T .av y)(h2:L.length<=4194304)(h3:∀y∈L,T .aI y):∃r:{r:Bool // True},ai (cf m) 106 [.t (.sl l),.fn (.func 107) [] [.ptr (.arg 0) 0]] [.cells 56 [.t (.sl L)]] (.ret (.t (.bool (r.1))) [.cells 56 [.t (.sl L)]] []):=by
 obtain⟨q,hq⟩:=aki m L h2 h3;obtain⟨r,hr⟩:=aoq m L q l h0 h1 hq;exact⟨⟨r,trivial⟩,hr⟩
def K0 (x:List Tree×List Tree):List TV×List aP:=([.t (.sl x.1),.fn (.func 107) [] [.ptr (.arg 0) 0]],[.cells 56 [.t (.sl x.2)]])
def K1 (x:List Tree×List Tree):Prop:=(x.1.length<=4194304)/\(∀y∈x.1,T .av y)/\(x.2.length<=4194304)/\(∀y∈x.2,T .aI y)
def ac4 (x:List Tree×List Tree)(r:Bool):bh:=(.ret (.t (.bool (r))) [.cells 56 [.t (.sl x.2)]] [])
theorem Wf:∀x y,K1 x->K1 y->K0 x=K0 y->x=y:=by
 rintro ⟨l1,L1⟩ ⟨l2,L2⟩ h1 h2 h;have e_l:l1=l2:=congrArg (ai3 0) h;have uL:L1=L2:=congrArg (zM 0 0) h;rw[e_l,uL]
theorem agC (m:Int):∃F:(List Tree×List Tree)->Bool,∀l L,K1 (l,L)->ai (cf m) 106 (K0 (l,L)).1 (K0 (l,L)).2 (ac4 (l,L) (F (l,L)))/\(True):=by
 obtain⟨F,hF⟩:=bJ (α:=List Tree×List Tree) (P:=K1) (Q:=λx (r:Bool)=>ai (cf m) 106 (K0 x).1 (K0 x).2 (ac4 x r)/\(True)) λx hx=>by
  obtain⟨l,L⟩:=x;obtain⟨h0,h1,h2,h3⟩:=hx;obtain⟨⟨r,hr⟩,h⟩:=akj m l L h0 h1 h2 h3;exact⟨r,h,hr⟩
 exact⟨F,λl L hx=>hF (l,L) hx⟩
theorem akk (m:Int)(q:Sc)(e:Tree)(l:List Tree)(h0:T .aG e)(h1:l.length<=4194304)(h2:∀y∈l,T .av y)(h3:2<=l.length)(h4:SD q):∃r:{r:Tree ⊕ Int //((∀v,r=.inl v->T .av v))/\∀w,r=.inr w->w≠0},ai (cf m) 65 [.ptr (.arg 0) 0,.t e,.t (.sl l)] [.cells 63 (aV q)] (aN (r.1) [.cells 63 (aV q)]):=by
 have hrw:q.row.length<=4194304:=h4.2.1;have bw:=h0;obtain⟨bX,n_1,s_1,dH,aU,bN,rfl,cL,cF,fQ,dX,fk,eR,jq⟩:=T.bE bw;obtain⟨sI,ac5⟩:=UD m;obtain⟨Ef,ac6⟩:=agC m;obtain⟨ev,aK,bC,F0,ahT,ahU,l6⟩:∃ev,aD (cf m) ev/\Has ev 52 sH/\Has ev 104 (mY (λx=>∃k b n s t ns l,x=(aA k b n s t ns l)) afB)/\Has ev 105 (rM (λx y=>T .aQ x/\T .aI y) (λx y=>.bU [.sl (sI x y).1,.int .i64 (sI x y).2]))/\Has ev 106 (iQ K0 (K1) (λx=>ac4 x (Ef x)))/\Has ev 94 (mY (λx=>∃b,x=.bool b) Bh):=⟨_,(aq (jY m) (aq (bT λx h=>by obtain⟨k,b,n,s,t,ns,l,rfl⟩:=h;exact Up m k b n s t ns l) (aq (dA (λx y h=>(ac5 x y h).1)) (aq (dD (λ⟨l,L⟩ hx=>(ac6 l L hx).1)) (aq (bT λx h=>by obtain⟨b,rfl⟩:=h;exact qY m b) aF))))),au,(az rfl au),(az rfl (az rfl au)),(az rfl (az rfl (az rfl au))),(az rfl (az rfl (az rfl (az rfl au))))⟩;refine AX.start 53 3 Tryz.func65 rfl (by decide) rfl rfl (by decide) ?_;refine AX.frames ?_;obtain⟨e2,jB⟩:=dr l 0;have jd:=(h2 e2 (fW jB));obtain⟨aZ,eS,jx,iu,dn,bq,bH,rfl,r9,sg,uw,ux,uy,uz⟩:=T.aB jd;rcases aM ((aZ==3)) with nS|nS
 ·have Ca:=eq_of_beq nS;obtain⟨e5,kA⟩:=dr l 1;have lq:=(h2 e5 (fW kA));obtain⟨dK,kE,qq,rE,kG,dc,bG,rfl,pQ,rW,tU,tV,tW,pR⟩:=T.aB lq;rcases aM ((dK==4)) with gi|gi
  ·have mR:=eq_of_beq gi;refine kl (α:=Nat) ah 0 [] 53 2 [.loc [1],.loc [7]] [.loc [1],.loc [7],.arg 0] [0,6,7,8,31,32,33] (λx=>⟨eD 53 [(0,.ptr (.arg 0) 0),(6,.ptr (.loc [0]) 0),(7,.ptr (.loc [1]) 0),(8,.t (.sl bG)),(31,.t (.sl bG)),(32,.t (.int .i64 ((bG.length:Nat):Int))),(33,.t (.int .i64 ((x:Nat):Int)))],[(.loc [0],.cells 32 [.t (.int .u8 0),.t (.bool false),.t (.int .i64 0),.t (.str []),.t (.str []),.bW,.bW]),(.loc [1],.cells 28 [.t (.str dn),.t (.str iu)]),(.arg 0,.cells 63 (aV q))],2⟩) (λx=>(x<=bG.length)) (λx=>bG.length - x) 0 (j6 (Tryz.f65.body.getD .skip) 6) [oE jB,oC (show ev 52 [.t (aA aZ eS jx iu dn bq bH),.t (.int .u8 3)] []=some (aN (.inl (aA aZ eS jx iu dn bq bH)) []) from bC _ _ _ (by show some (aN (cond ((aZ==3)) _ _) [])=_;rw[nS];rfl)),wg 104 [.t (aA aZ eS jx iu dn bq bH)] (.agg [.str dn,.str iu]) (cO F0 (x:=(aA aZ eS jx iu dn bq bH)) ⟨_,_,_,_,_,_,_,rfl⟩),oE kA,oE kA,oB gi,oE kA] (by show(0<=bG.length);first|trivial|omega|(refine⟨?_, ?_⟩<;>first|omega|exact SM.nil)|simp) (λx hok=> ?_);obtain⟨yQ,zB⟩:∃y,y=x:=⟨x,rfl⟩;subst zB;replace hok:(yQ<=bG.length):=hok;have VE:=hok;rcases aM (decide (((yQ:Nat):Int)<((bG.length:Nat):Int))) with qi|qi
   ·have Fo:=of_decide_eq_true qi;obtain⟨e10,uR⟩:=dr bG yQ;have zL:=(pR e10 (fW uR));obtain⟨s6,MS,X1,X2,MT,xe,AK,rfl,Ib,Ic,OB,DK,OC,OD⟩:=T.aB zL;rcases aM ((s6==3)) with ac7|ac7
    ·have aos:=eq_of_beq ac7;exact⟨.inl ⟨yQ+1,⟨(by show(yQ+1)<=bG.length;omega),(by show(bG.length - (yQ+1))<(bG.length - yQ);omega)⟩⟩,vS ah 0 [] 53 2 [.loc [0],.loc [1]] [.loc [0],.loc [1],.arg 0] [0,6,7,8,31,32,33] [oB qi,oE uR,oC (show ev 52 [.t (aA s6 MS X1 X2 MT xe AK),.t (.int .u8 3)] []=some (aN (.inl (aA s6 MS X1 X2 MT xe AK)) []) from bC _ _ _ (by show some (aN (cond ((s6==3)) _ _) [])=_;rw[ac7];rfl)),oI (yQ) (by omega)]⟩
    ·have aos:=ne_of_beq_false ac7;refine kx ah [oB qi,oE uR,oC (show ev 52 [.t (aA s6 MS X1 X2 MT xe AK),.t (.int .u8 3)] []=some (aN (.inr (7)) []) from bC _ _ _ (by show some (aN (cond ((s6==3)) _ _) [])=_;rw[ac7];rfl))] ?_;refine⟨⟨.inr (7),⟨((λv hv=>by cases hv)),λw hw=>Sum.inr.inj hw▸(show(7:Int)≠0 by decide)⟩⟩,kf ah []⟩
   ·have Fo:=of_decide_eq_false qi;refine kx ah [oB qi] ?_;have aq3:=(ac5 (.sl q.row) (.agg [.str dn,.str iu]) ⟨(.aQ _ cc h4.2.2),(.aI _ _ cc cc)⟩).2;have aot:=aq3;have ahV:K1 (bG,((sI (.sl q.row) (.agg [.str dn,.str iu])).1)):=⟨cc,pR,aot.2,aot.1⟩;have ata:=ac6 bG ((sI (.sl q.row) (.agg [.str dn,.str iu])).1) ahV;refine⟨⟨.inl (aA 0 (Ef (bG,((sI (.sl q.row) (.agg [.str dn,.str iu])).1))) 0 [] [] [] []),⟨((λv hv=>by cases hv;exact(iR _))),λw hw=>(by cases hw)⟩⟩,kf ah [oC (eL ahT (x:=.sl q.row) (y:=.agg [.str dn,.str iu]) ⟨(.aQ _ cc h4.2.2),(.aI _ _ cc cc)⟩),oC (fH ahU Wf (bG,((sI (.sl q.row) (.agg [.str dn,.str iu])).1)) ahV rfl rfl),wg 94 [.t (.bool (Ef (bG,((sI (.sl q.row) (.agg [.str dn,.str iu])).1))))] (aA 0 (Ef (bG,((sI (.sl q.row) (.agg [.str dn,.str iu])).1))) 0 [] [] [] []) (cO l6 (x:=.bool (Ef (bG,((sI (.sl q.row) (.agg [.str dn,.str iu])).1)))) ⟨_,rfl⟩)]⟩
  ·have mR:=ne_of_beq_false gi;refine kl (α:=Nat×List Tree) ah 0 [] 53 2 [.loc [1],.loc [7]] [.loc [1],.loc [7],.arg 0] [0,6,7,8,31,32,33] (λx=>⟨eD 53 [(0,.ptr (.arg 0) 0),(6,.ptr (.loc [0]) 0),(7,.ptr (.loc [1]) 0),(8,.qd x.2),(31,.qd x.2),(32,.t (.int .i64 ((x.2.length:Nat):Int))),(33,.t (.int .i64 ((x.1:Nat):Int)))],[(.loc [0],.cells 32 [.t (.int .u8 0),.t (.bool false),.t (.int .i64 0),.t (.str []),.t (.str []),.bW,.bW]),(.loc [1],.cells 28 [.t (.str dn),.t (.str iu)]),(.arg 0,.cells 63 (aV q))],2⟩) (λx=>(x.1<=x.2.length)/\(x.2.length<=4194304/\∀y∈x.2,T .av y)) (λx=>x.2.length - x.1) (⟨0,([(aA dK kE qq rE kG dc bG)]:List Tree)⟩) (j6 (Tryz.f65.body.getD .skip) 6) [oE jB,oC (show ev 52 [.t (aA aZ eS jx iu dn bq bH),.t (.int .u8 3)] []=some (aN (.inl (aA aZ eS jx iu dn bq bH)) []) from bC _ _ _ (by show some (aN (cond ((aZ==3)) _ _) [])=_;rw[nS];rfl)),wg 104 [.t (aA aZ eS jx iu dn bq bH)] (.agg [.str dn,.str iu]) (cO F0 (x:=(aA aZ eS jx iu dn bq bH)) ⟨_,_,_,_,_,_,_,rfl⟩),oE kA,oE kA,oB gi] ⟨Nat.zero_le _,⟨cc,(bD lq (λ_ h=>absurd h (by simp)))⟩⟩ (λx hok=> ?_);obtain⟨rK,mW⟩:=x;replace hok:(rK<=mW.length)/\(mW.length<=4194304/\∀y∈mW,T .av y):=hok;obtain⟨acD,rL⟩:=hok;rcases aM (decide (((rK:Nat):Int)<((mW.length:Nat):Int))) with ot|ot
   ·have Kf:=of_decide_eq_true ot;obtain⟨e18,D6⟩:=dr mW rK;have acE:=(rL.2 e18 (fW D6));obtain⟨AO,ac8,HE,HF,yE,lF,O0,rfl,agl,agm,agn,ago,agp,agq⟩:=T.aB acE;rcases aM ((AO==3)) with ac9|ac9
    ·have aou:=eq_of_beq ac9;exact⟨.inl ⟨⟨rK+1,mW⟩,⟨⟨(by show(rK+1)<=mW.length;omega),rL⟩,(by show(mW.length - (rK+1))<(mW.length - rK);omega)⟩⟩,vS ah 0 [] 53 2 [.loc [0],.loc [1]] [.loc [0],.loc [1],.arg 0] [0,6,7,8,31,32,33] [oB ot,oE D6,oC (show ev 52 [.t (aA AO ac8 HE HF yE lF O0),.t (.int .u8 3)] []=some (aN (.inl (aA AO ac8 HE HF yE lF O0)) []) from bC _ _ _ (by show some (aN (cond ((AO==3)) _ _) [])=_;rw[ac9];rfl)),oI (rK) (by omega)]⟩
    ·have aou:=ne_of_beq_false ac9;refine kx ah [oB ot,oE D6,oC (show ev 52 [.t (aA AO ac8 HE HF yE lF O0),.t (.int .u8 3)] []=some (aN (.inr (7)) []) from bC _ _ _ (by show some (aN (cond ((AO==3)) _ _) [])=_;rw[ac9];rfl))] ?_;refine⟨⟨.inr (7),⟨((λv hv=>by cases hv)),λw hw=>Sum.inr.inj hw▸(show(7:Int)≠0 by decide)⟩⟩,kf ah []⟩
   ·have Kf:=of_decide_eq_false ot;refine kx ah [oB ot] ?_;have aq4:=(ac5 (.sl q.row) (.agg [.str dn,.str iu]) ⟨(.aQ _ cc h4.2.2),(.aI _ _ cc cc)⟩).2;have aov:=aq4;have ahW:K1 (mW,((sI (.sl q.row) (.agg [.str dn,.str iu])).1)):=⟨cc,rL.2,aov.2,aov.1⟩;have atb:=ac6 mW ((sI (.sl q.row) (.agg [.str dn,.str iu])).1) ahW;refine⟨⟨.inl (aA 0 (Ef (mW,((sI (.sl q.row) (.agg [.str dn,.str iu])).1))) 0 [] [] [] []),⟨((λv hv=>by cases hv;exact(iR _))),λw hw=>(by cases hw)⟩⟩,kf ah [oC (eL ahT (x:=.sl q.row) (y:=.agg [.str dn,.str iu]) ⟨(.aQ _ cc h4.2.2),(.aI _ _ cc cc)⟩),oC (fH ahU Wf (mW,((sI (.sl q.row) (.agg [.str dn,.str iu])).1)) ahW rfl rfl),wg 94 [.t (.bool (Ef (mW,((sI (.sl q.row) (.agg [.str dn,.str iu])).1))))] (aA 0 (Ef (mW,((sI (.sl q.row) (.agg [.str dn,.str iu])).1))) 0 [] [] [] []) (cO l6 (x:=.bool (Ef (mW,((sI (.sl q.row) (.agg [.str dn,.str iu])).1)))) ⟨_,rfl⟩)]⟩
 ·have Ca:=ne_of_beq_false nS;refine⟨⟨.inr (7),⟨((λv hv=>by cases hv)),λw hw=>Sum.inr.inj hw▸(show(7:Int)≠0 by decide)⟩⟩,kf ah [oE jB,oC (show ev 52 [.t (aA aZ eS jx iu dn bq bH),.t (.int .u8 3)] []=some (aN (.inr (7)) []) from bC _ _ _ (by show some (aN (cond ((aZ==3)) _ _) [])=_;rw[nS];rfl))]⟩
theorem G8 {ag:Bool}{sz a b:Nat}{L:List Tree}(hu:eP ag sz L)(h:a+b=L.length):(a+b) *sz=((flat L).map TV.t).length:=by
 rw[List.length_map,fB hu.lens,h]
theorem akl {ag:Bool}{sz a b:Nat}{L:List Tree}{z:List TV}(hu:eP ag sz L)(h:a+b=L.length)(hz:z.length=sz):dL ((flat L).map TV.t) (a*sz) (rN b z)=(flat (L.take a)).map TV.t++rN b z:=by
 have hl:((flat L).map TV.t).length=a*sz+b*sz:=by rw[List.length_map,fB hu.lens,← h,Nat.add_mul]
 unfold dL;rw[Mq hu,gl,hz,List.drop_eq_nil_of_le (by omega),List.append_nil]
theorem akm {ag:Bool}{sz a b n:Nat}{L:List Tree}{z:List TV}(hu:eP ag sz L)(h:a+b=L.length)(hz:z.length=sz)(hn:n=L.length):(0+n) *sz=((flat (L.take a)).map TV.t++rN b z).length:=by
 rw[List.length_append,List.length_map,fB (hu.take a).lens,gl,hz,List.length_take,← Nat.add_mul];congr 1;omega
theorem ada {ag:Bool}{sz b h:Nat}{L:List Tree}{z:List TV}(hu:eP ag sz L)(hl:h<=L.length):((flat (L.take (0+h))).map TV.t++rN b z).take (h*sz)=(flat (L.take h)).map TV.t:=by
 have e:((flat (L.take (0+h))).map TV.t).length=h*sz:=by
  rw[List.length_map,fB (hu.take _).lens,List.length_take];congr 1;omega
 rw[List.take_append_of_le_length (by omega),List.take_of_length_le (by omega),Nat.zero_add]
theorem agD (m:Int)(L:List Tree)(n:Nat)(h0:L.length<=16)(h1:∀y∈L,T .av y)(h2:n=L.length):∃r:{r:List Tree // r.Perm L},ai (cf m) 184 [.ref (.arg 0) 0 n,.t (.int .i64 0),.t (.int .i64 ((n:Nat):Int)),.t (.fn (.func 84))] [.arr (32,true) 7 false ((flat L).map .t)] (.ret (.t (.bU [])) [.arr (32,true) 7 false ((flat (r.1)).map .t)] []):=by
 obtain⟨ev,aK,JZ⟩:∃ev,aD (cf m) ev/\Has ev 84 (rM (λx y=>T .av x/\T .av y) (λx y=>.int .i64 (Cn m x y))):=⟨_,(aq (dA (λx y h=>KD m x y h)) aF),au⟩;refine AX.start 53 4 Tryz.func184 rfl (by decide) rfl rfl (by decide) ?_;refine AX.frames ?_;refine kl (α:=Nat×List Tree) ah 1 [] 53 0 [] [.arg 0] [0,1,2,3,8] (λx=>⟨eD 53 [(0,.ref (.arg 0) 0 n),(1,.t (.int .i64 0)),(2,.t (.int .i64 ((n:Nat):Int))),(3,.t (.fn (.func 84))),(8,.t (.int .i64 ((x.1:Nat):Int)))],[(.arg 0,.arr (32,true) 7 false ((flat x.2).map .t))],0⟩) (λx=>(x.2.Perm L)) (λx=>n - x.1) (⟨1,L⟩) (j6 (Tryz.f184.body.getD .skip) 1) [H8 0 1 (by omega),cZ 32 7 L] (List.Perm.refl _) (λx hok=> ?_);obtain⟨K2,dW⟩:=x;replace hok:(dW.Perm L):=hok;have cM:=hok;have bw:∀y∈dW,T .av y:=λy hy=>h1 y (cM.mem_iff.1 hy)
 have ae3:=cM.length_eq;rcases aM (decide (((K2:Nat):Int)<((n:Nat):Int))) with cq|cq
 ·have jP:=of_decide_eq_true cq;refine kl (α:=Nat×List Tree) ah 1 [] 53 0 [] [.arg 0] [0,1,2,3,8,9] (λx=>⟨eD 53 [(0,.ref (.arg 0) 0 n),(1,.t (.int .i64 0)),(2,.t (.int .i64 ((n:Nat):Int))),(3,.t (.fn (.func 84))),(8,.t (.int .i64 ((K2:Nat):Int))),(9,.t (.int .i64 ((x.1:Nat):Int)))],[(.arg 0,.arr (32,true) 7 false ((flat x.2).map .t))],0⟩) (λx=>(x.2.Perm L)/\(x.1<n)) (λx=>x.1) (⟨K2,dW⟩) (j6 (Tryz.f184.body.getD .skip) 4) [oB cq,cZ 32 7 dW] ⟨cM,by omega⟩ (λx hok=> ?_);obtain⟨gy,gC⟩:=x;replace hok:(gC.Perm L)/\(gy<n):=hok;obtain⟨gq,fR⟩:=hok;have jd:∀y∈gC,T .av y:=λy hy=>h1 y (gq.mem_iff.1 hy)
  have atc:=gq.length_eq;rcases aM (decide (((gy:Nat):Int)>0)) with hg4|hg4
  ·have OG:=of_decide_eq_true hg4;obtain⟨e5,kA⟩:=dr gC gy;have lq:=(jd e5 (fW kA));obtain⟨dK,kE,qq,rE,kG,dc,bG,rfl,pQ,rW,tU,tV,tW,pR⟩:=T.aB lq;obtain⟨e7,he7⟩:=dr gC (gy - 1);have Ur:=(jd e7 (fW he7));obtain⟨si,HC,LL,Yu,HD,nE,sj,rfl,abY,abZ,ab0,ab1,ab2,ab3⟩:=T.aB Ur;have aow:=eL JZ (x:=(aA dK kE qq rE kG dc bG)) (y:=(aA si HC LL Yu HD nE sj)) ⟨lq,Ur⟩;have akn:=kC (m:=7) (i:=gy - 1) (j:=0) (eP.lens (aH jd)) he7 (by decide);have ako:=kC (m:=7) (i:=gy) (j:=0) (eP.lens (aH jd)) kA (by decide);rcases aM (decide ((Cn m (aA dK kE qq rE kG dc bG) (aA si HC LL Yu HD nE sj))<0)) with qi|qi
   ·have Fo:=of_decide_eq_true qi;obtain⟨e10,uR⟩:=dr (gC.set gy (aA si HC LL Yu HD nE sj)) (gy - 1);exact⟨.inl ⟨⟨gy - 1,((gC.set gy (aA si HC LL Yu HD nE sj)).set (gy - 1) (aA dK kE qq rE kG dc bG))⟩,⟨⟨(swap_perm kA he7).trans gq,(by omega)⟩,(by show((gy - 1))<(gy);omega)⟩⟩,vS ah 1 [] 53 0 [] [.arg 0] [0,1,2,3,8,9] (rq 4 (oB hg4) ([oX true 7 gC n cT (aH jd),oR (gy+1) n cT,oB hg4,oQ gC,oO ako,oB hg4,oB hg4,oB hg4,oS (gy) (by omega) (by omega),oB hg4,oX true 7 gC n cT (aH jd),oR ((gy - 1)+1) n cT,oB hg4,oQ gC,oO akn,oB hg4,oC aow,oB hg4,oB hg4,oB qi,oS (gy) (by omega) (by omega),oS (gy) (by omega) (by omega),oX true 7 gC n cT (aH jd),oR ((gy - 1)+1) n cT,oQ gC,oO akn,oX true 7 gC n cT (aH jd),oR (gy+1) n cT,oQ gC,oO ako,oX true 7 gC n cT (aH jd),oR (gy+1) n cT,oQ gC,oR _ _ (zx (j:=0) (m:=7) (eP.lens (aH jd)) kA (by decide)),oK (wJ (j:=0) (e':=(aA si HC LL Yu HD nE sj)) (vs:=[.int .u8 si,.bool HC,.int .i64 LL,.str Yu,.str HD,.sl nE,.sl sj]) (eP.lens (aH jd)) kA (by first|decide|simp) rfl),oX true 7 (gC.set gy (aA si HC LL Yu HD nE sj)) n cT (eP.set (aH jd) ⟨rfl,rfl,rfl⟩ _),oR ((gy - 1)+1) n cT,oQ (gC.set gy (aA si HC LL Yu HD nE sj)),oR _ _ (zx (j:=0) (m:=7) (eP.lens (eP.set (aH jd) ⟨rfl,rfl,rfl⟩ _)) uR (by decide)),oK (My (e':=(aA dK kE qq rE kG dc bG)) (vs:=[.int .u8 dK,.bool kE,.int .i64 qq,.str rE,.str kG,.sl dc,.sl bG]) (eP.lens (eP.set (aH jd) ⟨rfl,rfl,rfl⟩ _)) uR rfl rfl),oS (gy) (by omega) (by omega),cZ 32 7 ((gC.set gy (aA si HC LL Yu HD nE sj)).set (gy - 1) (aA dK kE qq rE kG dc bG))]))⟩
   ·have Fo:=of_decide_eq_false qi;refine Fi ah 1 [] (rq 4 (oB hg4) ([oX true 7 gC n cT (aH jd),oR (gy+1) n cT,oB hg4,oQ gC,oO ako,oB hg4,oB hg4,oB hg4,oS (gy) (by omega) (by omega),oB hg4,oX true 7 gC n cT (aH jd),oR ((gy - 1)+1) n cT,oB hg4,oQ gC,oO akn,oB hg4,oC aow,oB hg4,oB hg4,oB qi])) ?_;exact⟨.inl ⟨⟨K2+1,gC⟩,⟨gq,(by show(n - (K2+1))<(n - K2);omega)⟩⟩,vS ah 1 [] 53 0 [] [.arg 0] [0,1,2,3,8] [oI (K2) (by omega),cZ 32 7 gC]⟩
  ·have OG:=of_decide_eq_false hg4;refine Fi ah 1 [] (rq 13 (oB hg4) ([oF])) ?_;exact⟨.inl ⟨⟨K2+1,gC⟩,⟨gq,(by show(n - (K2+1))<(n - K2);omega)⟩⟩,vS ah 1 [] 53 0 [] [.arg 0] [0,1,2,3,8] [oI (K2) (by omega),cZ 32 7 gC]⟩
 ·have jP:=of_decide_eq_false cq;refine Fi ah 1 [] [oB cq] ?_;refine⟨⟨dW,cM⟩,qH ah 1 [] [cZ 32 7 dW]⟩
def Ce (x:List Tree×Nat):List TV×List aP:=([.ref (.arg 0) 0 x.2,.t (.int .i64 0),.t (.int .i64 ((x.2:Nat):Int)),.t (.fn (.func 84))],[.arr (32,true) 7 false ((flat x.1).map .t)])
def F7 (x:List Tree×Nat):Prop:=(x.1.length<=16)/\(∀y∈x.1,T .av y)/\(x.2=x.1.length)
def UE (x:List Tree×Nat)(r:List Tree):bh:=(.ret (.t (.bU [])) [.arr (32,true) 7 false ((flat (r)).map .t)] [])
theorem adb:∀x y,F7 x->F7 y->Ce x=Ce y->x=y:=by
 rintro ⟨L1,n1⟩ ⟨L2,n2⟩ h1 h2 h;have uL:L1=L2:=gZ (by decide) (aH h1.2.1) (aH h2.2.1) (congrArg (AU 0) h);have e_n:n1=n2:=h1.2.2.trans ((congrArg List.length uL).trans h2.2.2.symm);rw[uL,e_n]
theorem ade (m:Int):∃F:(List Tree×Nat)->List Tree,∀L n,F7 (L,n)->ai (cf m) 184 (Ce (L,n)).1 (Ce (L,n)).2 (UE (L,n) (F (L,n)))/\((F (L,n)).Perm L):=by
 obtain⟨F,hF⟩:=bJ (α:=List Tree×Nat) (P:=F7) (Q:=λx (r:List Tree)=>ai (cf m) 184 (Ce x).1 (Ce x).2 (UE x r)/\(r.Perm x.1)) λx hx=>by
  obtain⟨L,n⟩:=x;obtain⟨h0,h1,h2⟩:=hx;obtain⟨⟨r,hr⟩,h⟩:=agD m L n h0 h1 h2;exact⟨r,h,hr⟩
 exact⟨F,λL n hx=>hF (L,n) hx⟩
theorem agE (m:Int)(L:List Tree)(n:Nat)(h0:L.length<=16)(h1:∀y∈L,T .av y)(h2:n=L.length):∃r:{r:List Tree // r.Perm L},ai (cf m) 143 [.ref (.arg 0) 0 n,.t (.int .i64 ((n:Nat):Int)),.t (.fn (.func 84))] [.arr (32,true) 7 false ((flat L).map .t)] (.ret (.t (.bU [])) [.arr (32,true) 7 false ((flat (r.1)).map .t)] []):=by
 obtain⟨O1,adf⟩:=ade m;obtain⟨ev,aK,akp⟩:∃ev,aD (cf m) ev/\Has ev 184 (iQ Ce (F7) (λx=>UE x (O1 x))):=⟨_,(aq (dD (λ⟨L,n⟩ hx=>(adf L n hx).1)) aF),au⟩;refine AX.start 63 3 Tryz.func143 rfl (by decide) rfl rfl (by decide) ?_;refine AX.frames ?_;have wW:F7 (L,n):=⟨(by omega),h1,h2⟩;have hq1:=adf L n wW;refine⟨⟨(O1 (L,n)),hq1.2⟩,qH ah 1 [2,7] [oB (show(decide (20<=((n:Nat):Int)))=false from decide_eq_false (by omega)),cZ 32 7 L,oC (fH akp adb (L,n) wW rfl rfl),cZ 32 7 (O1 (L,n)),oB (show(decide (20<((n:Nat):Int)))=false from decide_eq_false (by omega)),cZ 32 7 (O1 (L,n))]⟩
def Cf (x:List Tree×Nat):List TV×List aP:=([.ref (.arg 0) 0 x.2,.t (.int .i64 ((x.2:Nat):Int)),.t (.fn (.func 84))],[.arr (32,true) 7 false ((flat x.1).map .t)])
def F8 (x:List Tree×Nat):Prop:=(x.1.length<=16)/\(∀y∈x.1,T .av y)/\(x.2=x.1.length)
def UF (x:List Tree×Nat)(r:List Tree):bh:=(.ret (.t (.bU [])) [.arr (32,true) 7 false ((flat (r)).map .t)] [])
theorem adg:∀x y,F8 x->F8 y->Cf x=Cf y->x=y:=by
 rintro ⟨L1,n1⟩ ⟨L2,n2⟩ h1 h2 h;have uL:L1=L2:=gZ (by decide) (aH h1.2.1) (aH h2.2.1) (congrArg (AU 0) h);have e_n:n1=n2:=h1.2.2.trans ((congrArg List.length uL).trans h2.2.2.symm);rw[uL,e_n]
theorem adh (m:Int):∃F:(List Tree×Nat)->List Tree,∀L n,F8 (L,n)->ai (cf m) 143 (Cf (L,n)).1 (Cf (L,n)).2 (UF (L,n) (F (L,n)))/\((F (L,n)).Perm L):=by
 obtain⟨F,hF⟩:=bJ (α:=List Tree×Nat) (P:=F8) (Q:=λx (r:List Tree)=>ai (cf m) 143 (Cf x).1 (Cf x).2 (UF x r)/\(r.Perm x.1)) λx hx=>by
  obtain⟨L,n⟩:=x;obtain⟨h0,h1,h2⟩:=hx;obtain⟨⟨r,hr⟩,h⟩:=agE m L n h0 h1 h2;exact⟨r,h,hr⟩
 exact⟨F,λL n hx=>hF (L,n) hx⟩
theorem agF (m:Int)(L:List Tree)(n:Nat)(h0:L.length<=16)(h1:∀y∈L,T .av y)(h2:n=L.length):∃r:{r:List Tree // r.Perm L},ai (cf m) 96 [.ref (.arg 0) 0 n,.t (.fn (.func 84))] [.arr (32,true) 7 false ((flat L).map .t)] (.ret (.t (.bU [])) [.arr (32,true) 7 false ((flat (r.1)).map .t)] []):=by
 obtain⟨O2,adi⟩:=adh m;obtain⟨ev,aK,akq⟩:∃ev,aD (cf m) ev/\Has ev 143 (iQ Cf (F8) (λx=>UF x (O2 x))):=⟨_,(aq (dD (λ⟨L,n⟩ hx=>(adi L n hx).1)) aF),au⟩;refine AX.start 9 2 Tryz.func96 rfl (by decide) rfl rfl (by decide) ?_;refine AX.frames ?_;have wW:F8 (L,n):=⟨(by omega),h1,h2⟩;have hq1:=adi L n wW;refine⟨⟨(O2 (L,n)),hq1.2⟩,qH ah 1 [] [cZ 32 7 L,oC (fH akq adg (L,n) wW rfl rfl),cZ 32 7 (O2 (L,n)),cZ 32 7 (O2 (L,n))]⟩
def Cg (x:List Tree×Nat):List TV×List aP:=([.ref (.arg 0) 0 x.2,.t (.fn (.func 84))],[.arr (32,true) 7 false ((flat x.1).map .t)])
def F9 (x:List Tree×Nat):Prop:=(x.1.length<=16)/\(∀y∈x.1,T .av y)/\(x.2=x.1.length)
def UG (x:List Tree×Nat)(r:List Tree):bh:=(.ret (.t (.bU [])) [.arr (32,true) 7 false ((flat (r)).map .t)] [])
theorem adj:∀x y,F9 x->F9 y->Cg x=Cg y->x=y:=by
 rintro ⟨L1,n1⟩ ⟨L2,n2⟩ h1 h2 h;have uL:L1=L2:=gZ (by decide) (aH h1.2.1) (aH h2.2.1) (congrArg (AU 0) h);have e_n:n1=n2:=h1.2.2.trans ((congrArg List.length uL).trans h2.2.2.symm);rw[uL,e_n]
theorem adk (m:Int):∃F:(List Tree×Nat)->List Tree,∀L n,F9 (L,n)->ai (cf m) 96 (Cg (L,n)).1 (Cg (L,n)).2 (UG (L,n) (F (L,n)))/\((F (L,n)).Perm L):=by
 obtain⟨F,hF⟩:=bJ (α:=List Tree×Nat) (P:=F9) (Q:=λx (r:List Tree)=>ai (cf m) 96 (Cg x).1 (Cg x).2 (UG x r)/\(r.Perm x.1)) λx hx=>by
  obtain⟨L,n⟩:=x;obtain⟨h0,h1,h2⟩:=hx;obtain⟨⟨r,hr⟩,h⟩:=agF m L n h0 h1 h2;exact⟨r,h,hr⟩
 exact⟨F,λL n hx=>hF (L,n) hx⟩
theorem adl (m:Int):∃F:Tree->Tree->Bool,∀x y,(T .av x/\T .av y)->R2 (cf m) 98 x y (.bool (F x y))/\(True):=by
 refine tO (P:=λx y=>T .av x/\T .av y) (mk:=λ(r:Bool)=>.bool r) (Post:=λx y r=>True) λx y hx=> ?_
 obtain⟨hx,hy⟩:=hx;show ∃r:{r:Bool // True},ai (cf m) 98 [.t x,.t y] [] (.ret (.t (.bool r.1)) [] []);have bw:=hx;obtain⟨cN,jX,n_1,s_1,dH,aU,dm,rfl,cL,cF,fQ,dX,fk,eR⟩:=T.aB bw;have dB:=hy;obtain⟨cm,j8,n_2,s_2,iY,b8,eo,rfl,gx,kD,tX,rX,tY,qN⟩:=T.aB dB;obtain⟨ev,aK,JZ⟩:∃ev,aD (cf m) ev/\Has ev 84 (rM (λx y=>T .av x/\T .av y) (λx y=>.int .i64 (Cn m x y))):=⟨_,(aq (dA (λx y h=>KD m x y h)) aF),au⟩;refine AX.start 9 2 Tryz.func98 rfl (by decide) rfl rfl (by decide) ?_;refine AX.frames ?_;refine⟨⟨((Cn m (aA cN jX n_1 s_1 dH aU dm) (aA cm j8 n_2 s_2 iY b8 eo))==0), ?_⟩,kf ah [oC (eL JZ (x:=(aA cN jX n_1 s_1 dH aU dm)) (y:=(aA cm j8 n_2 s_2 iY b8 eo)) ⟨bw,dB⟩)]⟩;trivial
theorem akr (m:Int)(L:List Tree)(n:Nat)(h0:L.length<=16)(h1:∀y∈L,T .av y)(h2:n=L.length):∃r:{r:Bool×List Tree //(∀y∈r.2,y∈L)/\r.2.length<=L.length},ai (cf m) 97 [.ref (.arg 0) 0 n,.t (.fn (.func 98))] [.arr (32,true) 7 false ((flat L).map .t)] (.ret (.t (.sl (r.1).2)) [cond (r.1).1 .dead (.arr (32,true) 7 true ((flat L).map .t))] []):=by
 obtain⟨adn,aox⟩:=adl m;obtain⟨ev,aK,ado⟩:∃ev,aD (cf m) ev/\Has ev 98 (rM (λx y=>T .av x/\T .av y) (λx y=>.bool (adn x y))):=⟨_,(aq (dA (λx y h=>(aox x y h).1)) aF),au⟩;refine AX.start 66 2 Tryz.func97 rfl (by decide) rfl rfl (by decide) ?_;refine AX.frames ?_;rcases aM (decide (((n:Nat):Int)<2)) with hc1|hc1
 ·have ajG:=of_decide_eq_true hc1;refine⟨⟨(false,L),⟨λy hy=>hy,Nat.le_refl _⟩⟩,qH ah 36893488147419103232 [] [oB hc1,oX true 7 L n cT (aH h1),oN (o:=.arr (32,true) 7 true ((flat L).map .t)) (λ_=>kY)]⟩
 ·have ajG:=of_decide_eq_false hc1;refine kl (α:=Nat) ah 36893488147419103232 [] 66 0 [] [.arg 0] [0,1,5] (λx=>⟨eD 66 [(0,.ref (.arg 0) 0 n),(1,.t (.fn (.func 98))),(5,.t (.int .i64 ((x:Nat):Int)))],[(.arg 0,.arr (32,true) 7 false ((flat L).map .t))],0⟩) (λx=>(x<=n)/\(1<=x)) (λx=>n - x) 1 (j6 (Tryz.f97.body.getD .skip) 4) [oB hc1,cZ 32 7 L] ⟨by omega,Nat.le_refl _⟩ (λx hok=> ?_);obtain⟨i_2,zB⟩:∃y,y=x:=⟨x,rfl⟩;subst zB;replace hok:(i_2<=n)/\(1<=i_2):=hok;obtain⟨Ia,Oo⟩:=hok;rcases aM (decide (((i_2:Nat):Int)<((n:Nat):Int))) with bK|bK
  ·have mH:=of_decide_eq_true bK;obtain⟨e4,uP⟩:=dr L i_2;have qh:=(h1 e4 (fW uP));obtain⟨eC,ou,rJ,Bi,p0,fh,gW,rfl,xY,B1,KF,KG,KH,KI⟩:=T.aB qh;obtain⟨e6,he6⟩:=dr L (i_2 - 1);have AP:=(h1 e6 (fW he6));obtain⟨sx,HG,M1,M3,HH,nF,sy,rfl,TQ,acQ,acR,acS,acT,acU⟩:=T.aB AP;have aoy:=kC (m:=7) (i:=i_2 - 1) (j:=0) (eP.lens (aH h1)) he6 (by decide);have aoz:=kC (m:=7) (i:=i_2) (j:=0) (eP.lens (aH h1)) uP (by decide);rcases aM ((adn (aA eC ou rJ Bi p0 fh gW) (aA sx HG M1 M3 HH nF sy))) with js|js
   ·refine kl (α:=Nat×Nat×List Tree) ah 36893488147419103232 [] 66 0 [] [.arg 0] [0,1,5,6,7] (λx=>⟨eD 66 [(0,.ref (.arg 0) 0 n),(1,.t (.fn (.func 98))),(5,.t (.int .i64 ((x.2.1:Nat):Int))),(6,.ref (.arg 0) (0+i_2) (n - i_2)),(7,.t (.int .i64 ((x.1:Nat):Int)))],[(.arg 0,.arr (32,true) 7 false ((flat x.2.2).map .t))],0⟩) (λx=>(x.1<=(n - i_2))/\(∀y∈x.2.2,y∈L)/\(x.2.2.length=L.length)/\(i_2<=x.2.1/\x.2.1+1<=i_2+x.1)/\(1<=x.1)) (λx=>(n - i_2) - x.1) (⟨1,i_2,L⟩) (j6 (Tryz.f97.body.getD .skip) 9) [oB bK,oX true 7 L n cT (aH h1),oR (i_2+1) n cT,oQ L,oO aoz,oS (i_2) (by omega) (by omega),oX true 7 L n cT (aH h1),oR ((i_2 - 1)+1) n cT,oQ L,oO aoy,oC (eL ado (x:=(aA eC ou rJ Bi p0 fh gW)) (y:=(aA sx HG M1 M3 HH nF sy)) ⟨qh,AP⟩),oB js,oP (G8 (a:=0) (b:=n) (aH h1) (by omega)),oR i_2 n (by omega),cZ 32 7 L] ⟨(by dsimp only;omega),λy hy=>hy,rfl,(by dsimp only;omega),Nat.le_refl _⟩ (λx hok=> ?_);obtain⟨Ga,uT,O3⟩:=x;replace hok:(Ga<=(n - i_2))/\(∀y∈O3,y∈L)/\(O3.length=L.length)/\(i_2<=uT/\uT+1<=i_2+Ga)/\(1<=Ga):=hok;obtain⟨apO,gY,Eg,apP,apQ⟩:=hok;have asT:n=O3.length:=h2.trans Eg.symm;rcases aM (decide (((Ga:Nat):Int)<(((n - i_2):Nat):Int))) with k6|k6
    ·have JY:=of_decide_eq_true k6;obtain⟨e11,Yg⟩:=dr O3 ((0+i_2)+Ga);have RO:=((λy hy=>h1 y (gY y hy)) e11 (fW Yg));obtain⟨s4,DU,OM,ON,DV,p6,s5,rfl,afV,afW,afX,afY,afZ,af0⟩:=T.aB RO;obtain⟨e13,uv⟩:=dr O3 ((0+i_2)+(Ga - 1));have MH:=((λy hy=>h1 y (gY y hy)) e13 (fW uv));obtain⟨Wg,ahX,KU,KV,z7,mL,Wh,rfl,VU,VV,VW,DP,VX,VY⟩:=T.aB MH;have aks:=kC (m:=7) (i:=((0+i_2)+Ga)) (j:=0) (eP.lens (aH (λy hy=>h1 y (gY y hy)))) Yg (by decide);have aoA:=eL ado (x:=(aA s4 DU OM ON DV p6 s5)) (y:=(aA Wg ahX KU KV z7 mL Wh)) ⟨RO,MH⟩;have aoB:=kC (m:=7) (i:=((0+i_2)+(Ga - 1))) (j:=0) (eP.lens (aH (λy hy=>h1 y (gY y hy)))) uv (by decide);rcases aM ((!(adn (aA s4 DU OM ON DV p6 s5) (aA Wg ahX KU KV z7 mL Wh)))) with eU|eU
     ·obtain⟨e16,X3⟩:=dr O3 uT;have DN:=((λy hy=>h1 y (gY y hy)) e16 (fW X3));obtain⟨af4,anv,aqM,aqN,anw,aci,af5,rfl,af6,af7,af8,af9,aga,agb⟩:=T.aB DN;exact⟨.inl ⟨⟨Ga+1,uT+1,(O3.set uT (aA s4 DU OM ON DV p6 s5))⟩,⟨⟨(by show(Ga+1)<=(n - i_2);omega),(λy hy=>(List.mem_or_eq_of_mem_set hy).elim (gY y) (λe=>by rw[e];exact gY _ (fW Yg))),(by first|exact Eg|(rw[List.length_set];exact Eg)),(by dsimp only;omega),(by show 1<=(Ga+1);first|omega|(simp only[List.length_append,List.length_cons,List.length_nil,List.length_singleton] at*;omega)|(simp;done)|(simp;omega))⟩,(by show((n - i_2) - (Ga+1))<((n - i_2) - Ga);omega)⟩⟩,vS ah 36893488147419103232 [] 66 0 [] [.arg 0] [0,1,5,6,7] [oB k6,oP (G8 (a:=(0+i_2)) (b:=(n - i_2)) (aH (λy hy=>h1 y (gY y hy))) (by omega)),oR (Ga+1) (n - i_2) (by omega),oQ O3,oO aks,oS (Ga) (by omega) (by omega),oP (G8 (a:=(0+i_2)) (b:=(n - i_2)) (aH (λy hy=>h1 y (gY y hy))) (by omega)),oR ((Ga - 1)+1) (n - i_2) (by omega),oQ O3,oO aoB,oC aoA,oB eU,oP (G8 (a:=(0+i_2)) (b:=(n - i_2)) (aH (λy hy=>h1 y (gY y hy))) (by omega)),oR (Ga+1) (n - i_2) (by omega),oQ O3,oO aks,oX true 7 O3 n cT (aH (λy hy=>h1 y (gY y hy))),oR (uT+1) n cT,oQ O3,oR _ _ (zx (j:=0) (m:=7) (eP.lens (aH (λy hy=>h1 y (gY y hy)))) X3 (by decide)),oK (wJ (j:=0) (e':=(aA s4 DU OM ON DV p6 s5)) (vs:=[.int .u8 s4,.bool DU,.int .i64 OM,.str ON,.str DV,.sl p6,.sl s5]) (eP.lens (aH (λy hy=>h1 y (gY y hy)))) X3 (by first|decide|simp) rfl),oI (uT) (by omega),oI (Ga) (by omega),cZ 32 7 (O3.set uT (aA s4 DU OM ON DV p6 s5))]⟩
     ·exact⟨.inl ⟨⟨Ga+1,uT,O3⟩,⟨⟨(by show(Ga+1)<=(n - i_2);omega),gY,(by first|exact Eg|(rw[List.length_set];exact Eg)),(by dsimp only;omega),(by show 1<=(Ga+1);first|omega|(simp only[List.length_append,List.length_cons,List.length_nil,List.length_singleton] at*;omega)|(simp;done)|(simp;omega))⟩,(by show((n - i_2) - (Ga+1))<((n - i_2) - Ga);omega)⟩⟩,vS ah 36893488147419103232 [] 66 0 [] [.arg 0] [0,1,5,6,7] [oB k6,oP (G8 (a:=(0+i_2)) (b:=(n - i_2)) (aH (λy hy=>h1 y (gY y hy))) (by omega)),oR (Ga+1) (n - i_2) (by omega),oQ O3,oO aks,oS (Ga) (by omega) (by omega),oP (G8 (a:=(0+i_2)) (b:=(n - i_2)) (aH (λy hy=>h1 y (gY y hy))) (by omega)),oR ((Ga - 1)+1) (n - i_2) (by omega),oQ O3,oO aoB,oC aoA,oB eU,oI (Ga) (by omega),cZ 32 7 O3]⟩
    ·have JY:=of_decide_eq_false k6;refine Fi ah 36893488147419103232 [] [oB k6] ?_;refine Fi ah 36893488147419103232 [] [oP (G8 (a:=0) (b:=n) (aH (λy hy=>h1 y (gY y hy))) (by omega)),oR uT n (by omega),oP (G8 (a:=(0+uT)) (b:=(n - uT)) (aH (λy hy=>h1 y (gY y hy))) (by omega)),oK (akl (a:=(0+uT)) (b:=(n - uT)) (z:=[.t (.int .u8 0),.t (.bool false),.t (.int .i64 0),.t (.str []),.t (.str []),.bW,.bW]) (aH (λy hy=>h1 y (gY y hy))) (by omega) rfl),oP (akm (a:=(0+uT)) (b:=(n - uT)) (n:=n) (z:=[.t (.int .u8 0),.t (.bool false),.t (.int .i64 0),.t (.str []),.t (.str []),.bW,.bW]) (aH (λy hy=>h1 y (gY y hy))) (by omega) rfl (by omega)),oR uT n (by omega),oK (ada (h:=uT) (b:=(n - uT)) (z:=[.t (.int .u8 0),.t (.bool false),.t (.int .i64 0),.t (.str []),.t (.str []),.bW,.bW]) (aH (λy hy=>h1 y (gY y hy))) (by omega))] ?_;refine⟨⟨(true,(O3.take uT)),⟨λy hy=>gY y (List.mem_of_mem_take hy),by show(List.take _ _).length<=_;rw[List.length_take];omega⟩⟩,qH ah 36893488147419103232 [] [oX true 7 (O3.take uT) uT cT (eP.take (aH (λy hy=>h1 y (gY y hy))) _)]⟩
   ·exact⟨.inl ⟨i_2+1,⟨⟨(by show(i_2+1)<=n;omega),(by show 1<=(i_2+1);first|omega|(simp only[List.length_append,List.length_cons,List.length_nil,List.length_singleton] at*;omega)|(simp;done)|(simp;omega))⟩,(by show(n - (i_2+1))<(n - i_2);omega)⟩⟩,vS ah 36893488147419103232 [] 66 0 [] [.arg 0] [0,1,5] [oB bK,oX true 7 L n cT (aH h1),oR (i_2+1) n cT,oQ L,oO aoz,oS (i_2) (by omega) (by omega),oX true 7 L n cT (aH h1),oR ((i_2 - 1)+1) n cT,oQ L,oO aoy,oC (eL ado (x:=(aA eC ou rJ Bi p0 fh gW)) (y:=(aA sx HG M1 M3 HH nF sy)) ⟨qh,AP⟩),oB js,oI (i_2) (by omega),cZ 32 7 L]⟩
  ·have mH:=of_decide_eq_false bK;refine Fi ah 36893488147419103232 [] [oB bK] ?_;refine⟨⟨(false,L),⟨λy hy=>hy,Nat.le_refl _⟩⟩,qH ah 36893488147419103232 [] [oX true 7 L n cT (aH h1),oN (o:=.arr (32,true) 7 true ((flat L).map .t)) (λ_=>kY)]⟩
def K3 (x:List Tree×Nat):List TV×List aP:=([.ref (.arg 0) 0 x.2,.t (.fn (.func 98))],[.arr (32,true) 7 false ((flat x.1).map .t)])
def M8 (x:List Tree×Nat):Prop:=(x.1.length<=16)/\(∀y∈x.1,T .av y)/\(x.2=x.1.length)
def adp (x:List Tree×Nat)(r:Bool×List Tree):bh:=(.ret (.t (.sl (r).2)) [cond (r).1 .dead (.arr (32,true) 7 true ((flat x.1).map .t))] [])
theorem Wi:∀x y,M8 x->M8 y->K3 x=K3 y->x=y:=by
 rintro ⟨L1,n1⟩ ⟨L2,n2⟩ h1 h2 h;have uL:L1=L2:=gZ (by decide) (aH h1.2.1) (aH h2.2.1) (congrArg (AU 0) h);have e_n:n1=n2:=h1.2.2.trans ((congrArg List.length uL).trans h2.2.2.symm);rw[uL,e_n]
theorem agG (m:Int):∃F:(List Tree×Nat)->Bool×List Tree,∀L n,M8 (L,n)->ai (cf m) 97 (K3 (L,n)).1 (K3 (L,n)).2 (adp (L,n) (F (L,n)))/\((∀y∈(F (L,n)).2,y∈L)/\(F (L,n)).2.length<=L.length):=by
 obtain⟨F,hF⟩:=bJ (α:=List Tree×Nat) (P:=M8) (Q:=λx (r:Bool×List Tree)=>ai (cf m) 97 (K3 x).1 (K3 x).2 (adp x r)/\((∀y∈r.2,y∈x.1)/\r.2.length<=x.1.length)) λx hx=>by
  obtain⟨L,n⟩:=x;obtain⟨h0,h1,h2⟩:=hx;obtain⟨⟨r,hr⟩,h⟩:=akr m L n h0 h1 h2;exact⟨r,h,hr⟩
 exact⟨F,λL n hx=>hF (L,n) hx⟩
theorem akt (m:Int):ai (cf m) 184 [.t (.sl []),.t (.int .i64 0),.t (.int .i64 0),.t (.fn (.func 84))] [] (.ret (.t (.bU [])) [] []):=by
 obtain⟨ev,aK⟩:∃ev,aD (cf m) ev:=⟨_,aF⟩;refine ai.gO ?_;refine AX.start 53 4 Tryz.func184 rfl (by decide) rfl rfl (by decide) ?_;refine AX.frames ?_;exact⟨(),qH ah 0 [1] [H8 0 1 (by omega),oF]⟩
theorem aku (m:Int):ai (cf m) 143 [.t (.sl []),.t (.int .i64 0),.t (.fn (.func 84))] [] (.ret (.t (.bU [])) [] []):=by
 obtain⟨ev,aK,agH⟩:∃ev,aD (cf m) ev/\Has ev 184 (px [.t (.sl []),.t (.int .i64 0),.t (.int .i64 0),.t (.fn (.func 84))] [] (.ret (.t (.bU [])) [] [])):=⟨_,(aq (fT (akt m)) aF),au⟩;refine ai.gO ?_;refine AX.start 63 3 Tryz.func143 rfl (by decide) rfl rfl (by decide) ?_;refine AX.frames ?_;exact⟨(),qH ah 0 [2,7] [oF,oC (jo agH),oF]⟩
theorem akv (m:Int):ai (cf m) 96 [.t (.sl []),.t (.fn (.func 84))] [] (.ret (.t (.bU [])) [] []):=by
 obtain⟨ev,aK,agI⟩:∃ev,aD (cf m) ev/\Has ev 143 (px [.t (.sl []),.t (.int .i64 0),.t (.fn (.func 84))] [] (.ret (.t (.bU [])) [] [])):=⟨_,(aq (fT (aku m)) aF),au⟩;refine ai.gO ?_;refine AX.start 9 2 Tryz.func96 rfl (by decide) rfl rfl (by decide) ?_;refine AX.frames ?_;exact⟨(),kf ah [oC (jo agI)]⟩
theorem aoC (m:Int):ai (cf m) 97 [.t (.sl []),.t (.fn (.func 98))] [] (.ret (.t (.sl [])) [] []):=by
 obtain⟨ev,aK⟩:∃ev,aD (cf m) ev:=⟨_,aF⟩;refine ai.gO ?_;refine AX.start 66 2 Tryz.func97 rfl (by decide) rfl rfl (by decide) ?_;refine AX.frames ?_;exact⟨(),kf ah [oT]⟩
theorem adq (m:Int)(q:Sc)(e:Tree)(he:T .aG e):∃r:{r:Tree // T .av r},ai (cf m) 55 [.ptr (.arg 0) 0,.t e,.t (.sl [])] [.cells 63 (aV q)] (.ret (.t r.1) [.cells 63 (aV q)] []):=by
 have bw:=he;obtain⟨bX,n_1,s_1,dH,aU,bN,rfl,cL,cF,fQ,dX,fk,eR,jq⟩:=T.bE bw;obtain⟨ev,aK,agJ,akw⟩:∃ev,aD (cf m) ev/\Has ev 96 (px [.t (.sl []),.t (.fn (.func 84))] [] (.ret (.t (.bU [])) [] []))/\Has ev 97 (px [.t (.sl []),.t (.fn (.func 98))] [] (.ret (.t (.sl [])) [] [])):=⟨_,(aq (fT (akv m)) (aq (fT (aoC m)) aF)),au,(az rfl au)⟩;refine AX.start 12 3 Tryz.func55 rfl (by decide) rfl rfl (by decide) ?_;refine AX.frames ?_;refine⟨⟨(aA 4 false 0 [] [] [] ([]:List Tree)),.av _ _ _ _ _ _ _ (by simp) (by simp) (by simp) (λ_ h=>by cases h) (by simp) (λ_ h=>by cases h)⟩,kf ah [oC (jo agJ),oC (jo akw)]⟩
theorem agK (m:Int)(q:Sc)(e:Tree)(L:List Tree)(n:Nat)(h0:L.length<=16)(h1:∀y∈L,T .av y)(h2:n=L.length)(h3:T .aG e):∃r:{r:Bool×List Tree×Tree // T .av r.2.2},ai (cf m) 55 [.ptr (.arg 0) 0,.t e,.ref (.arg 1) 0 n] [.cells 63 (aV q),.arr (32,true) 7 false ((flat L).map .t)] (.ret (.t (r.1).2.2) [.cells 63 (aV q),cond (r.1).1 .dead (.arr (32,true) 7 true ((flat (r.1).2.1).map .t))] []):=by
 have bw:=h3;obtain⟨bX,n_1,s_1,dH,aU,bN,rfl,cL,cF,fQ,dX,fk,eR,jq⟩:=T.bE bw;obtain⟨jI,adr⟩:=adk m;obtain⟨G9,ahY⟩:=agG m;obtain⟨ev,aK,akx,ahZ⟩:∃ev,aD (cf m) ev/\Has ev 96 (iQ Cg (F9) (λx=>UG x (jI x)))/\Has ev 97 (iQ K3 (M8) (λx=>adp x (G9 x))):=⟨_,(aq (dD (λ⟨L,n⟩ hx=>(adr L n hx).1)) (aq (dD (λ⟨L,n⟩ hx=>(ahY L n hx).1)) aF)),au,(az rfl au)⟩;refine AX.start 12 3 Tryz.func55 rfl (by decide) rfl rfl (by decide) ?_;refine AX.frames ?_;have abq:F9 (L,n):=⟨(by omega),h1,h2⟩;have hq2:=adr L n abq;have sp3:=hq2.2;have agL:=sp3.length_eq;have aky:∀y∈(jI (L,n)),T .av y:=λy hy=>h1 y (sp3.mem_iff.1 hy)
 have nR:M8 ((jI (L,n)),n):=⟨(by have:=agL;first|(dsimp only;omega)|omega),aky,(h2.trans agL.symm)⟩;have Li:=ahY (jI (L,n)) n nR;have agM:=Li.2;have aoD:=fH akx adj (L,n) abq rfl rfl;rcases aM ((G9 ((jI (L,n)),n)).1) with akz|akz
 ·refine⟨⟨(true,[],(aA 4 false 0 [] [] [] ((G9 ((jI (L,n)),n)).2))),.av _ _ _ _ _ _ _ (by simp) (by simp) (by simp) (λ_ h=>by cases h) (by have:=agM.2;have:=agL;omega) (λy hy=>aky y (agM.1 y hy))⟩,qH ah 2560 [] [cZ 32 7 L,oC aoD,cZ 32 7 (jI (L,n)),cZ 32 7 (jI (L,n)),oC (show ev 97 [.ref (.arg 0) 0 n,.t (.fn (.func 98))] [.arr (32,true) 7 false ((flat (jI (L,n))).map .t)]=some (bh.ret (.t (.sl (G9 ((jI (L,n)),n)).2)) [.dead] []) from(fH ahZ Wi ((jI (L,n)),n) nR rfl rfl).trans (by show some (bh.ret _ [cond (G9 ((jI (L,n)),n)).1 _ _] [])=_;rw[akz];rfl))]⟩
 ·refine⟨⟨(false,(jI (L,n)),(aA 4 false 0 [] [] [] ((G9 ((jI (L,n)),n)).2))),.av _ _ _ _ _ _ _ (by simp) (by simp) (by simp) (λ_ h=>by cases h) (by have:=agM.2;have:=agL;omega) (λy hy=>aky y (agM.1 y hy))⟩,qH ah 2560 [] [cZ 32 7 L,oC aoD,cZ 32 7 (jI (L,n)),cZ 32 7 (jI (L,n)),oC (show ev 97 [.ref (.arg 0) 0 n,.t (.fn (.func 98))] [.arr (32,true) 7 false ((flat (jI (L,n))).map .t)]=some (bh.ret (.t (.sl (G9 ((jI (L,n)),n)).2)) [.arr (32,true) 7 true ((flat (jI (L,n))).map .t)] []) from(fH ahZ Wi ((jI (L,n)),n) nR rfl rfl).trans (by show some (bh.ret _ [cond (G9 ((jI (L,n)),n)).1 _ _] [])=_;rw[akz];rfl)),oN (o:=.arr (32,true) 7 true ((flat (jI (L,n))).map .t)) (λ_=>kY),oN (o:=.arr (32,true) 7 true ((flat (jI (L,n))).map .t)) (λ_=>kY)]⟩
def yl (x:Sc×Tree×List Tree×Nat):List TV×List aP:=([.ptr (.arg 0) 0,.t x.2.1,.ref (.arg 1) 0 x.2.2.2],[.cells 63 (aV x.1),.arr (32,true) 7 false ((flat x.2.2.1).map .t)])
def Ch (x:Sc×Tree×List Tree×Nat):Prop:=(x.2.2.1.length<=16)/\(∀y∈x.2.2.1,T .av y)/\(x.2.2.2=x.2.2.1.length)/\(T .aG x.2.1)
def O4 (x:Sc×Tree×List Tree×Nat)(r:Bool×List Tree×Tree):bh:=(.ret (.t (r).2.2) [.cells 63 (aV x.1),cond (r).1 .dead (.arr (32,true) 7 true ((flat (r).2.1).map .t))] [])
theorem R9:∀x y,Ch x->Ch y->yl x=yl y->x=y:=by
 rintro ⟨q1,e1,L1,n1⟩ ⟨q2,e2,L2,n2⟩ h1 h2 h;have e_q:q1=q2:=congrArg pSc h;have e_e:e1=e2:=congrArg (pT0 1) h;have uL:L1=L2:=gZ (by decide) (aH h1.2.1) (aH h2.2.1) (congrArg (AU 1) h);have e_n:n1=n2:=h1.2.2.1.trans ((congrArg List.length uL).trans h2.2.2.1.symm);rw[e_q,e_e,uL,e_n]
theorem ads (m:Int):∃F:(Sc×Tree×List Tree×Nat)->Bool×List Tree×Tree,∀q e L n,Ch (q,e,L,n)->ai (cf m) 55 (yl (q,e,L,n)).1 (yl (q,e,L,n)).2 (O4 (q,e,L,n) (F (q,e,L,n)))/\(T .av (F (q,e,L,n)).2.2):=by
 obtain⟨F,hF⟩:=bJ (α:=Sc×Tree×List Tree×Nat) (P:=Ch) (Q:=λx (r:Bool×List Tree×Tree)=>ai (cf m) 55 (yl x).1 (yl x).2 (O4 x r)/\(T .av r.2.2)) λx hx=>by
  obtain⟨q,e,L,n⟩:=x;obtain⟨h0,h1,h2,h3⟩:=hx;obtain⟨⟨r,hr⟩,h⟩:=agK m q e L n h0 h1 h2 h3;exact⟨r,h,hr⟩
 exact⟨F,λq e L n hx=>hF (q,e,L,n) hx⟩
def aR:List (TV×TV×Nat):=[(.t (.int .u8 1),.t (.fn (.func 53)),0),(.t (.int .u8 2),.t (.fn (.func 53)),1),(.t (.int .u8 3),.t (.fn (.func 53)),2),(.t (.int .u8 4),.t (.fn (.func 53)),3),(.t (.int .u8 5),.t (.fn (.func 54)),4),(.t (.int .u8 6),.t (.fn (.func 55)),5),(.t (.int .u8 7),.t (.fn (.func 56)),6),(.t (.int .u8 8),.t (.fn (.func 57)),7),(.t (.int .u8 9),.t (.fn (.func 58)),8),(.t (.int .u8 10),.t (.fn (.func 59)),9),(.t (.int .u8 11),.t (.fn (.func 60)),10),(.t (.int .u8 12),.t (.fn (.func 61)),11),(.t (.int .u8 13),.t (.fn (.func 62)),12),(.t (.int .u8 17),.t (.fn (.func 63)),13),(.t (.int .u8 18),.t (.fn (.func 63)),14),(.t (.int .u8 19),.t (.fn (.func 64)),15),(.t (.int .u8 20),.t (.fn (.func 64)),16),(.t (.int .u8 21),.t (.fn (.func 64)),17),(.t (.int .u8 22),.t (.fn (.func 64)),18),(.t (.int .u8 23),.t (.fn (.func 65)),19),(.t (.int .u8 24),.t (.fn (.func 66)),20),(.t (.int .u8 25),.t (.fn (.func 66)),21),(.t (.int .u8 26),.t (.fn (.func 66)),22),(.t (.int .u8 27),.t (.fn (.func 67)),23),(.t (.int .u8 28),.t (.fn (.func 68)),24),(.t (.int .u8 29),.t (.fn (.func 68)),25)]
theorem Eh (m:Int):ai (cf m) 28 [] [] (.ret (.map (.loc [1])) [] [(.loc [1],.map aR 26)]):=mK (by kernel_rfl)
def gOf (op:Int):Nat:=if op=1 then 53 else if op=2 then 53 else if op=3 then 53 else if op=4 then 53 else if op=5 then 54 else if op=6 then 55 else if op=7 then 56 else if op=8 then 57 else if op=9 then 58 else if op=10 then 59 else if op=11 then 60 else if op=12 then 61 else if op=13 then 62 else if op=17 then 63 else if op=18 then 63 else if op=19 then 64 else if op=20 then 64 else if op=21 then 64 else if op=22 then 64 else if op=23 then 65 else if op=24 then 66 else if op=25 then 66 else if op=26 then 66 else if op=27 then 67 else if op=28 then 68 else if op=29 then 68 else 0
def SF (q:Sc):aP:=.cells 63 (aV q)
def PO (q:Sc)(e:Tree)(l:List Tree):Prop:=SD q/\T .aG e/\l.length<=4194304/\(∀y∈l,T .av y)/\DY (fu e) (aoe e).length l.length
def QO (m:Int)(e:Tree)(l:List Tree)(r:Tree ⊕ Int):Prop:=((∀v,r=.inl v->T .av v)/\∀w,r=.inr w->w≠0)/\
 (fu e=12->r=afC (jR l 0))/\(fu e=13->∀v,r=.inl v->jh (jR l 0)=1/\v=nt (IntKind.wrap .i64 (0 - Cm (jR l 0))))/\
 (fu e=17\/fu e=18->r=eqS (fu e) (Cn m (jR l 0) (jR l 1)))/\(19<=fu e->fu e<=22->r=nT m (fu e) (jR l 0) (jR l 1))/\
 (fu e=24->∀v,r=.inl v->jh (jR l 0)=1/\jh (jR l 1)=1/\v=nt (IntKind.wrap .i64 (Cm (jR l 0)+Cm (jR l 1))))/\
 (fu e=25->∀v,r=.inl v->jh (jR l 0)=1/\jh (jR l 1)=1/\v=nt (IntKind.wrap .i64 (Cm (jR l 0) - Cm (jR l 1))))
theorem akA (m:Int)(q:Sc)(e:Tree)(l:List Tree)(h:PO q e l)(h6:fu e≠6)(Pk:fu e≠14)(Oc:fu e≠15)(h16:fu e≠16):∃r:Tree ⊕ Int,ai (cf m) (gOf (fu e)) [.ptr (.arg 0) 0,.t e,.t (.sl l)] [SF q] (aN r [SF q])/\QO m e l r:=by
 obtain⟨hs,he,hl,hT,hM⟩:=h;obtain⟨⟨m1,m2⟩,m3,m4,m5,m6,_⟩:=hM;have I6:fu e=1\/fu e=2\/fu e=3\/fu e=4\/fu e=5\/fu e=7\/fu e=8\/fu e=9\/fu e=10\/fu e=11\/fu e=12\/fu e=13\/fu e=17\/fu e=18\/fu e=19\/fu e=20\/fu e=21\/fu e=22\/fu e=23\/fu e=24\/fu e=25\/fu e=26\/fu e=27\/fu e=28\/fu e=29:=by omega
 rcases I6 with hk|hk|hk|hk|hk|hk|hk|hk|hk|hk|hk|hk|hk|hk|hk|hk|hk|hk|hk|hk|hk|hk|hk|hk|hk
 ·obtain⟨⟨r,hr⟩,hc⟩:=DT m q e l he hl hT;exact⟨r,by rw[hk];exact hc,⟨hr.1,hr.2⟩,(λh=>by omega),(λh=>by omega),(λh=>by omega),(λ_ _=>by omega),(λh=>by omega),(λh=>by omega)⟩
 ·obtain⟨⟨r,hr⟩,hc⟩:=DT m q e l he hl hT;exact⟨r,by rw[hk];exact hc,⟨hr.1,hr.2⟩,(λh=>by omega),(λh=>by omega),(λh=>by omega),(λ_ _=>by omega),(λh=>by omega),(λh=>by omega)⟩
 ·obtain⟨⟨r,hr⟩,hc⟩:=DT m q e l he hl hT;exact⟨r,by rw[hk];exact hc,⟨hr.1,hr.2⟩,(λh=>by omega),(λh=>by omega),(λh=>by omega),(λ_ _=>by omega),(λh=>by omega),(λh=>by omega)⟩
 ·obtain⟨⟨r,hr⟩,hc⟩:=DT m q e l he hl hT;exact⟨r,by rw[hk];exact hc,⟨hr.1,hr.2⟩,(λh=>by omega),(λh=>by omega),(λh=>by omega),(λ_ _=>by omega),(λh=>by omega),(λh=>by omega)⟩
 ·obtain⟨⟨r,hr⟩,hc⟩:=afI m q e l he hl hT hs;exact⟨r,by rw[hk];exact hc,⟨hr.1,hr.2⟩,(λh=>by omega),(λh=>by omega),(λh=>by omega),(λ_ _=>by omega),(λh=>by omega),(λh=>by omega)⟩
 ·obtain⟨⟨r,hr⟩,hc⟩:=agy m q e l he hl hT (m3 hk);exact⟨r,by rw[hk];exact hc,⟨hr.1,hr.2⟩,(λh=>by omega),(λh=>by omega),(λh=>by omega),(λ_ _=>by omega),(λh=>by omega),(λh=>by omega)⟩
 ·obtain⟨⟨r,hr⟩,hc⟩:=ace m q e l he hl hT (by omega) hs;exact⟨r,by rw[hk];exact hc,⟨hr.1,hr.2⟩,(λh=>by omega),(λh=>by omega),(λh=>by omega),(λ_ _=>by omega),(λh=>by omega),(λh=>by omega)⟩
 ·obtain⟨⟨r,hr⟩,hc⟩:=af1 m q e l he hl hT (by omega) hs;exact⟨r,by rw[hk];exact hc,⟨hr.1,hr.2⟩,(λh=>by omega),(λh=>by omega),(λh=>by omega),(λ_ _=>by omega),(λh=>by omega),(λh=>by omega)⟩
 ·obtain⟨⟨r,hr⟩,hc⟩:=ajL m q e l he hl hT (by omega);exact⟨r,by rw[hk];exact hc,⟨hr.1,hr.2⟩,(λh=>by omega),(λh=>by omega),(λh=>by omega),(λ_ _=>by omega),(λh=>by omega),(λh=>by omega)⟩
 ·obtain⟨⟨r,hr⟩,hc⟩:=acL m q e l he hl hT (by omega);exact⟨r,by rw[hk];exact hc,⟨hr.1,hr.2⟩,(λh=>by omega),(λh=>by omega),(λh=>by omega),(λ_ _=>by omega),(λh=>by omega),(λh=>by omega)⟩
 ·obtain⟨⟨r,hr⟩,hc⟩:=afE m q e l he hl hT (by omega);exact⟨r,by rw[hk];exact hc,⟨hr.1.1,hr.2⟩,(λ_=>hr.1.2),(λh=>by omega),(λh=>by omega),(λ_ _=>by omega),(λh=>by omega),(λh=>by omega)⟩
 ·obtain⟨⟨r,hr⟩,hc⟩:=afF m q e l he hl hT (by omega);exact⟨r,by rw[hk];exact hc,⟨(λv hv=>by obtain⟨_,rfl⟩:=hr.1 v hv;exact Il _),hr.2⟩,(λh=>by omega),(λ_=>hr.1),(λh=>by omega),(λ_ _=>by omega),(λh=>by omega),(λh=>by omega)⟩
 ·obtain⟨⟨r,hr⟩,hc⟩:=MJ m q e l he hl hT (by omega);exact⟨r,by rw[hk];exact hc,⟨hr.1.1,hr.2⟩,(λh=>by omega),(λh=>by omega),(λ_=>hr.1.2),(λ_ _=>by omega),(λh=>by omega),(λh=>by omega)⟩
 ·obtain⟨⟨r,hr⟩,hc⟩:=MJ m q e l he hl hT (by omega);exact⟨r,by rw[hk];exact hc,⟨hr.1.1,hr.2⟩,(λh=>by omega),(λh=>by omega),(λ_=>hr.1.2),(λ_ _=>by omega),(λh=>by omega),(λh=>by omega)⟩
 ·obtain⟨⟨r,hr⟩,hc⟩:=Im m q e l he hl hT (by omega);exact⟨r,by rw[hk];exact hc,⟨hr.1.1,hr.2⟩,(λh=>by omega),(λh=>by omega),(λh=>by omega),(λ_ _=>hr.1.2),(λh=>by omega),(λh=>by omega)⟩
 ·obtain⟨⟨r,hr⟩,hc⟩:=Im m q e l he hl hT (by omega);exact⟨r,by rw[hk];exact hc,⟨hr.1.1,hr.2⟩,(λh=>by omega),(λh=>by omega),(λh=>by omega),(λ_ _=>hr.1.2),(λh=>by omega),(λh=>by omega)⟩
 ·obtain⟨⟨r,hr⟩,hc⟩:=Im m q e l he hl hT (by omega);exact⟨r,by rw[hk];exact hc,⟨hr.1.1,hr.2⟩,(λh=>by omega),(λh=>by omega),(λh=>by omega),(λ_ _=>hr.1.2),(λh=>by omega),(λh=>by omega)⟩
 ·obtain⟨⟨r,hr⟩,hc⟩:=Im m q e l he hl hT (by omega);exact⟨r,by rw[hk];exact hc,⟨hr.1.1,hr.2⟩,(λh=>by omega),(λh=>by omega),(λh=>by omega),(λ_ _=>hr.1.2),(λh=>by omega),(λh=>by omega)⟩
 ·obtain⟨⟨r,hr⟩,hc⟩:=akk m q e l he hl hT (by omega) hs;exact⟨r,by rw[hk];exact hc,⟨hr.1,hr.2⟩,(λh=>by omega),(λh=>by omega),(λh=>by omega),(λ_ _=>by omega),(λh=>by omega),(λh=>by omega)⟩
 ·obtain⟨⟨r,hr⟩,hc⟩:=OL m q e l he hl hT (by omega) (by omega);exact⟨r,by rw[hk];exact hc,⟨(λv hv=>by obtain⟨_,_,n,rfl,_⟩:=hr.1 v hv;exact Il _),hr.2⟩,(λh=>by omega),(λh=>by omega),(λh=>by omega),(λ_ _=>by omega),(λ_ v hv=>by obtain⟨a,b,n,rfl,c,_⟩:=hr.1 v hv;exact⟨a,b,by rw[c hk]⟩),(λh=>by omega)⟩
 ·obtain⟨⟨r,hr⟩,hc⟩:=OL m q e l he hl hT (by omega) (by omega);exact⟨r,by rw[hk];exact hc,⟨(λv hv=>by obtain⟨_,_,n,rfl,_⟩:=hr.1 v hv;exact Il _),hr.2⟩,(λh=>by omega),(λh=>by omega),(λh=>by omega),(λ_ _=>by omega),(λh=>by omega),(λ_ v hv=>by obtain⟨a,b,n,rfl,_,c⟩:=hr.1 v hv;exact⟨a,b,by rw[c hk]⟩)⟩
 ·obtain⟨⟨r,hr⟩,hc⟩:=OL m q e l he hl hT (by omega) (by omega);exact⟨r,by rw[hk];exact hc,⟨(λv hv=>by obtain⟨_,_,n,rfl,_⟩:=hr.1 v hv;exact Il _),hr.2⟩,(λh=>by omega),(λh=>by omega),(λh=>by omega),(λ_ _=>by omega),(λh=>by omega),(λh=>by omega)⟩
 ·obtain⟨⟨r,hr⟩,hc⟩:=af3 m q e l he hl hT (by omega);exact⟨r,by rw[hk];exact hc,⟨hr.1,hr.2⟩,(λh=>by omega),(λh=>by omega),(λh=>by omega),(λ_ _=>by omega),(λh=>by omega),(λh=>by omega)⟩
 ·obtain⟨⟨r,hr⟩,hc⟩:=RP m q e l he hl hT (by omega);exact⟨r,by rw[hk];exact hc,⟨hr.1,hr.2⟩,(λh=>by omega),(λh=>by omega),(λh=>by omega),(λ_ _=>by omega),(λh=>by omega),(λh=>by omega)⟩
 ·obtain⟨⟨r,hr⟩,hc⟩:=RP m q e l he hl hT (by omega);exact⟨r,by rw[hk];exact hc,⟨hr.1,hr.2⟩,(λh=>by omega),(λh=>by omega),(λh=>by omega),(λ_ _=>by omega),(λh=>by omega),(λh=>by omega)⟩
theorem bg (σ:Nm->Option Nm):(aP.map aR 26).rn σ=some (.map aR 26):=by kernel_rfl
def kd (k:Int)(r:Tree ⊕ Int):Tree ⊕ Int:=match r with
 |.inl v=>cond (jh v==k) (.inl v) (.inr 7)
 |.inr w=>.inr w
def gD (r0 r1 r2:Tree ⊕ Int):Tree ⊕ Int:=match kd 0 r0 with
 |.inl v=>cond (mV v) r1 r2
 |.inr w=>.inr w
def dU (op:Int)(r0 r1:Tree ⊕ Int):Tree ⊕ Int:=match kd 0 r0 with
 |.inl v=>cond (mV v==(op==16)) (.inl v) (kd 0 r1)
 |.inr w=>.inr w
def iL (f:Tree->Tree ⊕ Int):List Tree->List Tree ⊕ Int
 | []=>.inl []
 | a::l=>match f a with
  |.inr w=>.inr w
  |.inl v=>match iL f l with
   |.inr w=>.inr w
   |.inl vs=>.inl (v::vs)
theorem K4 {f:Tree->Tree ⊕ Int}:∀{l:List Tree} {a v:Tree} {vs:List Tree},iL f l=.inl vs->f a=.inl v->iL f (l++[a])=.inl (vs++[v])
 | [],a,v,vs,h,hv=>by
  cases h;show(match f a with|.inr w=>_|.inl v=>_)=_;rw[hv];rfl
 | b::l,a,v,vs,h,hv=>by
  unfold iL at h
  cases hb:f b with
  |inr w=>rw[hb] at h;cases h
  | inl u=>
   rw[hb] at h
   simp only at h
   cases hl:iL f l with
   |inr w=>rw[hl] at h;cases h
   |inl us=>
    rw[hl] at h
    cases h
    have:=K4 hl hv
    show iL f (b::(l++[a]))=_
    unfold iL
    rw[hb]
    simp only[this]
    rfl
theorem M9 {f:Tree->Tree ⊕ Int}:∀{l r:List Tree} {a:Tree} {vs:List Tree} {w:Int},iL f l=.inl vs->f a=.inr w->iL f (l++a::r)=.inr w
 | [],r,a,vs,w,h,hv=>by
  show(match f a with|.inr w=>_|.inl v=>_)=_;rw[hv]
 | b::l,r,a,vs,w,h,hv=>by
  unfold iL at h
  cases hb:f b with
  |inr w=>rw[hb] at h;cases h
  | inl u=>
   rw[hb] at h
   simp only at h
   cases hl:iL f l with
   |inr w=>rw[hl] at h;cases h
   |inl us=>
    have:=M9 (r:=r) hl hv
    show iL f (b::(l++a::r))=_
    unfold iL
    rw[hb]
    simp only[this]
theorem ym {f:Tree->Tree ⊕ Int}{l:List Tree}{i:Nat}{a v:Tree}{vs:List Tree}(h:iL f (l.take i)=.inl vs)(ha:l[i]?=some a)(hv:f a=.inl v):iL f (l.take (i+1))=.inl (vs++[v]):=by
 rw[E9 ha];exact K4 h hv
theorem yo {f:Tree->Tree ⊕ Int}{l:List Tree}{i:Nat}{a:Tree}{vs:List Tree}{w:Int}(h:iL f (l.take i)=.inl vs)(ha:l[i]?=some a)(hv:f a=.inr w):iL f l=.inr w:=by
 obtain⟨hi,rfl⟩:=List.getElem?_eq_some_iff.1 ha;have e:l=l.take i++l[i]::l.drop (i+1):=by rw[← List.drop_eq_getElem_cons hi,List.take_append_drop]
 rw[e];exact M9 h hv
open Classical in
def pev (ob:List aP)(ks:List Tree)(f:Tree->Tree ⊕ Int):List TV->List aP->Option bh:=λa o=>match a with
 | [.ptr (.arg 0) 0,.t x,.map (.arg 1)]=>if x∈ks/\o=ob then some (aN (f x) ob) else none
 |_=>none
theorem akB {C:ez}{g:FuncId}{ob:List aP}{ks:List Tree}{f:Tree->Tree ⊕ Int}(h:∀x∈ks,ai C g [.ptr (.arg 0) 0,.t x,.map (.arg 1)] ob (aN (f x) ob)):kQ C g (pev ob ks f):=λa o q hq=>by
 unfold pev at hq;split at hq
 ·split at hq
  ·rename_i hp;obtain⟨hp,rfl⟩:=hp;cases hq;exact h _ hp
  ·cases hq
 ·cases hq
theorem aiz {ev:bt}{g:FuncId}{ob:List aP}{ks:List Tree}{f:Tree->Tree ⊕ Int}(h:Has ev g (pev ob ks f)){x:Tree}(hx:x∈ks):ev g [.ptr (.arg 0) 0,.t x,.map (.arg 1)] ob=some (aN (f x) ob):=h _ _ _ (if_pos ⟨hx,rfl⟩)
theorem K5 (m:Int)(q:Sc)(op n:Int)(s t:List UInt8)(ns ks:List Tree)(lk:ks.length<=4194304)(hks:∀y∈ks,T .aG y)(f:Tree->Tree ⊕ Int)(hf:∀x∈ks,ai (cf m) 27 [.ptr (.arg 0) 0,.t x,.map (.arg 1)] [.cells 63 (aV q),.map aR 26] (aN (f x) [.cells 63 (aV q),.map aR 26]))(Eu:∀x∈ks,∀v,f x=.inl v->T .av v)(i:Nat)(hi:i<ks.length):∃r:{r:Tree ⊕ Int // r=f (jR ks i)},ai (cf m) 51 (.t (.int .i64 (i:Int))::[.ptr (.arg 0) 0,.ptr (.arg 1) 0,.ptr (.arg 2) 0]) [.cells 61 [.ptr (.arg 3) 0],.cells 26 (bk op n s t ns ks),.cells 66 [.map (.arg 4)],.cells 63 (aV q),.map aR 26] (aN r.1 [.cells 61 [.ptr (.arg 3) 0],.cells 26 (bk op n s t ns ks),.cells 66 [.map (.arg 4)],.cells 63 (aV q),.map aR 26]):=by
 obtain⟨ev,aK,Yj⟩:∃ev,aD (cf m) ev/\Has ev 27 (pev [.cells 63 (aV q),.map aR 26] ks f):=⟨_,(aq (akB hf) aF),au⟩;refine AX.start 14 4 Tryz.func51 rfl (by decide) rfl rfl (by decide) ?_;refine AX.frames ?_;obtain⟨e1,lS⟩:=dr ks i;have dB:=(hks e1 (fW lS));obtain⟨Yk,n_2,s_2,iY,b8,Gb,rfl,gx,kD,tX,rX,tY,qN,Ow⟩:=T.bE dB;have akC:=fW lS;rcases Ab:f (bf Yk n_2 s_2 iY b8 Gb) with v_3|w_3
 ·obtain⟨Wj,Wk,jx,iu,Wl,fZ,Wm,rfl,_⟩:=T.aB (Eu _ akC _ Ab);refine⟨⟨.inl (aA Wj Wk jx iu Wl fZ Wm),Ab.symm.trans (congrArg f (fN lS).symm)⟩,kf ah [oE lS,oN (o:=.map aR 26) bg,oN (o:=.map aR 26) bg,oC (show ev 27 [.ptr (.arg 0) 0,.t (bf Yk n_2 s_2 iY b8 Gb),.map (.arg 1)] [.cells 63 (aV q),.map aR 26]=some (aN (.inl (aA Wj Wk jx iu Wl fZ Wm)) [.cells 63 (aV q),.map aR 26]) from(aiz Yj akC).trans (congrArg (λz=>some (aN z [.cells 63 (aV q),.map aR 26])) Ab)),oN (o:=.map aR 26) bg,oN (o:=.map aR 26) (λ_=>rfl),oN (o:=.map aR 26) (λ_=>rfl)]⟩
 ·refine⟨⟨.inr w_3,Ab.symm.trans (congrArg f (fN lS).symm)⟩,kf ah [oE lS,oN (o:=.map aR 26) bg,oN (o:=.map aR 26) bg,oC (show ev 27 [.ptr (.arg 0) 0,.t (bf Yk n_2 s_2 iY b8 Gb),.map (.arg 1)] [.cells 63 (aV q),.map aR 26]=some (aN (.inr w_3) [.cells 63 (aV q),.map aR 26]) from(aiz Yj akC).trans (congrArg (λz=>some (aN z [.cells 63 (aV q),.map aR 26])) Ab))]⟩
end
end Go.Proofs.YtfdnciimclnncaaGreatDoor.w.e
