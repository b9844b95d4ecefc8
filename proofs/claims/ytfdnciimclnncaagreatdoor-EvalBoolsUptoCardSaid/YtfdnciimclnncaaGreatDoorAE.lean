/- slices.SortFunc of Uids, in their order. -/
import Derived.WalkKit
import Derived.OwnWalkIn
import Derived.TacticsInMore
import Derived.Shelf.Abstract
import Derived.Shelf.SlSortCmp.WholeK
import Derived.Shelf.SlSortCmp.NoneTotal
import Derived.Sort.LotA
import Derived.StillTailTactics
import Derived.Test.YtfdnciimclnncaaGreatDoorSrt
import Derived.Test.YtfdnciimclnncaaGreatDoorShelf
import Derived.Test.YtfdnciimclnncaaGreatDoorN
import Derived.Test.YtfdnciimclnncaaGreatDoorAD
import Derived.Test.YtfdnciimclnncaaGreatDoorZ
import Derived.Test.YtfdnciimclnncaaGreatDoorAA
set_option linter.unusedVariables false
set_option linter.unusedSimpArgs false
namespace Go.Proofs.YtfdnciimclnncaaGreatDoor.w
open Go Go.Abs Go.RowKit Go.Sort Go.Shelf
attribute [local go_sem] Oper.semAt_some
def RQ:Tree->List UInt8
 |.agg [.str n,_]=>n
 |_=>[]
def idU:Tree->List UInt8
 |.agg [_,.str n]=>n
 |_=>[]
def orI (x y:Int):Int:=if x≠0 then x else y
def p9 (a b:List UInt8):Int:=if a<b then -1 else if b<a then 1 else 0
def Yk (x y:Tree):Int:=orI (p9 (RQ x) (RQ y)) (p9 (idU x) (idU y))
def cfA (l:List Tree)(i j:Nat):Int:=Yk (l[i]?.getD .cT) (l[j]?.getD .cT)
def permA (l:List Tree):Array Nat:=pdq (ltOf (cfA l)) (Array.range l.length) 0 l.length (Lib.bitLen l.length) true true
def vv (l:List Tree):List Tree:=(permA l).toList.map λi=>l[i]?.getD .cT
def AtF (e:Tree):Prop:=∃n s,e=.agg [.str n,.str s]
theorem V2 {a b:List UInt8}:p9 a b<0↔a<b:=by
 unfold p9;by_cases h1:a<b
 ·simp[h1]
 ·by_cases h2:b<a<;>simp[h1,h2]
theorem MJ {a b:List UInt8}:p9 a b=0↔a=b:=by
 unfold p9;by_cases h1:a<b
 ·simp only[if_pos h1];exact⟨λh=>by omega,λh=>by subst h;exact absurd h1 (List.lt_irrefl _)⟩
 ·by_cases h2:b<a
  ·simp only[if_neg h1,if_pos h2];exact⟨λh=>by omega,λh=>by subst h;exact absurd h2 h1⟩
  ·simp only[if_neg h1,if_neg h2,true_iff];exact List.le_antisymm (List.not_lt.1 h2) (List.not_lt.1 h1)
theorem aj6 {x y:Tree}:Yk x y<0↔RQ x<RQ y\/(RQ x=RQ y/\idU x<idU y):=by
 unfold Yk orI;by_cases h:p9 (RQ x) (RQ y)=0
 ·rw[if_neg (by simpa using h)];have e:=MJ.1 h;rw[V2,e];exact⟨λh=>.inr ⟨rfl,h⟩,λh=>h.elim (λh=>absurd h (List.lt_irrefl _)) λh=>h.2⟩
 ·rw[if_pos h,V2];exact⟨.inl,λq=>q.elim id λq=>absurd (MJ.2 q.1) h⟩
theorem KF (l:List Tree)(i j:Nat):ltOf (cfA l) i j=decide (RQ (l[i]?.getD .cT)<RQ (l[j]?.getD .cT)\/(RQ (l[i]?.getD .cT)=RQ (l[j]?.getD .cT)/\idU (l[i]?.getD .cT)<idU (l[j]?.getD .cT))):=by
 unfold ltOf cfA;exact decide_eq_decide.2 aj6
theorem aoh (l:List Tree):SWO (ltOf (cfA l)) where
 irrefl x:=by
  rw[KF];exact decide_eq_false λh=>h.elim (List.lt_irrefl _) λh=>List.lt_irrefl _ h.2
 trans x y z h1 h2:=by
  rw[KF] at*;have h1:=of_decide_eq_true h1;have h2:=of_decide_eq_true h2;refine decide_eq_true ?_;rcases h1 with h1|⟨e1,h1⟩<;>rcases h2 with h2|⟨e2,h2⟩
  ·exact .inl (List.lt_trans h1 h2)
  ·exact .inl (e2▸h1)
  ·exact .inl (e1▸h2)
  ·exact .inr ⟨e1.trans e2,List.lt_trans h1 h2⟩
 ntrans x y z h1 h2:=by
  rw[KF] at*;have h1:=of_decide_eq_false h1;have h2:=of_decide_eq_false h2;refine decide_eq_false λh=> ?_
  generalize RQ (l[x]?.getD .cT)=a at*;generalize RQ (l[y]?.getD .cT)=b at*;generalize RQ (l[z]?.getD .cT)=c at*;generalize idU (l[x]?.getD .cT)=a' at*;generalize idU (l[y]?.getD .cT)=b' at*;generalize idU (l[z]?.getD .cT)=c' at*;have n1:¬a<b:=λq=>h1 (.inl q)
  have n2:¬b<c:=λq=>h2 (.inl q)
  have l1:b<=a:=List.not_lt.1 n1;have l2:c<=b:=List.not_lt.1 n2;rcases h with h|⟨rfl,h⟩
  ·exact List.not_lt.2 (List.le_trans l2 l1) h
  ·have e:a=b:=List.le_antisymm l2 l1;subst e;have m1:¬a'<b':=λq=>h1 (.inr ⟨rfl,q⟩)
   have m2:¬b'<c':=λq=>h2 (.inr ⟨rfl,q⟩)
   exact List.not_lt.2 (List.le_trans (List.not_lt.1 m2) (List.not_lt.1 m1)) h
theorem KG (l:List Tree):(permA l).toList.Perm (List.range l.length):=by
 have h:=(pdq_sorts (ltOf (cfA l)) (aoh l) (Array.range l.length) 0 (Array.range l.length).size (Lib.bitLen l.length) true true (Nat.zero_le _) (Nat.le_refl _) (Or.inl rfl)).1;have h3:=h.2.2;have hs:=h.1;simp only[Array.size_range] at h3 hs;have e1:(permA l).extract 0 l.length=permA l:=by
  have:(permA l).size=l.length:=hs;rw[← this];exact Array.extract_size
 have e2:(Array.range l.length).extract 0 l.length=Array.range l.length:=by
  have:=Array.extract_size (xs:=Array.range l.length);rwa [Array.size_range] at this
 have h4:((permA l).extract 0 l.length).toList.Perm ((Array.range l.length).extract 0 l.length).toList:=h3;rw[e1,e2] at h4;simpa using h4
theorem x6 (l:List Tree):(permA l).size=l.length:=by
 have:=(KG l).length_eq;simpa using this
theorem sV (l:List Tree):(vv l).length=l.length:=by simp[vv,x6]
theorem RR {l:List Tree}{j:Nat}(hj:j<l.length):(permA l)[j]! <l.length:=by
 have hj':j<(permA l).size:=by rw[x6];exact hj
 rw[getElem!_pos _ j hj'];have:(permA l)[j]∈(permA l).toList:=by simp
 have:=(KG l).mem_iff.1 this;simpa using this
theorem RS {l:List Tree}{j:Nat}(hj:j<l.length):(vv l)[j]?=l[(permA l)[j]!]?:=by
 have hj':j<(permA l).size:=by rw[x6];exact hj
 have h:=RR hj;rw[getElem!_pos _ j hj'] at h ⊢;simp only[vv,List.getElem?_map,Array.getElem?_toList,Array.getElem?_eq_getElem hj',Option.map_some,List.getElem?_eq_getElem h,Option.getD_some]
theorem Fw {l:List Tree}{x:Tree}(h:x∈vv l):x∈l:=by
 obtain⟨j,hj,e⟩:=List.getElem_of_mem h;rw[sV] at hj;have h1:=RS hj;rw[List.getElem?_eq_getElem (by rw[sV];exact hj),e] at h1;exact List.mem_of_getElem? h1.symm
theorem AG:∀(L:List Tree) (hu:∀e∈L,e.cells.length=2) (j:Nat),(flat L)[j]?=(L[j / 2]?).bind λe=>e.cells[j % 2]?
 | [],_,j=>by simp[flat]
 | a ::L,hu,j=>by
   have ha:a.cells.length=2:=hu a List.mem_cons_self
   have ih:=AG L (λe he=>hu e (List.mem_cons_of_mem _ he))
   have e:flat (a::L)=a.cells++flat L:=rfl
   rw[e]
   by_cases h:j<2
   · rw[List.getElem?_append_left (by omega),Nat.div_eq_of_lt h,Nat.mod_eq_of_lt h];rfl
   · obtain⟨k,rfl⟩:∃k,j=k+2:=⟨j - 2,by omega⟩
     rw[List.getElem?_append_right (by omega),ha,Nat.add_sub_cancel,ih,Nat.add_div_right _ (by decide),Nat.add_mod_right]
     rfl
theorem agk (x:ByteArray)(w:World):Calls Tryz.prog 138 #[.string x] w λe w'=>e=.returned (.bool false)/\w'=w:=by
 go_enter Tryz.func138,Tryz.ntmps138;go_wp2;go_ret;exact⟨by simp,rfl⟩
theorem bytesLess_eq:∀(x y:List UInt8),Op.bytesLess x y=decide (x<y)
 | [],[]=>by simp[Op.bytesLess]
 |_::_,[]=>by simp[Op.bytesLess]
 | [],_::_=>by simp[Op.bytesLess]
 |a::x,b::y=>by
  rw[Op.bytesLess,bytesLess_eq x y]
  simp only[List.cons_lt_cons_iff]
  by_cases h1:a<b<;>by_cases h2:a=b<;>by_cases h3:x<y<;>simp[h1,h2,h3]
theorem aoi (x y:List UInt8)(w:World):Sem.run Tryz.prog (binOp .gtr 9 (.string ⟨x.toArray⟩) (.string ⟨y.toArray⟩)) w=.ok (.bool (!(Op.bytesLess x y||x==y))) w:=by
 simp[binOp,Op.stringOp,Lib.toList_data]
theorem aoj {x y:List UInt8}(h1:¬x<y)(h2:x≠y):y<x:=by
 by_cases h:y<x
 ·exact h
 ·exact absurd (List.le_antisymm (List.not_lt.1 h) (List.not_lt.1 h1)) h2
set_option maxHeartbeats 1000000 in
theorem MK (x y:List UInt8)(w:World):Calls Tryz.prog 87 #[.string ⟨x.toArray⟩,.string ⟨y.toArray⟩] w λe w'=>e=.returned (.int .i64 (p9 x y))/\w'=w:=by
 go_enter Tryz.func87,Tryz.ntmps87;go_wp2_with (go_at_call 138;refine(agk _ _).mono ?_;rintro e w' ⟨rfl,rfl⟩)
 ·rename_i h;have h:=of_decide_eq_true ((bytesLess_eq x y).symm.trans h);rw[show p9 x y=-1 from if_pos h];go_ret;exact⟨rfl,rfl⟩
 ·rename_i h _ _ _ _ _ _;have hx:¬x<y:=of_decide_eq_false ((bytesLess_eq x y).symm.trans h);rw[aoi,h,Bool.false_or];simp only[Result.andThen_ok];obtain⟨b,hb⟩:∃b,b=(x==y):=⟨_,rfl⟩;have hc:p9 x y=if b=true then 0 else 1:=by
   unfold p9;rw[if_neg hx];by_cases e:x=y
   ·subst e;simp[hb,hx]
   ·have:(x==y)=false:=by simpa using e
    rw[if_pos (aoj hx e),hb,this];rfl
  rw[← hb];clear hb;cases b
  ·go_wp2;go_ret;exact⟨by first|rfl|(rw[hc];rfl),rfl⟩
  ·go_wp2;go_ret;exact⟨by first|rfl|(rw[hc];rfl),rfl⟩
def uH (us:Array Value)(n i:Nat):List Value:=if i<n then(us.toList.drop (i*2)).take 2 else [.string ⟨#[]⟩,.string ⟨#[]⟩]
set_option maxHeartbeats 1000000 in
theorem arb (b off cap:Nat)(x y:Int)(W:World)(h0:W.cell? ⟨b,off,none⟩=some (.int .i64 x))(h1:W.cell? ⟨b,off+1,none⟩=some (.int .i64 y)):
 Calls Tryz.prog 86 #[.slice (some ⟨b,off,none⟩) 2 cap] W λe w'=>e=.returned (.int .i64 (orI x y))/\w'=W:=by
 go_enter Tryz.func86,Tryz.ntmps86
 go_wp2
 go_loopw [8] (λi wr=>wr=W/\(i=.int .i64 0\/(i=.int .i64 1/\x=0)\/(i=.int .i64 2/\x=0/\y=0))) (λi _=>2 - (intOf i).toNat)
 case atStart=>exact⟨rfl,.inl rfl⟩
 case round=>
  obtain⟨rfl,rfl|⟨rfl,rfl⟩|⟨rfl,rfl,rfl⟩⟩:=hrel
  ·go_wp2
   ·rename_i h;have hx:x≠0:=by simpa using h
    have e:orI x y=x:=if_pos hx;go_ret;exact⟨by rw[e];rfl,rfl⟩
   ·rename_i h;have hx:x=0:=by simpa using h
    exact⟨⟨trivial,.inr (.inl ⟨rfl,hx⟩)⟩,by decide⟩
  ·have e:orI 0 y=y:=by simp[orI]
   go_wp2
   ·go_ret;exact⟨by rw[e];rfl,rfl⟩
   ·rename_i h;have hy:y=0:=by simpa using h
    exact⟨⟨trivial,.inr (.inr ⟨rfl,trivial,hy⟩)⟩,by decide⟩
  ·go_wp2;go_ret;exact⟨rfl,rfl⟩
set_option maxRecDepth 100000 in
set_option maxHeartbeats 2000000 in
theorem acH (a b a' b':List UInt8)(W:World):
 Calls Tryz.prog 46 #[.agg #[.string ⟨a.toArray⟩,.string ⟨b.toArray⟩],.agg #[.string ⟨a'.toArray⟩,.string ⟨b'.toArray⟩]] W λe w'=>e=.returned (.int .i64 (orI (p9 a a') (p9 b b')))/\∃q os',w'=grow (W.drewN q) os':=by
 have hc1:=λW'=>MK a a' W'
 have cq:=λW'=>MK b b' W'
 generalize p9 a a'=r1 at hc1 ⊢
 generalize p9 b b'=r2 at cq ⊢
 go_enter Tryz.func46,Tryz.ntmps46
 go_wp2
 refine wp_region_still_tail 10 (by kernel_rfl) (by kernel_rfl) ?_
 obtain⟨U,hU⟩:∃U,U=(W.alloc (.cells #[.string ⟨a.toArray⟩,.string ⟨b.toArray⟩] 28)).alloc (.cells #[.string ⟨a'.toArray⟩,.string ⟨b'.toArray⟩] 28):=⟨_,rfl⟩
 rw[← hU]
 generalize hV:({U with drawn:=U.drawn+1}:World)=V
 have c1:V.cell? ⟨W.heap.size,0,none⟩=some (.string ⟨a.toArray⟩):=by rw[← hV];show U.cell? _=_;rw[hU];simp[go_sem]
 have c2:V.cell? ⟨W.heap.size,1,none⟩=some (.string ⟨b.toArray⟩):=by rw[← hV];show U.cell? _=_;rw[hU];simp[go_sem]
 have c3:V.cell? ⟨W.heap.size+1,0,none⟩=some (.string ⟨a'.toArray⟩):=by rw[← hV];show U.cell? _=_;rw[hU];simp[go_sem]
 have c4:V.cell? ⟨W.heap.size+1,1,none⟩=some (.string ⟨b'.toArray⟩):=by rw[← hV];show U.cell? _=_;rw[hU];simp[go_sem]
 simp only[List.take_succ_cons,List.take_zero,List.drop_succ_cons,List.drop_zero]
 iterate 4 still_step
 still_call (hc1 _)
 iterate 4 still_step
 still_call (cq _)
 refine wpStill_nil ?_
 go_wp2_with (go_at_call 86;refine(arb _ _ _ r1 r2 _ (by simp[go_sem]) (by simp[go_sem])).mono ?_;rintro e w' ⟨rfl,rfl⟩)
 go_ret
 refine⟨rfl,1,(#[.cells #[.string ⟨a.toArray⟩,.string ⟨b.toArray⟩] 28]++ #[.cells #[.string ⟨a'.toArray⟩,.string ⟨b'.toArray⟩] 28])++ #[.cells #[.int .i64 r1,.int .i64 r2] 3], ?_⟩
 rw[← hV,hU,alloc_eq_grow,alloc_eq_grow,alloc_eq_grow,grow_grow]
 exact grow_grow (W.drewN 1) _ _
set_option maxHeartbeats 1000000 in
theorem acI (m:Int)(l:List Tree)(hl:l.length<=4194304)(hne:l≠ [])(hf:∀e∈l,AtF e):
 ai (cf m) 151 [.ref (.arg 0) 0 l.length,.t (.fn (.func 46))] [.arr (28,true) 2 false ((flat l).map .t)] (.ret (.t (.cF [])) [.arr (28,true) 2 false ((flat (vv l)).map .t)] []):=by
 intro G w vs hw hg had hH hv
 obtain⟨x,vs1,rfl,hx,hv⟩:=hv.j3
 obtain⟨y,rfl,hy⟩:=hv.only
 obtain⟨hd,ho⟩:=hH (.arg 0) _ rfl
 obtain⟨_,cap,us,ty,fr,ha,hh,⟨th,hty⟩,hsz,hcl,HC,hF⟩:=ho
 have hu:∀e∈l,e.cells.length=2:=λe he=>by obtain⟨n,s,rfl⟩:=hf e he;rfl
 have hu2:∀e∈vv l,e.cells.length=2:=λe he=>hu e (Fw he)
 have hn:((flat l).map TV.t).length=l.length*2:=by rw[List.length_map,fA hu]
 have hn2:((flat (vv l)).map TV.t).length=l.length*2:=by rw[List.length_map,fA hu2,sV]
 rw[hn] at ha hcl HC
 have hpos:0<l.length:=by cases l with|nil=>exact absurd rfl hne|cons=>simp
 obtain rfl:y=.func (.func 46) #[] #[]:=by
  cases hy with|t _ _ hy=>cases hy;rfl
 obtain rfl:x=.slice (some ⟨G.mu (.arg 0),0,none⟩) l.length cap:=by
  cases hx with
  | ref k off len n cc cap' v hd' Ct hle' ho' Bp=>
    rw[ha] at Ct;cases Ct
    obtain⟨a,rfl,h2⟩:=Bp (by omega)
    have:=h2 (by omega)
    subst this;rfl
 have hcell:∀q c,(flat l)[q]?=some c->∃v,us[q]?=some v/\VT G.F c v:=λq c hc=>by
  have hq:q<l.length*2:=by rw[← fA hu];exact(List.getElem?_eq_some_iff.1 hc).1
  obtain⟨v,hv1,hv2⟩:=HC.at (j:=q) (c:=.t c) (by rw[List.getElem?_map,hc];rfl);rw[List.getElem?_take_of_lt hq,Array.getElem?_toList] at hv1;cases hv2 with|t _ _ h=>exact⟨v,hv1,h⟩
 have agl:∀i,uH us l.length i=[.string ⟨(RQ (l[i]?.getD .cT)).toArray⟩,.string ⟨(idU (l[i]?.getD .cT)).toArray⟩]:=λi=>by
  by_cases hi:i<l.length
  ·obtain⟨n,s,he⟩:=hf l[i] (List.getElem_mem hi);have hat:∀r,r<2->(flat l)[i*2+r]?=(Tree.agg [.str n,.str s]).cells[r]?:=λr hr=>by
    rw[AG l hu,show(i*2+r)/ 2=i by omega,show(i*2+r) % 2=r by omega,List.getElem?_eq_getElem hi,he];rfl
   obtain⟨v0,h0,w0⟩:=hcell _ _ (hat 0 (by decide));obtain⟨v1,h1,w1⟩:=hcell _ _ (hat 1 (by decide));have hnm:RQ (l[i]?.getD .cT)=n:=by rw[List.getElem?_eq_getElem hi,Option.getD_some,he];rfl
   have arc:idU (l[i]?.getD .cT)=s:=by rw[List.getElem?_eq_getElem hi,Option.getD_some,he];rfl
   have ku:uH us l.length i=[v0,v1]:=by
    unfold uH;rw[if_pos hi];apply List.ext_getElem?;intro r;by_cases hr:r<2
    ·rw[List.getElem?_take_of_lt hr,List.getElem?_drop,Array.getElem?_toList];match r,hr with
     |0,_=>exact h0
     |1,_=>exact h1
    ·rw[List.getElem?_eq_none (by simp;omega),List.getElem?_eq_none (by simp;omega)]
   rw[ku,hnm,arc];cases w0;cases w1;rfl
  ·unfold uH;rw[if_neg hi,List.getElem?_eq_none (by omega)];rfl
 have hk:∀i,(uH us l.length i).length=2:=λi=>by rw[agl i];rfl
 have h1:∀i,∀v∈uH us l.length i,v.oneCell'=true:=λi v hv=>by
  rw[agl i] at hv;simp only[List.mem_cons,List.not_mem_nil,or_false] at hv;rcases hv with rfl|rfl<;>rfl
 have hcmp:CmpLays Tryz.prog 46 #[] (uH us l.length) 2 (cfA l) (G.mu (.arg 0)) 0 (Array.range l.length).size w:=λmm os dk _ i j=>by
  have e:=agl i;have e':=agl j;generalize sortWorldK (uH us l.length) 2 w (G.mu (.arg 0)) 0 mm dk os=W;rw[e,e'];exact acH _ _ _ _ W
 have hrd:∀i,i<l.length->(Array.range l.length)[i]! =i:=λi hi=>by simp[hi]
 have aok:∀(D:Array Nat),D.size=l.length->(∀q,q<l.length->D[q]! <l.length)->∀j,j<l.length*2->us[D[j / 2]! *2+j % 2]?=some (flatK (uH us l.length) 2 D)[j]!:=λD hD hlt j hj=>by
  have hj5:j / 2<l.length:=by omega
  have hq:=hlt _ hj5;rw[get_flatK _ _ _ _ (by rw[hD];exact hj)];have hlen:D[j / 2]! *2+j % 2<us.size:=by omega
  have:(uH us l.length D[j / 2]!)[j % 2]?=us[D[j / 2]! *2+j % 2]?:=by
   unfold uH;rw[if_pos hq,List.getElem?_take_of_lt (by omega),List.getElem?_drop,Array.getElem?_toList]
  rw[← this];have h5:j % 2<(uH us l.length D[j / 2]!).length:=by rw[hk];omega
  rw[List.getElem?_eq_getElem h5,getElem!_pos (uH us l.length D[j / 2]!) (j % 2) h5]
 have aol:HoldsK (uH us l.length) 2 w (G.mu (.arg 0)) 0 (Array.range l.length):=λj hj=>by
  have hj':j<l.length*2:=by simpa using hj
  have hju:j<us.size:=by omega
  refine⟨?_,by rw[Nat.zero_add];exact mY hh th hju⟩;have:=aok (Array.range l.length) (by simp) (λq hq=>by rw[hrd q hq];exact hq) j hj';rw[hrd _ (by omega),show j / 2*2+j % 2=j by omega] at this;simp only[World.cell?,hh,Nat.zero_add];exact this
 have eg:∀args w,(callFunc 46 args).run Tryz.prog w=.ok (.enter 46 args) w:=enters_of Tryz.func46 (by kernel_rfl) rfl
 have es:∀args w,(callFunc 151 args).run Tryz.prog w=.ok (.enter 151 args) w:=enters_of Tryz.func151 (by kernel_rfl) rfl
 have aom:=AnyQ.slices_SortFunc_eq Tryz.sortf151 2 Tryz.isAgg28 Tryz.sizeOf28 (uH us l.length) hk h1 (cfA l) (aoh l) 46 #[] (G.mu (.arg 0)) 0 cap (Array.range l.length) w eg hcmp aol (hw.lt _ hd) (by simp;omega)
 rw[Array.size_range] at aom
 refine .inl ⟨es _ _,Calls.mono aom ?_⟩
 rintro e w' ⟨rfl,q,os,rfl⟩
 have hps:=x6 l
 obtain⟨D,hD⟩:∃D,D=permA l:=⟨_,rfl⟩
 have hDs:D.size=l.length:=by rw[hD];exact hps
 have hDl:∀q,q<l.length->D[q]! <l.length:=λq hq=>by rw[hD];exact RR hq
 change yA G w 1 _ _ (sortWorldK (uH us l.length) 2 w (G.mu (.arg 0)) 0 q (permA l) os)
 rw[← hD]
 obtain⟨w',hw'⟩:∃w',w'=sortWorldK (uH us l.length) 2 w (G.mu (.arg 0)) 0 q D os:=⟨_,rfl⟩
 rw[← hw']
 have gB:w.grownBy w' (some (G.mu (.arg 0))):=by
  rw[hw'];unfold sortWorldK putRowK;refine⟨rfl,rfl,rfl,by simp,λk hk hne=> ?_⟩;rw[heap_grow_old _ _ (by simpa using hk)];have:G.mu (.arg 0)≠k:=λe=>hne (by rw[e])
  simp[putRow,mapBlock,Sort.ahead,Array.getElem?_modify,this]
 have hblk:w'.heap[G.mu (.arg 0)]?=some (.cells (putCells id 0 (flatK (uH us l.length) 2 D) us) ty fr):=by
  rw[hw'];unfold sortWorldK putRowK;rw[heap_grow_old _ _ (by simpa using hw.lt _ hd)];simp only[putRow,mapBlock,Sort.ahead,Array.getElem?_modify,if_true,hh,Option.map_some,onCells]
 have hcs:(putCells id 0 (flatK (uH us l.length) 2 D) us).size=us.size:=by simp[putCells]
 refine⟨_,G,rfl,⟨.refl G,⟨λb o v hf=> ?_,hw.inj,λk d=>Nat.lt_of_lt_of_le (hw.lt k d) gB.size⟩,λ_ _ h=>absurd trivial h,λb hlt hn=>⟨gB.block b hlt λe=>hn _ trivial hd (Gh.lC ha (by decide)) (Option.some.inj e).symm,λ_=>rfl⟩,λ_ d=>.inl d,λk d=>.inl ⟨k,d,rfl,.inl rfl⟩,gB.size,gB.os,gB.tape,gB.output⟩,rfl,λi o ho=> ?_,λ_ _ h=>by simp at h, ?_⟩
 ·obtain⟨us',t',f',h1,h2⟩:=hw.F b o v hf;have hb:b≠G.mu (.arg 0):=λe=>by
   subst e;rw[hF o (.inl rfl)] at hf;cases hf
  exact⟨us',t',f',by rw[gB.block b (Array.getElem?_eq_some_iff.1 h1).1 λe=>hb (Option.some.inj e)];exact h1,h2⟩
 ·match i,ho with
  | 0,ho=>
    simp at ho;subst ho
    refine⟨hd,by decide,cap,_,ty,fr,by rw[hn2];exact ha,hblk,⟨λo ho=>th o (by rw[hcs] at ho;exact ho),hty⟩,by rw[hcs];exact hsz,by rw[hn2,hcs];exact hcl, ?_,λo _=>hF o (.inl rfl)⟩
    rw[hn2]
    have hlq:(putCells id 0 (flatK (uH us l.length) 2 D) us).toList.length=us.size:=(Array.length_toList (xs:=putCells id 0 (flatK (uH us l.length) 2 D) us)).trans hcs
    refine⟨by rw[List.length_take,hlq,hn2];omega,λj c v hc hv=> ?_⟩
    rw[List.getElem?_map,Option.map_eq_some_iff] at hc
    obtain⟨c,hc,rfl⟩:=hc
    have hj:j<l.length*2:=by rw[← hn2,List.length_map];exact(List.getElem?_eq_some_iff.1 hc).1
    rw[List.getElem?_take_of_lt hj,Array.getElem?_toList] at hv
    have hju:j<us.size:=by omega
    have hv2:v=(flatK (uH us l.length) 2 D)[j]!:=by
      simp only[putCells,Array.getElem?_mapIdx,Array.getElem?_eq_getElem hju,Option.map_some,size_flatK,hDs,Nat.zero_le,true_and,Nat.zero_add,if_pos hj,Option.some.injEq,Nat.sub_zero,id] at hv
      exact hv.symm
    have h3:=aok D hDs hDl j hj
    rw[AG _ hu2,RS (by omega),← hD] at hc
    have cq:(flat l)[D[j / 2]! *2+j % 2]?=some c:=by
      rw[AG l hu,show(D[j / 2]! *2+j % 2)/ 2=D[j / 2]! by omega,show(D[j / 2]! *2+j % 2) % 2=j % 2 by omega]
      exact hc
    obtain⟨v',h4,h5⟩:=hcell _ _ cq
    rw[h3] at h4
    cases h4
    rw[hv2]
    exact .t _ _ h5
 ·exact .t _ _ (.cF [] [] rfl (by simp))
end Go.Proofs.YtfdnciimclnncaaGreatDoor.w
namespace Go.Proofs.YtfdnciimclnncaaGreatDoor.w.e
open Go Go.Abs
set_option maxRecDepth 100000
set_option maxHeartbeats 2000000
noncomputable section
open Classical in
def pcU (P:Tree->Tree->Prop)(F:Tree->Tree->List Tree):List TV->List aO->Option br:=λvb os=>match vb,os with
 | [.t x,.t y],[]=>if P x y then some (upR (.loc [0]) (F x y)) else none
 |_,_=>none
theorem aj7 {C:ey}{g:FuncId}{P:Tree->Tree->Prop}{F:Tree->Tree->List Tree}(h:∀x y,P x y->ai C g [.t x,.t y] [] (upR (.loc [0]) (F x y))):kN C g (pcU P F):=λa o q hq=>by
 unfold pcU at hq;split at hq
 ·split at hq
  ·rename_i hp;cases hq;exact h _ _ hp
  ·cases hq
 ·cases hq
theorem aon {ev:bt}{g:FuncId}{P:Tree->Tree->Prop}{F:Tree->Tree->List Tree}(h:Has ev g (pcU P F)){x y:Tree}(hp:P x y):ev g [.t x,.t y] []=some (upR (.loc [0]) (F x y)):=h _ _ _ (if_pos hp)
def UpP (x y:Tree):Prop:=(T .aS x/\DL x)/\(T .fe y/\(tO y).length<=16)/\tO y≠ []
theorem acJ (m:Int):∃F:Tree->Tree->List Tree,∀x y,UpP x y->ai (cf m) 48 [.t x,.t y] [] (upR (.loc [0]) (F x y))/\((∀u∈F x y,T .aH u)/\(F x y).length<=1040):=by
 obtain⟨F,hF⟩:=bK (α:=Tree×Tree) (P:=λp=>UpP p.1 p.2) (Q:=λp (r:List Tree)=>ai (cf m) 48 [.t p.1,.t p.2] [] (upR (.loc [0]) r)/\((∀u∈r,T .aH u)/\r.length<=1040)) λp hp=>by
  obtain⟨x,y⟩:=p;obtain⟨⟨hx,hr⟩,⟨hy,hs⟩,hne⟩:=hp;obtain⟨l,rfl,hl,hl2⟩:=T.fB hx;obtain⟨sm,rfl,F5,hs2⟩:=T.uX hy;have aqO:sm.length<=16:=hs;have hU:(sm++l.flatMap vK).length<=1040:=by
   have:=Rp (l:=l) hr.2;have aqN:l.length<=64:=hr.1;rw[List.length_append];omega
  obtain⟨⟨r,h1,h2⟩,h3⟩:=ara m l sm (sm++l.flatMap vK) hl hl2 F5 hs2 hne (λy hy=>List.mem_append_left _ hy) (λe he y hy=>List.mem_append_right _ (List.mem_flatMap.2 ⟨e,he,hy⟩)) (by omega);exact⟨r,h3,h1,by omega⟩
 exact⟨λx y=>F (x,y),λx y h=>hF (x,y) h⟩
def KH (L:List Tree):List TV×List aO:=([.ref (.arg 0) 0 L.length,.t (.fn (.func 46))],[.arr (28,true) 2 false ((flat L).map .t)])
def ML (L:List Tree):Prop:=(∀y∈L,T .aH y)/\L≠ []/\L.length<=4194304
def acK (L:List Tree):br:=.ret (.t (.cF [])) [.arr (28,true) 2 false ((flat (vv L)).map .t)] []
theorem agm:∀x y,ML x->ML y->KH x=KH y->x=y:=λx y h1 h2 h=>gZ (by decide) (bk h1.1) (bk h2.1) (congrArg (AK 0) h)
theorem aj8 (m:Int)(L:List Tree)(h:ML L):ai (cf m) 151 (KH L).1 (KH L).2 (acK L):=acI m L h.2.2 h.2.1 λe he=>by
 obtain⟨a,b,rfl,_⟩:=T.cr (h.1 e he);exact⟨a,b,rfl⟩
theorem acL (m:Int):ai (cf m) 151 [.t (.sl []),.t (.fn (.func 46))] [] (.ret (.t (.cF [])) [] []):=by
 intro G w vs hw hg had hH hv;obtain⟨x,y,rfl,hx,hy⟩:=hv.two;have es:∀args w,(callFunc 151 args).run Tryz.prog w=.ok (.enter 151 args) w:=enters_of Tryz.func151 (by kernel_rfl) rfl;have hx':∃a cap,x=.slice a 0 cap:=by
  cases hx with|t _ _ hx=>
  generalize hz':([]:List Tree)=l at hx;cases hx with
  |Ek a cap=>exact⟨a,cap,rfl⟩
  |sl cc es b o cap vals hne hc hu hF Wx=>exact absurd hz'.symm hne
 obtain⟨a,cap,rfl⟩:=hx';refine .inl ⟨es _ _,Calls.mono (AnyF.slices_SortFunc_none Tryz.sortf151 a cap y w) ?_⟩;rintro e w' ⟨rfl,rfl⟩;exact⟨_,G,rfl,Step.refl hw _ _,rfl,λi o ho=>by simp at ho,λ_ _ h=>by simp at h,.t _ _ (.cF [] [] rfl (by simp))⟩
theorem X6:∀x o r,px [.t (.sl []),.t (.fn (.func 46))] [] (.ret (.t (.cF [])) [] []) x o=some r->iP KH ML acK x o=none:=λx o r hr=>by
 unfold px at hr;split at hr
 ·rename_i hp;unfold iP;refine dif_neg λ⟨z,_,hz⟩=> ?_
  rw[hp.2] at hz;exact absurd (congrArg (λp=>p.2.length) hz) (by simp[KH])
 ·cases hr
theorem acM (m:Int)(l:List Tree)(hl:l.length<=4194304)(hl2:∀y∈l,T .bQ y)(a b:List UInt8)(ha:a.length<=4194304)(hb:b.length<=4194304):∃r:{r:List Tree×Int //(∀y∈r.1,T .aH y)/\r.1.length<=4194304},ai (cf m) 105 [.t (.sl l),.t (.agg [.str a,.str b])] [] (.ret (.t (.cF [.sl r.1.1,.int .i64 r.1.2])) [] []):=by
 obtain⟨Ur,acN⟩:=Fk m;obtain⟨zy,NY⟩:=Dd m;obtain⟨uoF,ahF⟩:=acJ m;obtain⟨ev,aJ,OM,Ff,ahG,zR⟩:∃ev,aC (cf m) ev/\Has ev 24 (mL (λx=>T .aS x) (λx=>.int .i64 (Ur x)))/\Has ev 22 (mL (λx=>T .aH x) (λx=>.int .i64 (zy x)))/\Has ev 48 (pcU UpP uoF)/\Has ev 151 (JX (iP KH ML acK) (px [.t (.sl []),.t (.fn (.func 46))] [] (.ret (.t (.cF [])) [] []))):=⟨_,(aq (bR (λx h=>(acN x h).1)) (aq (bR (λx h=>(NY x h).1)) (aq (aj7 (λx y h=>(ahF x y h).1)) (aq (Ds (dF (aj8 m)) (fQ (acL m))) aF)))),au,(av rfl au),(av rfl (av rfl au)),(av rfl (av rfl (av rfl au)))⟩;refine AX.start 26 2 Tryz.func105 rfl (by decide) rfl rfl (by decide) ?_;refine AX.frames ?_;have hp1:=(acN (.sl l) (.aS _ cm hl2)).2;rcases aL (((Ur (.sl l)) != 0)) with cq|cq
 ·have jN:=cG cq;refine⟨⟨([],(Ur (.sl l))),λy hy=>(by cases hy),Nat.zero_le _⟩,qQ ah 33554432 [] [oC (bS OM (x:=.sl l) (.aS _ cm hl2)),oB cq]⟩
 ·have jN:=bE cq;rcases aL (((zy (.agg [.str a,.str b])) != 0)) with bL|bL
  ·have mC:=cG bL;refine⟨⟨([],(zy (.agg [.str a,.str b]))),λy hy=>(by cases hy),Nat.zero_le _⟩,qQ ah 33554432 [] [oC (bS OM (x:=.sl l) (.aS _ cm hl2)),oB cq,oC (bS Ff (x:=.agg [.str a,.str b]) (.aH _ _ cm cm)),oB bL]⟩
  ·have mC:=bE bL;have hrow:DL (.sl l):=hp1 (bE cq);have acO:UpP (.sl l) (.sl [.agg [.str a,.str b]]):=⟨⟨(.aS _ cm hl2),hrow⟩,⟨(.fe _ cm (bI (.aH _ _ cm cm) (λ_ h=>absurd h (by simp)))),(by show(1:Nat)<=16;omega)⟩,by simp[tO]⟩;have MM:=(ahF _ _ acO).2;rcases hr_4:(uoF (.sl l) (.sl [.agg [.str a,.str b]])) with _|⟨Hu,Hv⟩
   ·refine⟨⟨([],0),λy hy=>(by cases hy),Nat.zero_le _⟩,qQ ah 33554432 [] [oC (bS OM (x:=.sl l) (.aS _ cm hl2)),oB cq,oC (bS Ff (x:=.agg [.str a,.str b]) (.aH _ _ cm cm)),oB bL,vR 48 [.t (.sl l),.t (.sl [.agg [.str a,.str b]])] (.sl []) ((aon ahG acO).trans (congrArg (λz=>some (upR (.loc [0]) z)) hr_4)),oC (jm (Dt zR X6))]⟩
   ·rw[hr_4] at MM;have aj9:ML (Hu::Hv):=⟨MM.1,by simp,by have:=MM.2;omega⟩;have asT:(vv (Hu::Hv)).length=(Hu::Hv).length:=sV _;refine⟨⟨((vv (Hu::Hv)),0),(λy hy=>MM.1 y (Fw hy)),(by show(vv _).length<=_;have:=MM.2;omega)⟩,qQ ah 33554432 [] [oC (bS OM (x:=.sl l) (.aS _ cm hl2)),oB cq,oC (bS Ff (x:=.agg [.str a,.str b]) (.aH _ _ cm cm)),oB bL,oC (show ev 48 [.t (.sl l),.t (.sl [.agg [.str a,.str b]])] []=some (br.ret (.ref (.loc [0]) 0 (Hu::Hv).length) [] [(.loc [0],.arr (28,true) 2 false ((flat (Hu::Hv)).map .t))]) from(aon ahG acO).trans (congrArg (λz=>some (upR (.loc [0]) z)) hr_4)),dc 28 2 (Hu::Hv),dc 28 2 (Hu::Hv),oC (fF (u6 zR) agm (Hu::Hv) aj9 rfl rfl),dc 28 2 (vv (Hu::Hv)),oX true 2 (vv (Hu::Hv)) ((Hu::Hv).length) cU (bk (λy hy=>MM.1 y (Fw hy)))]⟩
end
end Go.Proofs.YtfdnciimclnncaaGreatDoor.w.e
namespace Go.Proofs.YtfdnciimclnncaaGreatDoor.w.e
open Go Go.Abs
set_option maxRecDepth 100000
set_option maxHeartbeats 2000000
noncomputable section
theorem aka (m:Int)(L:List Tree)(hL1:L.length<=4194304)(hL2:∀y∈L,T .aH y)(e:Tree)(he:T .az e):∃r:Bool,ai (cf m) 107 (.t e::[.ptr (.arg 0) 0]) [.cells 56 [.t (.sl L)]] (.ret (.t (.bool r)) [.cells 56 [.t (.sl L)]] []):=by
 have bw:=he;obtain⟨cQ,jW,n_1,s_1,dD,aT,dn,rfl,cI,cH,fK,dS,eW,eM⟩:=T.aB bw;obtain⟨Gx,QW⟩:=JS m;obtain⟨ev,aJ,Fq,Dr⟩:∃ev,aC (cf m) ev/\Has ev 104 (mL (λx=>∃k b n s t ns l,x=(aA k b n s t ns l)) afn)/\Has ev 47 (rN (λx y=>T .fe x/\T .aH y) (λx y=>.bool (Gx x y))):=⟨_,(aq (bR λx h=>by obtain⟨k,b,n,s,t,ns,l,rfl⟩:=h;exact Ue m k b n s t ns l) (aq (dL (λx y h=>(QW x y h).1)) aF)),au,(av rfl au)⟩;refine AX.start 8 2 Tryz.func107 rfl (by decide) rfl rfl (by decide) ?_;refine AX.frames ?_;exact⟨(Gx (.sl L) (.agg [.str dD,.str s_1])),kf ah [vR 104 [.t (aA cQ jW n_1 s_1 dD aT dn)] (.agg [.str dD,.str s_1]) (bS Fq (x:=(aA cQ jW n_1 s_1 dD aT dn)) ⟨_,_,_,_,_,_,_,rfl⟩),oC (eH Dr (x:=.sl L) (y:=.agg [.str dD,.str s_1]) ⟨(.fe _ cm hL2),(.aH _ _ cm cm)⟩)]⟩
theorem aoo (m:Int)(L:List Tree)(q:Tree->Bool)(l:List Tree)(hl:l.length<=4194304)(hl2:∀y∈l,T .az y)(hq:∀x,T .az x->RK (cf m) 107 [.ptr (.arg 0) 0] [.cells 56 [.t (.sl L)]] x (.bool (q x))):∃r:Int,ai (cf m) 152 (.t (.sl l)::[.fn (.func 107) [] [.ptr (.arg 0) 0]]) [.cells 56 [.t (.sl L)]] (.ret (.t (.int .i64 r)) [.cells 56 [.t (.sl L)]] []):=by
 obtain⟨ev,aJ,e_q⟩:∃ev,aC (cf m) ev/\Has ev 107 (pk [.ptr (.arg 0) 0] [.cells 56 [.t (.sl L)]] (T .az) λx=>.bool (q x)):=⟨_,(aq (ZI hq) aF),au⟩;refine AX.start 19 2 Tryz.func152 rfl (by decide) rfl rfl (by decide) ?_;refine AX.frames ?_;refine kl (α:=Nat) ah 0 [] 19 0 [] [.arg 0] [0,1,7,8] (λx=>⟨eC 19 [(0,.t (.sl l)),(1,.fn (.func 107) [] [.ptr (.arg 0) 0]),(7,.t (.int .i64 ((l.length:Nat):Int))),(8,.t (.int .i64 ((x:Nat):Int)))],[(.arg 0,.cells 56 [.t (.sl L)])],0⟩) (λx=>(x<=l.length)) (λx=>l.length - x) 0 (j4 (Tryz.f152.body.getD .skip) 2) [] (by show(0<=l.length);first|trivial|omega|(refine⟨?_, ?_⟩<;>first|omega|exact SM.nil)|simp) (λx hok=> ?_);obtain⟨i_1,zq⟩:∃y,y=x:=⟨x,rfl⟩;subst zq;replace hok:(i_1<=l.length):=hok;have cO:=hok;rcases aL (decide (((i_1:Nat):Int)<((l.length:Nat):Int))) with cq|cq
 ·have jN:=of_decide_eq_true cq;obtain⟨e3,lQ⟩:=dw l i_1;have mD:=(hl2 e3 (fU lQ));obtain⟨nL,BN,yj,yl,BO,ko,mO,rfl,qF,rQ,BP,zx,BQ,BR⟩:=T.aB mD;have aop:=ail e_q (x:=(aA nL BN yj yl BO ko mO)) mD;rcases aL ((q (aA nL BN yj yl BO ko mO))) with jl|jl
  ·refine kx ah [oB cq,oE lQ,oC aop,oB jl] ?_;exact⟨((i_1:Nat):Int),kf ah []⟩
  ·exact⟨.inl ⟨i_1+1,⟨(by show(i_1+1)<=l.length;omega),(by show(l.length - (i_1+1))<(l.length - i_1);omega)⟩⟩,vH ah 0 [] 19 0 [] [.arg 0] [0,1,7,8] [oB cq,oE lQ,oC aop,oB jl,oI (i_1) (by omega)]⟩
 ·have jN:=of_decide_eq_false cq;refine kx ah [oB cq] ?_;exact⟨-1,kf ah []⟩
theorem aoq (m:Int)(L:List Tree)(q:Tree->Bool)(l:List Tree)(hl:l.length<=4194304)(hl2:∀y∈l,T .az y)(hq:∀x,T .az x->RK (cf m) 107 [.ptr (.arg 0) 0] [.cells 56 [.t (.sl L)]] x (.bool (q x))):∃r:Bool,ai (cf m) 106 (.t (.sl l)::[.fn (.func 107) [] [.ptr (.arg 0) 0]]) [.cells 56 [.t (.sl L)]] (.ret (.t (.bool r)) [.cells 56 [.t (.sl L)]] []):=by
 obtain⟨ri,hri⟩:=aoo m L q l hl hl2 hq;obtain⟨ev,aJ,aor⟩:∃ev,aC (cf m) ev/\Has ev 152 (px (.t (.sl l)::[.fn (.func 107) [] [.ptr (.arg 0) 0]]) [.cells 56 [.t (.sl L)]] (.ret (.t (.int .i64 ri)) [.cells 56 [.t (.sl L)]] [])):=⟨_,(aq (fQ hri) aF),au⟩;refine AX.start 9 2 Tryz.func106 rfl (by decide) rfl rfl (by decide) ?_;refine AX.frames ?_;exact⟨decide (ri>=0),kf ah [oC (jm aor)]⟩
theorem akb (m:Int)(L:List Tree)(hL1:L.length<=4194304)(hL2:∀y∈L,T .aH y):∃q:Tree->Bool,∀x,T .az x->RK (cf m) 107 [.ptr (.arg 0) 0] [.cells 56 [.t (.sl L)]] x (.bool (q x)):=by
 obtain⟨F,hF⟩:=bK (α:=Tree) (P:=λx=>T .az x) (Q:=λx (r:Bool)=>RK (cf m) 107 [.ptr (.arg 0) 0] [.cells 56 [.t (.sl L)]] x (.bool r)) λx hx=>aka m L hL1 hL2 x hx
 exact⟨F,hF⟩
theorem Us (m:Int):∃F:Tree->Tree->List Tree×Int,∀x y,(T .aS x/\T .aH y)->R2 (cf m) 105 x y (.cF [.sl (F x y).1,.int .i64 (F x y).2])/\((∀u∈(F x y).1,T .aH u)/\(F x y).1.length<=4194304):=by
 refine tD (P:=λx y=>T .aS x/\T .aH y) (mk:=λ(r:List Tree×Int)=>.cF [.sl r.1,.int .i64 r.2]) (Post:=λx y r=>(∀u∈r.1,T .aH u)/\r.1.length<=4194304) λx y h=> ?_
 obtain⟨l,rfl,hl,hl2⟩:=T.fB h.1;obtain⟨a,b,rfl,ha,hb⟩:=T.cr h.2;exact acM m l hl hl2 a b ha hb
theorem akc (m:Int)(l:List Tree)(L:List Tree)(h0:l.length<=4194304)(h1:∀y∈l,T .az y)(h2:L.length<=4194304)(h3:∀y∈L,T .aH y):∃r:{r:Bool // True},ai (cf m) 106 [.t (.sl l),.fn (.func 107) [] [.ptr (.arg 0) 0]] [.cells 56 [.t (.sl L)]] (.ret (.t (.bool (r.1))) [.cells 56 [.t (.sl L)]] []):=by
 obtain⟨q,hq⟩:=akb m L h2 h3;obtain⟨r,hr⟩:=aoq m L q l h0 h1 hq;exact⟨⟨r,trivial⟩,hr⟩
def KI (x:List Tree×List Tree):List TV×List aO:=([.t (.sl x.1),.fn (.func 107) [] [.ptr (.arg 0) 0]],[.cells 56 [.t (.sl x.2)]])
def KJ (x:List Tree×List Tree):Prop:=(x.1.length<=4194304)/\(∀y∈x.1,T .az y)/\(x.2.length<=4194304)/\(∀y∈x.2,T .aH y)
def acP (x:List Tree×List Tree)(r:Bool):br:=(.ret (.t (.bool (r))) [.cells 56 [.t (.sl x.2)]] [])
theorem V3:∀x y,KJ x->KJ y->KI x=KI y->x=y:=by
 rintro ⟨l1,L1⟩ ⟨l2,L2⟩ h1 h2 h;have e_l:l1=l2:=congrArg (aiR 0) h;have uA:L1=L2:=congrArg (zF 0 0) h;rw[e_l,uA]
theorem agn (m:Int):∃F:(List Tree×List Tree)->Bool,∀l L,KJ (l,L)->ai (cf m) 106 (KI (l,L)).1 (KI (l,L)).2 (acP (l,L) (F (l,L)))/\(True):=by
 obtain⟨F,hF⟩:=bK (α:=List Tree×List Tree) (P:=KJ) (Q:=λx (r:Bool)=>ai (cf m) 106 (KI x).1 (KI x).2 (acP x r)/\(True)) λx hx=>by
  obtain⟨l,L⟩:=x;obtain⟨h0,h1,h2,h3⟩:=hx;obtain⟨⟨r,hr⟩,h⟩:=akc m l L h0 h1 h2 h3;exact⟨r,h,hr⟩
 exact⟨F,λl L hx=>hF (l,L) hx⟩
theorem akd (m:Int)(q:Sc)(e:Tree)(l:List Tree)(h0:T .aD e)(h1:l.length<=4194304)(h2:∀y∈l,T .az y)(h3:2<=l.length)(h4:Rq q):∃r:{r:Tree ⊕ Int //((∀v,r=.inl v->T .az v))/\∀w,r=.inr w->w≠0},ai (cf m) 65 [.ptr (.arg 0) 0,.t e,.t (.sl l)] [.cells 63 (aU q)] (aM (r.1) [.cells 63 (aU q)]):=by
 have hrw:q.row.length<=4194304:=h4.2.1;have bw:=h0;obtain⟨bW,n_1,s_1,dD,aT,bO,rfl,cI,cH,fK,dS,eW,eM,jc⟩:=T.bz bw;obtain⟨sx,acQ⟩:=Us m;obtain⟨Ed,acR⟩:=agn m;obtain⟨ev,aJ,bD,Fq,ahH,ahI,lW⟩:∃ev,aC (cf m) ev/\Has ev 52 sw/\Has ev 104 (mL (λx=>∃k b n s t ns l,x=(aA k b n s t ns l)) afn)/\Has ev 105 (rN (λx y=>T .aS x/\T .aH y) (λx y=>.cF [.sl (sx x y).1,.int .i64 (sx x y).2]))/\Has ev 106 (iP KI (KJ) (λx=>acP x (Ed x)))/\Has ev 94 (mL (λx=>∃b,x=.bool b) Bd):=⟨_,(aq (jX m) (aq (bR λx h=>by obtain⟨k,b,n,s,t,ns,l,rfl⟩:=h;exact Ue m k b n s t ns l) (aq (dL (λx y h=>(acQ x y h).1)) (aq (dF (λ⟨l,L⟩ hx=>(acR l L hx).1)) (aq (bR λx h=>by obtain⟨b,rfl⟩:=h;exact qT m b) aF))))),au,(av rfl au),(av rfl (av rfl au)),(av rfl (av rfl (av rfl au))),(av rfl (av rfl (av rfl (av rfl au))))⟩;refine AX.start 53 3 Tryz.func65 rfl (by decide) rfl rfl (by decide) ?_;refine AX.frames ?_;obtain⟨e2,l7⟩:=dw l 0;have jd:=(h2 e2 (fU l7));obtain⟨aZ,eR,jv,iu,dr,bp,bH,rfl,r5,r6,tZ,ua,uf,ug⟩:=T.aB jd;rcases aL ((aZ==3)) with nN|nN
 ·have B7:=eq_of_beq nN;obtain⟨e5,ku⟩:=dw l 1;have k9:=(h2 e5 (fU ku));obtain⟨dM,kC,qh,q8,kD,dh,bG,rfl,pJ,rR,tJ,tK,tL,pK⟩:=T.aB k9;rcases aL ((dM==4)) with gh|gh
  ·have mN:=eq_of_beq gh;refine kl (α:=Nat) ah 0 [] 53 2 [.loc [1],.loc [7]] [.loc [1],.loc [7],.arg 0] [0,6,7,8,31,32,33] (λx=>⟨eC 53 [(0,.ptr (.arg 0) 0),(6,.ptr (.loc [0]) 0),(7,.ptr (.loc [1]) 0),(8,.t (.sl bG)),(31,.t (.sl bG)),(32,.t (.int .i64 ((bG.length:Nat):Int))),(33,.t (.int .i64 ((x:Nat):Int)))],[(.loc [0],.cells 32 [.t (.int .u8 0),.t (.bool false),.t (.int .i64 0),.t (.str []),.t (.str []),.bX,.bX]),(.loc [1],.cells 28 [.t (.str dr),.t (.str iu)]),(.arg 0,.cells 63 (aU q))],2⟩) (λx=>(x<=bG.length)) (λx=>bG.length - x) 0 (j4 (Tryz.f65.body.getD .skip) 6) [oE l7,oC (show ev 52 [.t (aA aZ eR jv iu dr bp bH),.t (.int .u8 3)] []=some (aM (.inl (aA aZ eR jv iu dr bp bH)) []) from bD _ _ _ (by show some (aM (cond ((aZ==3)) _ _) [])=_;rw[nN];rfl)),vR 104 [.t (aA aZ eR jv iu dr bp bH)] (.agg [.str dr,.str iu]) (bS Fq (x:=(aA aZ eR jv iu dr bp bH)) ⟨_,_,_,_,_,_,_,rfl⟩),oE ku,oE ku,oB gh,oE ku] (by show(0<=bG.length);first|trivial|omega|(refine⟨?_, ?_⟩<;>first|omega|exact SM.nil)|simp) (λx hok=> ?_);obtain⟨yI,zq⟩:∃y,y=x:=⟨x,rfl⟩;subst zq;replace hok:(yI<=bG.length):=hok;have Vs:=hok;rcases aL (decide (((yI:Nat):Int)<((bG.length:Nat):Int))) with p8|p8
   ·have Fe:=of_decide_eq_true p8;obtain⟨e10,uG⟩:=dw bG yI;have zD:=(pK e10 (fU uG));obtain⟨sU,MA,XO,XP,MB,wT,AE,rfl,HQ,HS,Om,DG,On,Oo⟩:=T.aB zD;rcases aL ((sU==3)) with acS|acS
    ·have aos:=eq_of_beq acS;exact⟨.inl ⟨yI+1,⟨(by show(yI+1)<=bG.length;omega),(by show(bG.length - (yI+1))<(bG.length - yI);omega)⟩⟩,vH ah 0 [] 53 2 [.loc [0],.loc [1]] [.loc [0],.loc [1],.arg 0] [0,6,7,8,31,32,33] [oB p8,oE uG,oC (show ev 52 [.t (aA sU MA XO XP MB wT AE),.t (.int .u8 3)] []=some (aM (.inl (aA sU MA XO XP MB wT AE)) []) from bD _ _ _ (by show some (aM (cond ((sU==3)) _ _) [])=_;rw[acS];rfl)),oI (yI) (by omega)]⟩
    ·have aos:=ne_of_beq_false acS;refine kx ah [oB p8,oE uG,oC (show ev 52 [.t (aA sU MA XO XP MB wT AE),.t (.int .u8 3)] []=some (aM (.inr (7)) []) from bD _ _ _ (by show some (aM (cond ((sU==3)) _ _) [])=_;rw[acS];rfl))] ?_;refine⟨⟨.inr (7),⟨((λv hv=>by cases hv)),λw hw=>Sum.inr.inj hw▸(show(7:Int)≠0 by decide)⟩⟩,kf ah []⟩
   ·have Fe:=of_decide_eq_false p8;refine kx ah [oB p8] ?_;have ard:=(acQ (.sl q.row) (.agg [.str dr,.str iu]) ⟨(.aS _ cm h4.2.2),(.aH _ _ cm cm)⟩).2;have aot:=ard;have ahJ:KJ (bG,((sx (.sl q.row) (.agg [.str dr,.str iu])).1)):=⟨cm,pK,aot.2,aot.1⟩;have atb:=acR bG ((sx (.sl q.row) (.agg [.str dr,.str iu])).1) ahJ;refine⟨⟨.inl (aA 0 (Ed (bG,((sx (.sl q.row) (.agg [.str dr,.str iu])).1))) 0 [] [] [] []),⟨((λv hv=>by cases hv;exact(iQ _))),λw hw=>(by cases hw)⟩⟩,kf ah [oC (eH ahH (x:=.sl q.row) (y:=.agg [.str dr,.str iu]) ⟨(.aS _ cm h4.2.2),(.aH _ _ cm cm)⟩),oC (fF ahI V3 (bG,((sx (.sl q.row) (.agg [.str dr,.str iu])).1)) ahJ rfl rfl),vR 94 [.t (.bool (Ed (bG,((sx (.sl q.row) (.agg [.str dr,.str iu])).1))))] (aA 0 (Ed (bG,((sx (.sl q.row) (.agg [.str dr,.str iu])).1))) 0 [] [] [] []) (bS lW (x:=.bool (Ed (bG,((sx (.sl q.row) (.agg [.str dr,.str iu])).1)))) ⟨_,rfl⟩)]⟩
  ·have mN:=ne_of_beq_false gh;refine kl (α:=Nat×List Tree) ah 0 [] 53 2 [.loc [1],.loc [7]] [.loc [1],.loc [7],.arg 0] [0,6,7,8,31,32,33] (λx=>⟨eC 53 [(0,.ptr (.arg 0) 0),(6,.ptr (.loc [0]) 0),(7,.ptr (.loc [1]) 0),(8,.pZ x.2),(31,.pZ x.2),(32,.t (.int .i64 ((x.2.length:Nat):Int))),(33,.t (.int .i64 ((x.1:Nat):Int)))],[(.loc [0],.cells 32 [.t (.int .u8 0),.t (.bool false),.t (.int .i64 0),.t (.str []),.t (.str []),.bX,.bX]),(.loc [1],.cells 28 [.t (.str dr),.t (.str iu)]),(.arg 0,.cells 63 (aU q))],2⟩) (λx=>(x.1<=x.2.length)/\(x.2.length<=4194304/\∀y∈x.2,T .az y)) (λx=>x.2.length - x.1) (⟨0,([(aA dM kC qh q8 kD dh bG)]:List Tree)⟩) (j4 (Tryz.f65.body.getD .skip) 6) [oE l7,oC (show ev 52 [.t (aA aZ eR jv iu dr bp bH),.t (.int .u8 3)] []=some (aM (.inl (aA aZ eR jv iu dr bp bH)) []) from bD _ _ _ (by show some (aM (cond ((aZ==3)) _ _) [])=_;rw[nN];rfl)),vR 104 [.t (aA aZ eR jv iu dr bp bH)] (.agg [.str dr,.str iu]) (bS Fq (x:=(aA aZ eR jv iu dr bp bH)) ⟨_,_,_,_,_,_,_,rfl⟩),oE ku,oE ku,oB gh] ⟨Nat.zero_le _,⟨cm,(bI k9 (λ_ h=>absurd h (by simp)))⟩⟩ (λx hok=> ?_);obtain⟨rE,mS⟩:=x;replace hok:(rE<=mS.length)/\(mS.length<=4194304/\∀y∈mS,T .az y):=hok;obtain⟨acr,rF⟩:=hok;rcases aL (decide (((rE:Nat):Int)<((mS.length:Nat):Int))) with oe|oe
   ·have JW:=of_decide_eq_true oe;obtain⟨e18,D4⟩:=dw mS rE;have acs:=(rF.2 e18 (fU D4));obtain⟨AH,acT,Hs,Ht,yw,lB,ON,rfl,af5,af6,af7,af8,af9,aga⟩:=T.aB acs;rcases aL ((AH==3)) with acU|acU
    ·have aou:=eq_of_beq acU;exact⟨.inl ⟨⟨rE+1,mS⟩,⟨⟨(by show(rE+1)<=mS.length;omega),rF⟩,(by show(mS.length - (rE+1))<(mS.length - rE);omega)⟩⟩,vH ah 0 [] 53 2 [.loc [0],.loc [1]] [.loc [0],.loc [1],.arg 0] [0,6,7,8,31,32,33] [oB oe,oE D4,oC (show ev 52 [.t (aA AH acT Hs Ht yw lB ON),.t (.int .u8 3)] []=some (aM (.inl (aA AH acT Hs Ht yw lB ON)) []) from bD _ _ _ (by show some (aM (cond ((AH==3)) _ _) [])=_;rw[acU];rfl)),oI (rE) (by omega)]⟩
    ·have aou:=ne_of_beq_false acU;refine kx ah [oB oe,oE D4,oC (show ev 52 [.t (aA AH acT Hs Ht yw lB ON),.t (.int .u8 3)] []=some (aM (.inr (7)) []) from bD _ _ _ (by show some (aM (cond ((AH==3)) _ _) [])=_;rw[acU];rfl))] ?_;refine⟨⟨.inr (7),⟨((λv hv=>by cases hv)),λw hw=>Sum.inr.inj hw▸(show(7:Int)≠0 by decide)⟩⟩,kf ah []⟩
   ·have JW:=of_decide_eq_false oe;refine kx ah [oB oe] ?_;have arf:=(acQ (.sl q.row) (.agg [.str dr,.str iu]) ⟨(.aS _ cm h4.2.2),(.aH _ _ cm cm)⟩).2;have aov:=arf;have ahK:KJ (mS,((sx (.sl q.row) (.agg [.str dr,.str iu])).1)):=⟨cm,rF.2,aov.2,aov.1⟩;have atc:=acR mS ((sx (.sl q.row) (.agg [.str dr,.str iu])).1) ahK;refine⟨⟨.inl (aA 0 (Ed (mS,((sx (.sl q.row) (.agg [.str dr,.str iu])).1))) 0 [] [] [] []),⟨((λv hv=>by cases hv;exact(iQ _))),λw hw=>(by cases hw)⟩⟩,kf ah [oC (eH ahH (x:=.sl q.row) (y:=.agg [.str dr,.str iu]) ⟨(.aS _ cm h4.2.2),(.aH _ _ cm cm)⟩),oC (fF ahI V3 (mS,((sx (.sl q.row) (.agg [.str dr,.str iu])).1)) ahK rfl rfl),vR 94 [.t (.bool (Ed (mS,((sx (.sl q.row) (.agg [.str dr,.str iu])).1))))] (aA 0 (Ed (mS,((sx (.sl q.row) (.agg [.str dr,.str iu])).1))) 0 [] [] [] []) (bS lW (x:=.bool (Ed (mS,((sx (.sl q.row) (.agg [.str dr,.str iu])).1)))) ⟨_,rfl⟩)]⟩
 ·have B7:=ne_of_beq_false nN;refine⟨⟨.inr (7),⟨((λv hv=>by cases hv)),λw hw=>Sum.inr.inj hw▸(show(7:Int)≠0 by decide)⟩⟩,kf ah [oE l7,oC (show ev 52 [.t (aA aZ eR jv iu dr bp bH),.t (.int .u8 3)] []=some (aM (.inr (7)) []) from bD _ _ _ (by show some (aM (cond ((aZ==3)) _ _) [])=_;rw[nN];rfl))]⟩
theorem GU {ag:Bool}{sz a b:Nat}{L:List Tree}(hu:eP ag sz L)(h:a+b=L.length):(a+b) *sz=((flat L).map TV.t).length:=by
 rw[List.length_map,fA hu.lens,h]
theorem ake {ag:Bool}{sz a b:Nat}{L:List Tree}{z:List TV}(hu:eP ag sz L)(h:a+b=L.length)(hz:z.length=sz):dN ((flat L).map TV.t) (a*sz) (rG b z)=(flat (L.take a)).map TV.t++rG b z:=by
 have hl:((flat L).map TV.t).length=a*sz+b*sz:=by rw[List.length_map,fA hu.lens,← h,Nat.add_mul]
 unfold dN;rw[Ma hu,gj,hz,List.drop_eq_nil_of_le (by omega),List.append_nil]
theorem akf {ag:Bool}{sz a b n:Nat}{L:List Tree}{z:List TV}(hu:eP ag sz L)(h:a+b=L.length)(hz:z.length=sz)(hn:n=L.length):(0+n) *sz=((flat (L.take a)).map TV.t++rG b z).length:=by
 rw[List.length_append,List.length_map,fA (hu.take a).lens,gj,hz,List.length_take,← Nat.add_mul];congr 1;omega
theorem acV {ag:Bool}{sz b h:Nat}{L:List Tree}{z:List TV}(hu:eP ag sz L)(hl:h<=L.length):((flat (L.take (0+h))).map TV.t++rG b z).take (h*sz)=(flat (L.take h)).map TV.t:=by
 have e:((flat (L.take (0+h))).map TV.t).length=h*sz:=by
  rw[List.length_map,fA (hu.take _).lens,List.length_take];congr 1;omega
 rw[List.take_append_of_le_length (by omega),List.take_of_length_le (by omega),Nat.zero_add]
theorem ago (m:Int)(L:List Tree)(n:Nat)(h0:L.length<=16)(h1:∀y∈L,T .az y)(h2:n=L.length):∃r:{r:List Tree // r.Perm L},ai (cf m) 184 [.ref (.arg 0) 0 n,.t (.int .i64 0),.t (.int .i64 ((n:Nat):Int)),.t (.fn (.func 84))] [.arr (32,true) 7 false ((flat L).map .t)] (.ret (.t (.cF [])) [.arr (32,true) 7 false ((flat (r.1)).map .t)] []):=by
 obtain⟨ev,aJ,JJ⟩:∃ev,aC (cf m) ev/\Has ev 84 (rN (λx y=>T .az x/\T .az y) (λx y=>.int .i64 (Ki m x y))):=⟨_,(aq (dL (λx y h=>Kj m x y h)) aF),au⟩;refine AX.start 53 4 Tryz.func184 rfl (by decide) rfl rfl (by decide) ?_;refine AX.frames ?_;refine kl (α:=Nat×List Tree) ah 1 [] 53 0 [] [.arg 0] [0,1,2,3,8] (λx=>⟨eC 53 [(0,.ref (.arg 0) 0 n),(1,.t (.int .i64 0)),(2,.t (.int .i64 ((n:Nat):Int))),(3,.t (.fn (.func 84))),(8,.t (.int .i64 ((x.1:Nat):Int)))],[(.arg 0,.arr (32,true) 7 false ((flat x.2).map .t))],0⟩) (λx=>(x.2.Perm L)) (λx=>n - x.1) (⟨1,L⟩) (j4 (Tryz.f184.body.getD .skip) 1) [HN 0 1 (by omega),dc 32 7 L] (List.Perm.refl _) (λx hok=> ?_);obtain⟨KK,dX⟩:=x;replace hok:(dX.Perm L):=hok;have cO:=hok;have bw:∀y∈dX,T .az y:=λy hy=>h1 y (cO.mem_iff.1 hy)
 have aeP:=cO.length_eq;rcases aL (decide (((KK:Nat):Int)<((n:Nat):Int))) with cq|cq
 ·have jN:=of_decide_eq_true cq;refine kl (α:=Nat×List Tree) ah 1 [] 53 0 [] [.arg 0] [0,1,2,3,8,9] (λx=>⟨eC 53 [(0,.ref (.arg 0) 0 n),(1,.t (.int .i64 0)),(2,.t (.int .i64 ((n:Nat):Int))),(3,.t (.fn (.func 84))),(8,.t (.int .i64 ((KK:Nat):Int))),(9,.t (.int .i64 ((x.1:Nat):Int)))],[(.arg 0,.arr (32,true) 7 false ((flat x.2).map .t))],0⟩) (λx=>(x.2.Perm L)/\(x.1<n)) (λx=>x.1) (⟨KK,dX⟩) (j4 (Tryz.f184.body.getD .skip) 4) [oB cq,dc 32 7 dX] ⟨cO,by omega⟩ (λx hok=> ?_);obtain⟨gy,gC⟩:=x;replace hok:(gC.Perm L)/\(gy<n):=hok;obtain⟨gq,fP⟩:=hok;have jd:∀y∈gC,T .az y:=λy hy=>h1 y (gq.mem_iff.1 hy)
  have atd:=gq.length_eq;rcases aL (decide (((gy:Nat):Int)>0)) with hg4|hg4
  ·have Ot:=of_decide_eq_true hg4;obtain⟨e5,ku⟩:=dw gC gy;have k9:=(jd e5 (fU ku));obtain⟨dM,kC,qh,q8,kD,dh,bG,rfl,pJ,rR,tJ,tK,tL,pK⟩:=T.aB k9;obtain⟨e7,he7⟩:=dw gC (gy - 1);have Ug:=(jd e7 (fU he7));obtain⟨r7,Hq,Lt,Yi,Hr,ny,r8,rfl,abO,abP,abQ,abR,abS,abT⟩:=T.aB Ug;have aow:=eH JJ (x:=(aA dM kC qh q8 kD dh bG)) (y:=(aA r7 Hq Lt Yi Hr ny r8)) ⟨k9,Ug⟩;have akg:=kA (m:=7) (i:=gy - 1) (j:=0) (eP.lens (aG jd)) he7 (by decide);have akh:=kA (m:=7) (i:=gy) (j:=0) (eP.lens (aG jd)) ku (by decide);rcases aL (decide ((Ki m (aA dM kC qh q8 kD dh bG) (aA r7 Hq Lt Yi Hr ny r8))<0)) with p8|p8
   ·have Fe:=of_decide_eq_true p8;obtain⟨e10,uG⟩:=dw (gC.set gy (aA r7 Hq Lt Yi Hr ny r8)) (gy - 1);exact⟨.inl ⟨⟨gy - 1,((gC.set gy (aA r7 Hq Lt Yi Hr ny r8)).set (gy - 1) (aA dM kC qh q8 kD dh bG))⟩,⟨⟨(swap_perm ku he7).trans gq,(by omega)⟩,(by show((gy - 1))<(gy);omega)⟩⟩,vH ah 1 [] 53 0 [] [.arg 0] [0,1,2,3,8,9] (rq 4 (oB hg4) ([oX true 7 gC n cU (aG jd),oR (gy+1) n cU,oB hg4,oQ gC,oO akh,oB hg4,oB hg4,oB hg4,oS (gy) (by omega) (by omega),oB hg4,oX true 7 gC n cU (aG jd),oR ((gy - 1)+1) n cU,oB hg4,oQ gC,oO akg,oB hg4,oC aow,oB hg4,oB hg4,oB p8,oS (gy) (by omega) (by omega),oS (gy) (by omega) (by omega),oX true 7 gC n cU (aG jd),oR ((gy - 1)+1) n cU,oQ gC,oO akg,oX true 7 gC n cU (aG jd),oR (gy+1) n cU,oQ gC,oO akh,oX true 7 gC n cU (aG jd),oR (gy+1) n cU,oQ gC,oR _ _ (zl (j:=0) (m:=7) (eP.lens (aG jd)) ku (by decide)),oK (wu (j:=0) (e':=(aA r7 Hq Lt Yi Hr ny r8)) (vs:=[.int .u8 r7,.bool Hq,.int .i64 Lt,.str Yi,.str Hr,.sl ny,.sl r8]) (eP.lens (aG jd)) ku (by first|decide|simp) rfl),oX true 7 (gC.set gy (aA r7 Hq Lt Yi Hr ny r8)) n cU (eP.set (aG jd) ⟨rfl,rfl,rfl⟩ _),oR ((gy - 1)+1) n cU,oQ (gC.set gy (aA r7 Hq Lt Yi Hr ny r8)),oR _ _ (zl (j:=0) (m:=7) (eP.lens (eP.set (aG jd) ⟨rfl,rfl,rfl⟩ _)) uG (by decide)),oK (Mh (e':=(aA dM kC qh q8 kD dh bG)) (vs:=[.int .u8 dM,.bool kC,.int .i64 qh,.str q8,.str kD,.sl dh,.sl bG]) (eP.lens (eP.set (aG jd) ⟨rfl,rfl,rfl⟩ _)) uG rfl rfl),oS (gy) (by omega) (by omega),dc 32 7 ((gC.set gy (aA r7 Hq Lt Yi Hr ny r8)).set (gy - 1) (aA dM kC qh q8 kD dh bG))]))⟩
   ·have Fe:=of_decide_eq_false p8;refine E8 ah 1 [] (rq 4 (oB hg4) ([oX true 7 gC n cU (aG jd),oR (gy+1) n cU,oB hg4,oQ gC,oO akh,oB hg4,oB hg4,oB hg4,oS (gy) (by omega) (by omega),oB hg4,oX true 7 gC n cU (aG jd),oR ((gy - 1)+1) n cU,oB hg4,oQ gC,oO akg,oB hg4,oC aow,oB hg4,oB hg4,oB p8])) ?_;exact⟨.inl ⟨⟨KK+1,gC⟩,⟨gq,(by show(n - (KK+1))<(n - KK);omega)⟩⟩,vH ah 1 [] 53 0 [] [.arg 0] [0,1,2,3,8] [oI (KK) (by omega),dc 32 7 gC]⟩
  ·have Ot:=of_decide_eq_false hg4;refine E8 ah 1 [] (rq 13 (oB hg4) ([oF])) ?_;exact⟨.inl ⟨⟨KK+1,gC⟩,⟨gq,(by show(n - (KK+1))<(n - KK);omega)⟩⟩,vH ah 1 [] 53 0 [] [.arg 0] [0,1,2,3,8] [oI (KK) (by omega),dc 32 7 gC]⟩
 ·have jN:=of_decide_eq_false cq;refine E8 ah 1 [] [oB cq] ?_;refine⟨⟨dX,cO⟩,qQ ah 1 [] [dc 32 7 dX]⟩
def Cb (x:List Tree×Nat):List TV×List aO:=([.ref (.arg 0) 0 x.2,.t (.int .i64 0),.t (.int .i64 ((x.2:Nat):Int)),.t (.fn (.func 84))],[.arr (32,true) 7 false ((flat x.1).map .t)])
def Fx (x:List Tree×Nat):Prop:=(x.1.length<=16)/\(∀y∈x.1,T .az y)/\(x.2=x.1.length)
def Ut (x:List Tree×Nat)(r:List Tree):br:=(.ret (.t (.cF [])) [.arr (32,true) 7 false ((flat (r)).map .t)] [])
theorem acW:∀x y,Fx x->Fx y->Cb x=Cb y->x=y:=by
 rintro ⟨L1,n1⟩ ⟨L2,n2⟩ h1 h2 h;have uA:L1=L2:=gZ (by decide) (aG h1.2.1) (aG h2.2.1) (congrArg (AK 0) h);have e_n:n1=n2:=h1.2.2.trans ((congrArg List.length uA).trans h2.2.2.symm);rw[uA,e_n]
theorem acX (m:Int):∃F:(List Tree×Nat)->List Tree,∀L n,Fx (L,n)->ai (cf m) 184 (Cb (L,n)).1 (Cb (L,n)).2 (Ut (L,n) (F (L,n)))/\((F (L,n)).Perm L):=by
 obtain⟨F,hF⟩:=bK (α:=List Tree×Nat) (P:=Fx) (Q:=λx (r:List Tree)=>ai (cf m) 184 (Cb x).1 (Cb x).2 (Ut x r)/\(r.Perm x.1)) λx hx=>by
  obtain⟨L,n⟩:=x;obtain⟨h0,h1,h2⟩:=hx;obtain⟨⟨r,hr⟩,h⟩:=ago m L n h0 h1 h2;exact⟨r,h,hr⟩
 exact⟨F,λL n hx=>hF (L,n) hx⟩
theorem agp (m:Int)(L:List Tree)(n:Nat)(h0:L.length<=16)(h1:∀y∈L,T .az y)(h2:n=L.length):∃r:{r:List Tree // r.Perm L},ai (cf m) 143 [.ref (.arg 0) 0 n,.t (.int .i64 ((n:Nat):Int)),.t (.fn (.func 84))] [.arr (32,true) 7 false ((flat L).map .t)] (.ret (.t (.cF [])) [.arr (32,true) 7 false ((flat (r.1)).map .t)] []):=by
 obtain⟨OO,acY⟩:=acX m;obtain⟨ev,aJ,aki⟩:∃ev,aC (cf m) ev/\Has ev 184 (iP Cb (Fx) (λx=>Ut x (OO x))):=⟨_,(aq (dF (λ⟨L,n⟩ hx=>(acY L n hx).1)) aF),au⟩;refine AX.start 63 3 Tryz.func143 rfl (by decide) rfl rfl (by decide) ?_;refine AX.frames ?_;have wM:Fx (L,n):=⟨(by omega),h1,h2⟩;have hq1:=acY L n wM;refine⟨⟨(OO (L,n)),hq1.2⟩,qQ ah 1 [2,7] [oB (show(decide (20<=((n:Nat):Int)))=false from decide_eq_false (by omega)),dc 32 7 L,oC (fF aki acW (L,n) wM rfl rfl),dc 32 7 (OO (L,n)),oB (show(decide (20<((n:Nat):Int)))=false from decide_eq_false (by omega)),dc 32 7 (OO (L,n))]⟩
def Cc (x:List Tree×Nat):List TV×List aO:=([.ref (.arg 0) 0 x.2,.t (.int .i64 ((x.2:Nat):Int)),.t (.fn (.func 84))],[.arr (32,true) 7 false ((flat x.1).map .t)])
def Fy (x:List Tree×Nat):Prop:=(x.1.length<=16)/\(∀y∈x.1,T .az y)/\(x.2=x.1.length)
def Uu (x:List Tree×Nat)(r:List Tree):br:=(.ret (.t (.cF [])) [.arr (32,true) 7 false ((flat (r)).map .t)] [])
theorem acZ:∀x y,Fy x->Fy y->Cc x=Cc y->x=y:=by
 rintro ⟨L1,n1⟩ ⟨L2,n2⟩ h1 h2 h;have uA:L1=L2:=gZ (by decide) (aG h1.2.1) (aG h2.2.1) (congrArg (AK 0) h);have e_n:n1=n2:=h1.2.2.trans ((congrArg List.length uA).trans h2.2.2.symm);rw[uA,e_n]
theorem ac0 (m:Int):∃F:(List Tree×Nat)->List Tree,∀L n,Fy (L,n)->ai (cf m) 143 (Cc (L,n)).1 (Cc (L,n)).2 (Uu (L,n) (F (L,n)))/\((F (L,n)).Perm L):=by
 obtain⟨F,hF⟩:=bK (α:=List Tree×Nat) (P:=Fy) (Q:=λx (r:List Tree)=>ai (cf m) 143 (Cc x).1 (Cc x).2 (Uu x r)/\(r.Perm x.1)) λx hx=>by
  obtain⟨L,n⟩:=x;obtain⟨h0,h1,h2⟩:=hx;obtain⟨⟨r,hr⟩,h⟩:=agp m L n h0 h1 h2;exact⟨r,h,hr⟩
 exact⟨F,λL n hx=>hF (L,n) hx⟩
theorem agq (m:Int)(L:List Tree)(n:Nat)(h0:L.length<=16)(h1:∀y∈L,T .az y)(h2:n=L.length):∃r:{r:List Tree // r.Perm L},ai (cf m) 96 [.ref (.arg 0) 0 n,.t (.fn (.func 84))] [.arr (32,true) 7 false ((flat L).map .t)] (.ret (.t (.cF [])) [.arr (32,true) 7 false ((flat (r.1)).map .t)] []):=by
 obtain⟨OP,ac1⟩:=ac0 m;obtain⟨ev,aJ,akj⟩:∃ev,aC (cf m) ev/\Has ev 143 (iP Cc (Fy) (λx=>Uu x (OP x))):=⟨_,(aq (dF (λ⟨L,n⟩ hx=>(ac1 L n hx).1)) aF),au⟩;refine AX.start 9 2 Tryz.func96 rfl (by decide) rfl rfl (by decide) ?_;refine AX.frames ?_;have wM:Fy (L,n):=⟨(by omega),h1,h2⟩;have hq1:=ac1 L n wM;refine⟨⟨(OP (L,n)),hq1.2⟩,qQ ah 1 [] [dc 32 7 L,oC (fF akj acZ (L,n) wM rfl rfl),dc 32 7 (OP (L,n)),dc 32 7 (OP (L,n))]⟩
def Cd (x:List Tree×Nat):List TV×List aO:=([.ref (.arg 0) 0 x.2,.t (.fn (.func 84))],[.arr (32,true) 7 false ((flat x.1).map .t)])
def Fz (x:List Tree×Nat):Prop:=(x.1.length<=16)/\(∀y∈x.1,T .az y)/\(x.2=x.1.length)
def Uv (x:List Tree×Nat)(r:List Tree):br:=(.ret (.t (.cF [])) [.arr (32,true) 7 false ((flat (r)).map .t)] [])
theorem ac2:∀x y,Fz x->Fz y->Cd x=Cd y->x=y:=by
 rintro ⟨L1,n1⟩ ⟨L2,n2⟩ h1 h2 h;have uA:L1=L2:=gZ (by decide) (aG h1.2.1) (aG h2.2.1) (congrArg (AK 0) h);have e_n:n1=n2:=h1.2.2.trans ((congrArg List.length uA).trans h2.2.2.symm);rw[uA,e_n]
theorem ac3 (m:Int):∃F:(List Tree×Nat)->List Tree,∀L n,Fz (L,n)->ai (cf m) 96 (Cd (L,n)).1 (Cd (L,n)).2 (Uv (L,n) (F (L,n)))/\((F (L,n)).Perm L):=by
 obtain⟨F,hF⟩:=bK (α:=List Tree×Nat) (P:=Fz) (Q:=λx (r:List Tree)=>ai (cf m) 96 (Cd x).1 (Cd x).2 (Uv x r)/\(r.Perm x.1)) λx hx=>by
  obtain⟨L,n⟩:=x;obtain⟨h0,h1,h2⟩:=hx;obtain⟨⟨r,hr⟩,h⟩:=agq m L n h0 h1 h2;exact⟨r,h,hr⟩
 exact⟨F,λL n hx=>hF (L,n) hx⟩
theorem ac4 (m:Int):∃F:Tree->Tree->Bool,∀x y,(T .az x/\T .az y)->R2 (cf m) 98 x y (.bool (F x y))/\(True):=by
 refine tD (P:=λx y=>T .az x/\T .az y) (mk:=λ(r:Bool)=>.bool r) (Post:=λx y r=>True) λx y hx=> ?_
 obtain⟨hx,hy⟩:=hx;show ∃r:{r:Bool // True},ai (cf m) 98 [.t x,.t y] [] (.ret (.t (.bool r.1)) [] []);have bw:=hx;obtain⟨cQ,jW,n_1,s_1,dD,aT,dn,rfl,cI,cH,fK,dS,eW,eM⟩:=T.aB bw;have dB:=hy;obtain⟨ck,j6,n_2,s_2,iX,b8,eo,rfl,gx,kB,tM,rS,tN,qG⟩:=T.aB dB;obtain⟨ev,aJ,JJ⟩:∃ev,aC (cf m) ev/\Has ev 84 (rN (λx y=>T .az x/\T .az y) (λx y=>.int .i64 (Ki m x y))):=⟨_,(aq (dL (λx y h=>Kj m x y h)) aF),au⟩;refine AX.start 9 2 Tryz.func98 rfl (by decide) rfl rfl (by decide) ?_;refine AX.frames ?_;refine⟨⟨((Ki m (aA cQ jW n_1 s_1 dD aT dn) (aA ck j6 n_2 s_2 iX b8 eo))==0), ?_⟩,kf ah [oC (eH JJ (x:=(aA cQ jW n_1 s_1 dD aT dn)) (y:=(aA ck j6 n_2 s_2 iX b8 eo)) ⟨bw,dB⟩)]⟩;trivial
theorem akk (m:Int)(L:List Tree)(n:Nat)(h0:L.length<=16)(h1:∀y∈L,T .az y)(h2:n=L.length):∃r:{r:Bool×List Tree //(∀y∈r.2,y∈L)/\r.2.length<=L.length},ai (cf m) 97 [.ref (.arg 0) 0 n,.t (.fn (.func 98))] [.arr (32,true) 7 false ((flat L).map .t)] (.ret (.t (.sl (r.1).2)) [cond (r.1).1 .dead (.arr (32,true) 7 true ((flat L).map .t))] []):=by
 obtain⟨ac5,aox⟩:=ac4 m;obtain⟨ev,aJ,ac6⟩:∃ev,aC (cf m) ev/\Has ev 98 (rN (λx y=>T .az x/\T .az y) (λx y=>.bool (ac5 x y))):=⟨_,(aq (dL (λx y h=>(aox x y h).1)) aF),au⟩;refine AX.start 66 2 Tryz.func97 rfl (by decide) rfl rfl (by decide) ?_;refine AX.frames ?_;rcases aL (decide (((n:Nat):Int)<2)) with hc1|hc1
 ·have aju:=of_decide_eq_true hc1;refine⟨⟨(false,L),⟨λy hy=>hy,Nat.le_refl _⟩⟩,qQ ah 36893488147419103232 [] [oB hc1,oX true 7 L n cU (aG h1),oN (o:=.arr (32,true) 7 true ((flat L).map .t)) (λ_=>kW)]⟩
 ·have aju:=of_decide_eq_false hc1;refine kl (α:=Nat) ah 36893488147419103232 [] 66 0 [] [.arg 0] [0,1,5] (λx=>⟨eC 66 [(0,.ref (.arg 0) 0 n),(1,.t (.fn (.func 98))),(5,.t (.int .i64 ((x:Nat):Int)))],[(.arg 0,.arr (32,true) 7 false ((flat L).map .t))],0⟩) (λx=>(x<=n)/\(1<=x)) (λx=>n - x) 1 (j4 (Tryz.f97.body.getD .skip) 4) [oB hc1,dc 32 7 L] ⟨by omega,Nat.le_refl _⟩ (λx hok=> ?_);obtain⟨i_2,zq⟩:∃y,y=x:=⟨x,rfl⟩;subst zq;replace hok:(i_2<=n)/\(1<=i_2):=hok;obtain⟨HP,N4⟩:=hok;rcases aL (decide (((i_2:Nat):Int)<((n:Nat):Int))) with bL|bL
  ·have mC:=of_decide_eq_true bL;obtain⟨e4,uE⟩:=dw L i_2;have p7:=(h1 e4 (fU uE));obtain⟨eB,og,rD,Be,pV,fh,gW,rfl,xM,BX,Kk,Kl,Km,Kn⟩:=T.aB p7;obtain⟨e6,he6⟩:=dw L (i_2 - 1);have Dj:=(h1 e6 (fU he6));obtain⟨zX,RO,Sq,Sr,RP,vu,zY,rfl,aaA,aj1,aj2,aj3,aj4,aj5⟩:=T.aB Dj;have aoy:=kA (m:=7) (i:=i_2 - 1) (j:=0) (eP.lens (aG h1)) he6 (by decide);have aoz:=kA (m:=7) (i:=i_2) (j:=0) (eP.lens (aG h1)) uE (by decide);rcases aL ((ac5 (aA eB og rD Be pV fh gW) (aA zX RO Sq Sr RP vu zY))) with jq|jq
   ·refine kl (α:=Nat×Nat×List Tree) ah 36893488147419103232 [] 66 0 [] [.arg 0] [0,1,5,6,7] (λx=>⟨eC 66 [(0,.ref (.arg 0) 0 n),(1,.t (.fn (.func 98))),(5,.t (.int .i64 ((x.2.1:Nat):Int))),(6,.ref (.arg 0) (0+i_2) (n - i_2)),(7,.t (.int .i64 ((x.1:Nat):Int)))],[(.arg 0,.arr (32,true) 7 false ((flat x.2.2).map .t))],0⟩) (λx=>(x.1<=(n - i_2))/\(∀y∈x.2.2,y∈L)/\(x.2.2.length=L.length)/\(i_2<=x.2.1/\x.2.1+1<=i_2+x.1)/\(1<=x.1)) (λx=>(n - i_2) - x.1) (⟨1,i_2,L⟩) (j4 (Tryz.f97.body.getD .skip) 9) [oB bL,oX true 7 L n cU (aG h1),oR (i_2+1) n cU,oQ L,oO aoz,oS (i_2) (by omega) (by omega),oX true 7 L n cU (aG h1),oR ((i_2 - 1)+1) n cU,oQ L,oO aoy,oC (eH ac6 (x:=(aA eB og rD Be pV fh gW)) (y:=(aA zX RO Sq Sr RP vu zY)) ⟨p7,Dj⟩),oB jq,oP (GU (a:=0) (b:=n) (aG h1) (by omega)),oR i_2 n (by omega),dc 32 7 L] ⟨(by dsimp only;omega),λy hy=>hy,rfl,(by dsimp only;omega),Nat.le_refl _⟩ (λx hok=> ?_);obtain⟨FZ,uI,OQ⟩:=x;replace hok:(FZ<=(n - i_2))/\(∀y∈OQ,y∈L)/\(OQ.length=L.length)/\(i_2<=uI/\uI+1<=i_2+FZ)/\(1<=FZ):=hok;obtain⟨apY,gY,Ee,apZ,ap0⟩:=hok;have asU:n=OQ.length:=h2.trans Ee.symm;rcases aL (decide (((FZ:Nat):Int)<(((n - i_2):Nat):Int))) with k3|k3
    ·have JI:=of_decide_eq_true k3;obtain⟨e11,X4⟩:=dw OQ ((0+i_2)+FZ);have Rz:=((λy hy=>h1 y (gY y hy)) e11 (fU X4));obtain⟨sQ,DS,Oy,Oz,DT,pX,sS,rfl,afG,afH,afI,afJ,afK,afL⟩:=T.aB Rz;obtain⟨e13,tY⟩:=dw OQ ((0+i_2)+(FZ - 1));have Mr:=((λy hy=>h1 y (gY y hy)) e13 (fU tY));obtain⟨V4,ahL,KA,KC,zU,mG,V5,rfl,VE,VF,VG,DM,VH,VI⟩:=T.aB Mr;have akl:=kA (m:=7) (i:=((0+i_2)+FZ)) (j:=0) (eP.lens (aG (λy hy=>h1 y (gY y hy)))) X4 (by decide);have aoA:=eH ac6 (x:=(aA sQ DS Oy Oz DT pX sS)) (y:=(aA V4 ahL KA KC zU mG V5)) ⟨Rz,Mr⟩;have aoB:=kA (m:=7) (i:=((0+i_2)+(FZ - 1))) (j:=0) (eP.lens (aG (λy hy=>h1 y (gY y hy)))) tY (by decide);rcases aL ((!(ac5 (aA sQ DS Oy Oz DT pX sS) (aA V4 ahL KA KC zU mG V5)))) with ez|ez
     ·obtain⟨e16,XQ⟩:=dw OQ uI;have DK:=((λy hy=>h1 y (gY y hy)) e16 (fU XQ));obtain⟨afP,anv,aqW,aqX,anw,ab5,afQ,rfl,afR,afS,afT,afU,afV,afW⟩:=T.aB DK;exact⟨.inl ⟨⟨FZ+1,uI+1,(OQ.set uI (aA sQ DS Oy Oz DT pX sS))⟩,⟨⟨(by show(FZ+1)<=(n - i_2);omega),(λy hy=>(List.mem_or_eq_of_mem_set hy).elim (gY y) (λe=>by rw[e];exact gY _ (fU X4))),(by first|exact Ee|(rw[List.length_set];exact Ee)),(by dsimp only;omega),(by show 1<=(FZ+1);first|omega|(simp only[List.length_append,List.length_cons,List.length_nil,List.length_singleton] at*;omega)|(simp;done)|(simp;omega))⟩,(by show((n - i_2) - (FZ+1))<((n - i_2) - FZ);omega)⟩⟩,vH ah 36893488147419103232 [] 66 0 [] [.arg 0] [0,1,5,6,7] [oB k3,oP (GU (a:=(0+i_2)) (b:=(n - i_2)) (aG (λy hy=>h1 y (gY y hy))) (by omega)),oR (FZ+1) (n - i_2) (by omega),oQ OQ,oO akl,oS (FZ) (by omega) (by omega),oP (GU (a:=(0+i_2)) (b:=(n - i_2)) (aG (λy hy=>h1 y (gY y hy))) (by omega)),oR ((FZ - 1)+1) (n - i_2) (by omega),oQ OQ,oO aoB,oC aoA,oB ez,oP (GU (a:=(0+i_2)) (b:=(n - i_2)) (aG (λy hy=>h1 y (gY y hy))) (by omega)),oR (FZ+1) (n - i_2) (by omega),oQ OQ,oO akl,oX true 7 OQ n cU (aG (λy hy=>h1 y (gY y hy))),oR (uI+1) n cU,oQ OQ,oR _ _ (zl (j:=0) (m:=7) (eP.lens (aG (λy hy=>h1 y (gY y hy)))) XQ (by decide)),oK (wu (j:=0) (e':=(aA sQ DS Oy Oz DT pX sS)) (vs:=[.int .u8 sQ,.bool DS,.int .i64 Oy,.str Oz,.str DT,.sl pX,.sl sS]) (eP.lens (aG (λy hy=>h1 y (gY y hy)))) XQ (by first|decide|simp) rfl),oI (uI) (by omega),oI (FZ) (by omega),dc 32 7 (OQ.set uI (aA sQ DS Oy Oz DT pX sS))]⟩
     ·exact⟨.inl ⟨⟨FZ+1,uI,OQ⟩,⟨⟨(by show(FZ+1)<=(n - i_2);omega),gY,(by first|exact Ee|(rw[List.length_set];exact Ee)),(by dsimp only;omega),(by show 1<=(FZ+1);first|omega|(simp only[List.length_append,List.length_cons,List.length_nil,List.length_singleton] at*;omega)|(simp;done)|(simp;omega))⟩,(by show((n - i_2) - (FZ+1))<((n - i_2) - FZ);omega)⟩⟩,vH ah 36893488147419103232 [] 66 0 [] [.arg 0] [0,1,5,6,7] [oB k3,oP (GU (a:=(0+i_2)) (b:=(n - i_2)) (aG (λy hy=>h1 y (gY y hy))) (by omega)),oR (FZ+1) (n - i_2) (by omega),oQ OQ,oO akl,oS (FZ) (by omega) (by omega),oP (GU (a:=(0+i_2)) (b:=(n - i_2)) (aG (λy hy=>h1 y (gY y hy))) (by omega)),oR ((FZ - 1)+1) (n - i_2) (by omega),oQ OQ,oO aoB,oC aoA,oB ez,oI (FZ) (by omega),dc 32 7 OQ]⟩
    ·have JI:=of_decide_eq_false k3;refine E8 ah 36893488147419103232 [] [oB k3] ?_;refine E8 ah 36893488147419103232 [] [oP (GU (a:=0) (b:=n) (aG (λy hy=>h1 y (gY y hy))) (by omega)),oR uI n (by omega),oP (GU (a:=(0+uI)) (b:=(n - uI)) (aG (λy hy=>h1 y (gY y hy))) (by omega)),oK (ake (a:=(0+uI)) (b:=(n - uI)) (z:=[.t (.int .u8 0),.t (.bool false),.t (.int .i64 0),.t (.str []),.t (.str []),.bX,.bX]) (aG (λy hy=>h1 y (gY y hy))) (by omega) rfl),oP (akf (a:=(0+uI)) (b:=(n - uI)) (n:=n) (z:=[.t (.int .u8 0),.t (.bool false),.t (.int .i64 0),.t (.str []),.t (.str []),.bX,.bX]) (aG (λy hy=>h1 y (gY y hy))) (by omega) rfl (by omega)),oR uI n (by omega),oK (acV (h:=uI) (b:=(n - uI)) (z:=[.t (.int .u8 0),.t (.bool false),.t (.int .i64 0),.t (.str []),.t (.str []),.bX,.bX]) (aG (λy hy=>h1 y (gY y hy))) (by omega))] ?_;refine⟨⟨(true,(OQ.take uI)),⟨λy hy=>gY y (List.mem_of_mem_take hy),by show(List.take _ _).length<=_;rw[List.length_take];omega⟩⟩,qQ ah 36893488147419103232 [] [oX true 7 (OQ.take uI) uI cU (eP.take (aG (λy hy=>h1 y (gY y hy))) _)]⟩
   ·exact⟨.inl ⟨i_2+1,⟨⟨(by show(i_2+1)<=n;omega),(by show 1<=(i_2+1);first|omega|(simp only[List.length_append,List.length_cons,List.length_nil,List.length_singleton] at*;omega)|(simp;done)|(simp;omega))⟩,(by show(n - (i_2+1))<(n - i_2);omega)⟩⟩,vH ah 36893488147419103232 [] 66 0 [] [.arg 0] [0,1,5] [oB bL,oX true 7 L n cU (aG h1),oR (i_2+1) n cU,oQ L,oO aoz,oS (i_2) (by omega) (by omega),oX true 7 L n cU (aG h1),oR ((i_2 - 1)+1) n cU,oQ L,oO aoy,oC (eH ac6 (x:=(aA eB og rD Be pV fh gW)) (y:=(aA zX RO Sq Sr RP vu zY)) ⟨p7,Dj⟩),oB jq,oI (i_2) (by omega),dc 32 7 L]⟩
  ·have mC:=of_decide_eq_false bL;refine E8 ah 36893488147419103232 [] [oB bL] ?_;refine⟨⟨(false,L),⟨λy hy=>hy,Nat.le_refl _⟩⟩,qQ ah 36893488147419103232 [] [oX true 7 L n cU (aG h1),oN (o:=.arr (32,true) 7 true ((flat L).map .t)) (λ_=>kW)]⟩
def KL (x:List Tree×Nat):List TV×List aO:=([.ref (.arg 0) 0 x.2,.t (.fn (.func 98))],[.arr (32,true) 7 false ((flat x.1).map .t)])
def MN (x:List Tree×Nat):Prop:=(x.1.length<=16)/\(∀y∈x.1,T .az y)/\(x.2=x.1.length)
def ac7 (x:List Tree×Nat)(r:Bool×List Tree):br:=(.ret (.t (.sl (r).2)) [cond (r).1 .dead (.arr (32,true) 7 true ((flat x.1).map .t))] [])
theorem V6:∀x y,MN x->MN y->KL x=KL y->x=y:=by
 rintro ⟨L1,n1⟩ ⟨L2,n2⟩ h1 h2 h;have uA:L1=L2:=gZ (by decide) (aG h1.2.1) (aG h2.2.1) (congrArg (AK 0) h);have e_n:n1=n2:=h1.2.2.trans ((congrArg List.length uA).trans h2.2.2.symm);rw[uA,e_n]
theorem agr (m:Int):∃F:(List Tree×Nat)->Bool×List Tree,∀L n,MN (L,n)->ai (cf m) 97 (KL (L,n)).1 (KL (L,n)).2 (ac7 (L,n) (F (L,n)))/\((∀y∈(F (L,n)).2,y∈L)/\(F (L,n)).2.length<=L.length):=by
 obtain⟨F,hF⟩:=bK (α:=List Tree×Nat) (P:=MN) (Q:=λx (r:Bool×List Tree)=>ai (cf m) 97 (KL x).1 (KL x).2 (ac7 x r)/\((∀y∈r.2,y∈x.1)/\r.2.length<=x.1.length)) λx hx=>by
  obtain⟨L,n⟩:=x;obtain⟨h0,h1,h2⟩:=hx;obtain⟨⟨r,hr⟩,h⟩:=akk m L n h0 h1 h2;exact⟨r,h,hr⟩
 exact⟨F,λL n hx=>hF (L,n) hx⟩
theorem akm (m:Int):ai (cf m) 184 [.t (.sl []),.t (.int .i64 0),.t (.int .i64 0),.t (.fn (.func 84))] [] (.ret (.t (.cF [])) [] []):=by
 obtain⟨ev,aJ⟩:∃ev,aC (cf m) ev:=⟨_,aF⟩;refine ai.gO ?_;refine AX.start 53 4 Tryz.func184 rfl (by decide) rfl rfl (by decide) ?_;refine AX.frames ?_;exact⟨(),qQ ah 0 [1] [HN 0 1 (by omega),oF]⟩
theorem akn (m:Int):ai (cf m) 143 [.t (.sl []),.t (.int .i64 0),.t (.fn (.func 84))] [] (.ret (.t (.cF [])) [] []):=by
 obtain⟨ev,aJ,ags⟩:∃ev,aC (cf m) ev/\Has ev 184 (px [.t (.sl []),.t (.int .i64 0),.t (.int .i64 0),.t (.fn (.func 84))] [] (.ret (.t (.cF [])) [] [])):=⟨_,(aq (fQ (akm m)) aF),au⟩;refine ai.gO ?_;refine AX.start 63 3 Tryz.func143 rfl (by decide) rfl rfl (by decide) ?_;refine AX.frames ?_;exact⟨(),qQ ah 0 [2,7] [oF,oC (jm ags),oF]⟩
theorem ako (m:Int):ai (cf m) 96 [.t (.sl []),.t (.fn (.func 84))] [] (.ret (.t (.cF [])) [] []):=by
 obtain⟨ev,aJ,agt⟩:∃ev,aC (cf m) ev/\Has ev 143 (px [.t (.sl []),.t (.int .i64 0),.t (.fn (.func 84))] [] (.ret (.t (.cF [])) [] [])):=⟨_,(aq (fQ (akn m)) aF),au⟩;refine ai.gO ?_;refine AX.start 9 2 Tryz.func96 rfl (by decide) rfl rfl (by decide) ?_;refine AX.frames ?_;exact⟨(),kf ah [oC (jm agt)]⟩
theorem aoC (m:Int):ai (cf m) 97 [.t (.sl []),.t (.fn (.func 98))] [] (.ret (.t (.sl [])) [] []):=by
 obtain⟨ev,aJ⟩:∃ev,aC (cf m) ev:=⟨_,aF⟩;refine ai.gO ?_;refine AX.start 66 2 Tryz.func97 rfl (by decide) rfl rfl (by decide) ?_;refine AX.frames ?_;exact⟨(),kf ah [oT]⟩
theorem ac8 (m:Int)(q:Sc)(e:Tree)(he:T .aD e):∃r:{r:Tree // T .az r},ai (cf m) 55 [.ptr (.arg 0) 0,.t e,.t (.sl [])] [.cells 63 (aU q)] (.ret (.t r.1) [.cells 63 (aU q)] []):=by
 have bw:=he;obtain⟨bW,n_1,s_1,dD,aT,bO,rfl,cI,cH,fK,dS,eW,eM,jc⟩:=T.bz bw;obtain⟨ev,aJ,agu,akp⟩:∃ev,aC (cf m) ev/\Has ev 96 (px [.t (.sl []),.t (.fn (.func 84))] [] (.ret (.t (.cF [])) [] []))/\Has ev 97 (px [.t (.sl []),.t (.fn (.func 98))] [] (.ret (.t (.sl [])) [] [])):=⟨_,(aq (fQ (ako m)) (aq (fQ (aoC m)) aF)),au,(av rfl au)⟩;refine AX.start 12 3 Tryz.func55 rfl (by decide) rfl rfl (by decide) ?_;refine AX.frames ?_;refine⟨⟨(aA 4 false 0 [] [] [] ([]:List Tree)),.az _ _ _ _ _ _ _ (by simp) (by simp) (by simp) (λ_ h=>by cases h) (by simp) (λ_ h=>by cases h)⟩,kf ah [oC (jm agu),oC (jm akp)]⟩
theorem agv (m:Int)(q:Sc)(e:Tree)(L:List Tree)(n:Nat)(h0:L.length<=16)(h1:∀y∈L,T .az y)(h2:n=L.length)(h3:T .aD e):∃r:{r:Bool×List Tree×Tree // T .az r.2.2},ai (cf m) 55 [.ptr (.arg 0) 0,.t e,.ref (.arg 1) 0 n] [.cells 63 (aU q),.arr (32,true) 7 false ((flat L).map .t)] (.ret (.t (r.1).2.2) [.cells 63 (aU q),cond (r.1).1 .dead (.arr (32,true) 7 true ((flat (r.1).2.1).map .t))] []):=by
 have bw:=h3;obtain⟨bW,n_1,s_1,dD,aT,bO,rfl,cI,cH,fK,dS,eW,eM,jc⟩:=T.bz bw;obtain⟨jF,ac9⟩:=ac3 m;obtain⟨GV,ahM⟩:=agr m;obtain⟨ev,aJ,akq,ahN⟩:∃ev,aC (cf m) ev/\Has ev 96 (iP Cd (Fz) (λx=>Uv x (jF x)))/\Has ev 97 (iP KL (MN) (λx=>ac7 x (GV x))):=⟨_,(aq (dF (λ⟨L,n⟩ hx=>(ac9 L n hx).1)) (aq (dF (λ⟨L,n⟩ hx=>(ahM L n hx).1)) aF)),au,(av rfl au)⟩;refine AX.start 12 3 Tryz.func55 rfl (by decide) rfl rfl (by decide) ?_;refine AX.frames ?_;have abe:Fz (L,n):=⟨(by omega),h1,h2⟩;have hq2:=ac9 L n abe;have sp3:=hq2.2;have agw:=sp3.length_eq;have akr:∀y∈(jF (L,n)),T .az y:=λy hy=>h1 y (sp3.mem_iff.1 hy)
 have nM:MN ((jF (L,n)),n):=⟨(by have:=agw;first|(dsimp only;omega)|omega),akr,(h2.trans agw.symm)⟩;have K2:=ahM (jF (L,n)) n nM;have agx:=K2.2;have aoD:=fF akq ac2 (L,n) abe rfl rfl;rcases aL ((GV ((jF (L,n)),n)).1) with aks|aks
 ·refine⟨⟨(true,[],(aA 4 false 0 [] [] [] ((GV ((jF (L,n)),n)).2))),.az _ _ _ _ _ _ _ (by simp) (by simp) (by simp) (λ_ h=>by cases h) (by have:=agx.2;have:=agw;omega) (λy hy=>akr y (agx.1 y hy))⟩,qQ ah 2560 [] [dc 32 7 L,oC aoD,dc 32 7 (jF (L,n)),dc 32 7 (jF (L,n)),oC (show ev 97 [.ref (.arg 0) 0 n,.t (.fn (.func 98))] [.arr (32,true) 7 false ((flat (jF (L,n))).map .t)]=some (br.ret (.t (.sl (GV ((jF (L,n)),n)).2)) [.dead] []) from(fF ahN V6 ((jF (L,n)),n) nM rfl rfl).trans (by show some (br.ret _ [cond (GV ((jF (L,n)),n)).1 _ _] [])=_;rw[aks];rfl))]⟩
 ·refine⟨⟨(false,(jF (L,n)),(aA 4 false 0 [] [] [] ((GV ((jF (L,n)),n)).2))),.az _ _ _ _ _ _ _ (by simp) (by simp) (by simp) (λ_ h=>by cases h) (by have:=agx.2;have:=agw;omega) (λy hy=>akr y (agx.1 y hy))⟩,qQ ah 2560 [] [dc 32 7 L,oC aoD,dc 32 7 (jF (L,n)),dc 32 7 (jF (L,n)),oC (show ev 97 [.ref (.arg 0) 0 n,.t (.fn (.func 98))] [.arr (32,true) 7 false ((flat (jF (L,n))).map .t)]=some (br.ret (.t (.sl (GV ((jF (L,n)),n)).2)) [.arr (32,true) 7 true ((flat (jF (L,n))).map .t)] []) from(fF ahN V6 ((jF (L,n)),n) nM rfl rfl).trans (by show some (br.ret _ [cond (GV ((jF (L,n)),n)).1 _ _] [])=_;rw[aks];rfl)),oN (o:=.arr (32,true) 7 true ((flat (jF (L,n))).map .t)) (λ_=>kW),oN (o:=.arr (32,true) 7 true ((flat (jF (L,n))).map .t)) (λ_=>kW)]⟩
def x7 (x:Sc×Tree×List Tree×Nat):List TV×List aO:=([.ptr (.arg 0) 0,.t x.2.1,.ref (.arg 1) 0 x.2.2.2],[.cells 63 (aU x.1),.arr (32,true) 7 false ((flat x.2.2.1).map .t)])
def Ce (x:Sc×Tree×List Tree×Nat):Prop:=(x.2.2.1.length<=16)/\(∀y∈x.2.2.1,T .az y)/\(x.2.2.2=x.2.2.1.length)/\(T .aD x.2.1)
def OS (x:Sc×Tree×List Tree×Nat)(r:Bool×List Tree×Tree):br:=(.ret (.t (r).2.2) [.cells 63 (aU x.1),cond (r).1 .dead (.arr (32,true) 7 true ((flat (r).2.1).map .t))] [])
theorem RT:∀x y,Ce x->Ce y->x7 x=x7 y->x=y:=by
 rintro ⟨q1,e1,L1,n1⟩ ⟨q2,e2,L2,n2⟩ h1 h2 h;have e_q:q1=q2:=congrArg pSc h;have e_e:e1=e2:=congrArg (pT0 1) h;have uA:L1=L2:=gZ (by decide) (aG h1.2.1) (aG h2.2.1) (congrArg (AK 1) h);have e_n:n1=n2:=h1.2.2.1.trans ((congrArg List.length uA).trans h2.2.2.1.symm);rw[e_q,e_e,uA,e_n]
theorem ada (m:Int):∃F:(Sc×Tree×List Tree×Nat)->Bool×List Tree×Tree,∀q e L n,Ce (q,e,L,n)->ai (cf m) 55 (x7 (q,e,L,n)).1 (x7 (q,e,L,n)).2 (OS (q,e,L,n) (F (q,e,L,n)))/\(T .az (F (q,e,L,n)).2.2):=by
 obtain⟨F,hF⟩:=bK (α:=Sc×Tree×List Tree×Nat) (P:=Ce) (Q:=λx (r:Bool×List Tree×Tree)=>ai (cf m) 55 (x7 x).1 (x7 x).2 (OS x r)/\(T .az r.2.2)) λx hx=>by
  obtain⟨q,e,L,n⟩:=x;obtain⟨h0,h1,h2,h3⟩:=hx;obtain⟨⟨r,hr⟩,h⟩:=agv m q e L n h0 h1 h2 h3;exact⟨r,h,hr⟩
 exact⟨F,λq e L n hx=>hF (q,e,L,n) hx⟩
def aP:List (TV×TV×Nat):=[(.t (.int .u8 1),.t (.fn (.func 53)),0),(.t (.int .u8 2),.t (.fn (.func 53)),1),(.t (.int .u8 3),.t (.fn (.func 53)),2),(.t (.int .u8 4),.t (.fn (.func 53)),3),(.t (.int .u8 5),.t (.fn (.func 54)),4),(.t (.int .u8 6),.t (.fn (.func 55)),5),(.t (.int .u8 7),.t (.fn (.func 56)),6),(.t (.int .u8 8),.t (.fn (.func 57)),7),(.t (.int .u8 9),.t (.fn (.func 58)),8),(.t (.int .u8 10),.t (.fn (.func 59)),9),(.t (.int .u8 11),.t (.fn (.func 60)),10),(.t (.int .u8 12),.t (.fn (.func 61)),11),(.t (.int .u8 13),.t (.fn (.func 62)),12),(.t (.int .u8 17),.t (.fn (.func 63)),13),(.t (.int .u8 18),.t (.fn (.func 63)),14),(.t (.int .u8 19),.t (.fn (.func 64)),15),(.t (.int .u8 20),.t (.fn (.func 64)),16),(.t (.int .u8 21),.t (.fn (.func 64)),17),(.t (.int .u8 22),.t (.fn (.func 64)),18),(.t (.int .u8 23),.t (.fn (.func 65)),19),(.t (.int .u8 24),.t (.fn (.func 66)),20),(.t (.int .u8 25),.t (.fn (.func 66)),21),(.t (.int .u8 26),.t (.fn (.func 66)),22),(.t (.int .u8 27),.t (.fn (.func 67)),23),(.t (.int .u8 28),.t (.fn (.func 68)),24),(.t (.int .u8 29),.t (.fn (.func 68)),25)]
theorem Ef (m:Int):ai (cf m) 28 [] [] (.ret (.map (.loc [1])) [] [(.loc [1],.map aP 26)]):=mF (by kernel_rfl)
def gOf (op:Int):Nat:=if op=1 then 53 else if op=2 then 53 else if op=3 then 53 else if op=4 then 53 else if op=5 then 54 else if op=6 then 55 else if op=7 then 56 else if op=8 then 57 else if op=9 then 58 else if op=10 then 59 else if op=11 then 60 else if op=12 then 61 else if op=13 then 62 else if op=17 then 63 else if op=18 then 63 else if op=19 then 64 else if op=20 then 64 else if op=21 then 64 else if op=22 then 64 else if op=23 then 65 else if op=24 then 66 else if op=25 then 66 else if op=26 then 66 else if op=27 then 67 else if op=28 then 68 else if op=29 then 68 else 0
def Ss (q:Sc):aO:=.cells 63 (aU q)
def PO (q:Sc)(e:Tree)(l:List Tree):Prop:=Rq q/\T .aD e/\l.length<=4194304/\(∀y∈l,T .az y)/\DW (fq e) (aoe e).length l.length
def QO (m:Int)(e:Tree)(l:List Tree)(r:Tree ⊕ Int):Prop:=((∀v,r=.inl v->T .az v)/\∀w,r=.inr w->w≠0)/\
 (fq e=12->r=abB (jP l 0))/\(fq e=13->∀v,r=.inl v->iJ (jP l 0)=1/\v=yu (IntKind.wrap .i64 (0 - GF (jP l 0))))/\
 (fq e=17\/fq e=18->r=eqS (fq e) (Ki m (jP l 0) (jP l 1)))/\(19<=fq e->fq e<=22->r=p9 m (fq e) (jP l 0) (jP l 1))/\
 (fq e=24->∀v,r=.inl v->iJ (jP l 0)=1/\iJ (jP l 1)=1/\v=yu (IntKind.wrap .i64 (GF (jP l 0)+GF (jP l 1))))/\
 (fq e=25->∀v,r=.inl v->iJ (jP l 0)=1/\iJ (jP l 1)=1/\v=yu (IntKind.wrap .i64 (GF (jP l 0) - GF (jP l 1))))
theorem akt (m:Int)(q:Sc)(e:Tree)(l:List Tree)(h:PO q e l)(h6:fq e≠6)(Sj:fq e≠14)(Ql:fq e≠15)(h16:fq e≠16):∃r:Tree ⊕ Int,ai (cf m) (gOf (fq e)) [.ptr (.arg 0) 0,.t e,.t (.sl l)] [Ss q] (aM r [Ss q])/\QO m e l r:=by
 obtain⟨hs,he,hl,hT,hM⟩:=h;obtain⟨⟨m1,m2⟩,m3,m4,m5,m6,_⟩:=hM;have II:fq e=1\/fq e=2\/fq e=3\/fq e=4\/fq e=5\/fq e=7\/fq e=8\/fq e=9\/fq e=10\/fq e=11\/fq e=12\/fq e=13\/fq e=17\/fq e=18\/fq e=19\/fq e=20\/fq e=21\/fq e=22\/fq e=23\/fq e=24\/fq e=25\/fq e=26\/fq e=27\/fq e=28\/fq e=29:=by omega
 rcases II with hk|hk|hk|hk|hk|hk|hk|hk|hk|hk|hk|hk|hk|hk|hk|hk|hk|hk|hk|hk|hk|hk|hk|hk|hk
 ·obtain⟨⟨r,hr⟩,hc⟩:=DR m q e l he hl hT;exact⟨r,by rw[hk];exact hc,⟨hr.1,hr.2⟩,(λh=>by omega),(λh=>by omega),(λh=>by omega),(λ_ _=>by omega),(λh=>by omega),(λh=>by omega)⟩
 ·obtain⟨⟨r,hr⟩,hc⟩:=DR m q e l he hl hT;exact⟨r,by rw[hk];exact hc,⟨hr.1,hr.2⟩,(λh=>by omega),(λh=>by omega),(λh=>by omega),(λ_ _=>by omega),(λh=>by omega),(λh=>by omega)⟩
 ·obtain⟨⟨r,hr⟩,hc⟩:=DR m q e l he hl hT;exact⟨r,by rw[hk];exact hc,⟨hr.1,hr.2⟩,(λh=>by omega),(λh=>by omega),(λh=>by omega),(λ_ _=>by omega),(λh=>by omega),(λh=>by omega)⟩
 ·obtain⟨⟨r,hr⟩,hc⟩:=DR m q e l he hl hT;exact⟨r,by rw[hk];exact hc,⟨hr.1,hr.2⟩,(λh=>by omega),(λh=>by omega),(λh=>by omega),(λ_ _=>by omega),(λh=>by omega),(λh=>by omega)⟩
 ·obtain⟨⟨r,hr⟩,hc⟩:=aft m q e l he hl hT hs;exact⟨r,by rw[hk];exact hc,⟨hr.1,hr.2⟩,(λh=>by omega),(λh=>by omega),(λh=>by omega),(λ_ _=>by omega),(λh=>by omega),(λh=>by omega)⟩
 ·obtain⟨⟨r,hr⟩,hc⟩:=agj m q e l he hl hT (m3 hk);exact⟨r,by rw[hk];exact hc,⟨hr.1,hr.2⟩,(λh=>by omega),(λh=>by omega),(λh=>by omega),(λ_ _=>by omega),(λh=>by omega),(λh=>by omega)⟩
 ·obtain⟨⟨r,hr⟩,hc⟩:=ab1 m q e l he hl hT (by omega) hs;exact⟨r,by rw[hk];exact hc,⟨hr.1,hr.2⟩,(λh=>by omega),(λh=>by omega),(λh=>by omega),(λ_ _=>by omega),(λh=>by omega),(λh=>by omega)⟩
 ·obtain⟨⟨r,hr⟩,hc⟩:=afM m q e l he hl hT (by omega) hs;exact⟨r,by rw[hk];exact hc,⟨hr.1,hr.2⟩,(λh=>by omega),(λh=>by omega),(λh=>by omega),(λ_ _=>by omega),(λh=>by omega),(λh=>by omega)⟩
 ·obtain⟨⟨r,hr⟩,hc⟩:=ajz m q e l he hl hT (by omega);exact⟨r,by rw[hk];exact hc,⟨hr.1,hr.2⟩,(λh=>by omega),(λh=>by omega),(λh=>by omega),(λ_ _=>by omega),(λh=>by omega),(λh=>by omega)⟩
 ·obtain⟨⟨r,hr⟩,hc⟩:=acB m q e l he hl hT (by omega);exact⟨r,by rw[hk];exact hc,⟨hr.1,hr.2⟩,(λh=>by omega),(λh=>by omega),(λh=>by omega),(λ_ _=>by omega),(λh=>by omega),(λh=>by omega)⟩
 ·obtain⟨⟨r,hr⟩,hc⟩:=afp m q e l he hl hT (by omega);exact⟨r,by rw[hk];exact hc,⟨hr.1.1,hr.2⟩,(λ_=>hr.1.2),(λh=>by omega),(λh=>by omega),(λ_ _=>by omega),(λh=>by omega),(λh=>by omega)⟩
 ·obtain⟨⟨r,hr⟩,hc⟩:=afq m q e l he hl hT (by omega);exact⟨r,by rw[hk];exact hc,⟨(λv hv=>by obtain⟨_,rfl⟩:=hr.1 v hv;exact HV _),hr.2⟩,(λh=>by omega),(λ_=>hr.1),(λh=>by omega),(λ_ _=>by omega),(λh=>by omega),(λh=>by omega)⟩
 ·obtain⟨⟨r,hr⟩,hc⟩:=Mv m q e l he hl hT (by omega);exact⟨r,by rw[hk];exact hc,⟨hr.1.1,hr.2⟩,(λh=>by omega),(λh=>by omega),(λ_=>hr.1.2),(λ_ _=>by omega),(λh=>by omega),(λh=>by omega)⟩
 ·obtain⟨⟨r,hr⟩,hc⟩:=Mv m q e l he hl hT (by omega);exact⟨r,by rw[hk];exact hc,⟨hr.1.1,hr.2⟩,(λh=>by omega),(λh=>by omega),(λ_=>hr.1.2),(λ_ _=>by omega),(λh=>by omega),(λh=>by omega)⟩
 ·obtain⟨⟨r,hr⟩,hc⟩:=HW m q e l he hl hT (by omega);exact⟨r,by rw[hk];exact hc,⟨hr.1.1,hr.2⟩,(λh=>by omega),(λh=>by omega),(λh=>by omega),(λ_ _=>hr.1.2),(λh=>by omega),(λh=>by omega)⟩
 ·obtain⟨⟨r,hr⟩,hc⟩:=HW m q e l he hl hT (by omega);exact⟨r,by rw[hk];exact hc,⟨hr.1.1,hr.2⟩,(λh=>by omega),(λh=>by omega),(λh=>by omega),(λ_ _=>hr.1.2),(λh=>by omega),(λh=>by omega)⟩
 ·obtain⟨⟨r,hr⟩,hc⟩:=HW m q e l he hl hT (by omega);exact⟨r,by rw[hk];exact hc,⟨hr.1.1,hr.2⟩,(λh=>by omega),(λh=>by omega),(λh=>by omega),(λ_ _=>hr.1.2),(λh=>by omega),(λh=>by omega)⟩
 ·obtain⟨⟨r,hr⟩,hc⟩:=HW m q e l he hl hT (by omega);exact⟨r,by rw[hk];exact hc,⟨hr.1.1,hr.2⟩,(λh=>by omega),(λh=>by omega),(λh=>by omega),(λ_ _=>hr.1.2),(λh=>by omega),(λh=>by omega)⟩
 ·obtain⟨⟨r,hr⟩,hc⟩:=akd m q e l he hl hT (by omega) hs;exact⟨r,by rw[hk];exact hc,⟨hr.1,hr.2⟩,(λh=>by omega),(λh=>by omega),(λh=>by omega),(λ_ _=>by omega),(λh=>by omega),(λh=>by omega)⟩
 ·obtain⟨⟨r,hr⟩,hc⟩:=Ox m q e l he hl hT (by omega) (by omega);exact⟨r,by rw[hk];exact hc,⟨(λv hv=>by obtain⟨_,_,n,rfl,_⟩:=hr.1 v hv;exact HV _),hr.2⟩,(λh=>by omega),(λh=>by omega),(λh=>by omega),(λ_ _=>by omega),(λ_ v hv=>by obtain⟨a,b,n,rfl,c,_⟩:=hr.1 v hv;exact⟨a,b,by rw[c hk]⟩),(λh=>by omega)⟩
 ·obtain⟨⟨r,hr⟩,hc⟩:=Ox m q e l he hl hT (by omega) (by omega);exact⟨r,by rw[hk];exact hc,⟨(λv hv=>by obtain⟨_,_,n,rfl,_⟩:=hr.1 v hv;exact HV _),hr.2⟩,(λh=>by omega),(λh=>by omega),(λh=>by omega),(λ_ _=>by omega),(λh=>by omega),(λ_ v hv=>by obtain⟨a,b,n,rfl,_,c⟩:=hr.1 v hv;exact⟨a,b,by rw[c hk]⟩)⟩
 ·obtain⟨⟨r,hr⟩,hc⟩:=Ox m q e l he hl hT (by omega) (by omega);exact⟨r,by rw[hk];exact hc,⟨(λv hv=>by obtain⟨_,_,n,rfl,_⟩:=hr.1 v hv;exact HV _),hr.2⟩,(λh=>by omega),(λh=>by omega),(λh=>by omega),(λ_ _=>by omega),(λh=>by omega),(λh=>by omega)⟩
 ·obtain⟨⟨r,hr⟩,hc⟩:=afO m q e l he hl hT (by omega);exact⟨r,by rw[hk];exact hc,⟨hr.1,hr.2⟩,(λh=>by omega),(λh=>by omega),(λh=>by omega),(λ_ _=>by omega),(λh=>by omega),(λh=>by omega)⟩
 ·obtain⟨⟨r,hr⟩,hc⟩:=RA m q e l he hl hT (by omega);exact⟨r,by rw[hk];exact hc,⟨hr.1,hr.2⟩,(λh=>by omega),(λh=>by omega),(λh=>by omega),(λ_ _=>by omega),(λh=>by omega),(λh=>by omega)⟩
 ·obtain⟨⟨r,hr⟩,hc⟩:=RA m q e l he hl hT (by omega);exact⟨r,by rw[hk];exact hc,⟨hr.1,hr.2⟩,(λh=>by omega),(λh=>by omega),(λh=>by omega),(λ_ _=>by omega),(λh=>by omega),(λh=>by omega)⟩
theorem bf (σ:Nm->Option Nm):(aO.map aP 26).rn σ=some (.map aP 26):=by kernel_rfl
def kd (k:Int)(r:Tree ⊕ Int):Tree ⊕ Int:=match r with
 |.inl v=>cond (iJ v==k) (.inl v) (.inr 7)
 |.inr w=>.inr w
def gD (r0 r1 r2:Tree ⊕ Int):Tree ⊕ Int:=match kd 0 r0 with
 |.inl v=>cond (k6 v) r1 r2
 |.inr w=>.inr w
def dJ (op:Int)(r0 r1:Tree ⊕ Int):Tree ⊕ Int:=match kd 0 r0 with
 |.inl v=>cond (k6 v==(op==16)) (.inl v) (kd 0 r1)
 |.inr w=>.inr w
def ja (f:Tree->Tree ⊕ Int):List Tree->List Tree ⊕ Int
 | []=>.inl []
 | a::l=>match f a with
  |.inr w=>.inr w
  |.inl v=>match ja f l with
   |.inr w=>.inr w
   |.inl vs=>.inl (v::vs)
theorem KN {f:Tree->Tree ⊕ Int}:∀{l:List Tree} {a v:Tree} {vs:List Tree},ja f l=.inl vs->f a=.inl v->ja f (l++[a])=.inl (vs++[v])
 | [],a,v,vs,h,hv=>by
  cases h;show(match f a with|.inr w=>_|.inl v=>_)=_;rw[hv];rfl
 | b::l,a,v,vs,h,hv=>by
  unfold ja at h
  cases hb:f b with
  |inr w=>rw[hb] at h;cases h
  | inl u=>
   rw[hb] at h
   simp only at h
   cases hl:ja f l with
   |inr w=>rw[hl] at h;cases h
   |inl us=>
    rw[hl] at h
    cases h
    have:=KN hl hv
    show ja f (b::(l++[a]))=_
    unfold ja
    rw[hb]
    simp only[this]
    rfl
theorem MO {f:Tree->Tree ⊕ Int}:∀{l r:List Tree} {a:Tree} {vs:List Tree} {w:Int},ja f l=.inl vs->f a=.inr w->ja f (l++a::r)=.inr w
 | [],r,a,vs,w,h,hv=>by
  show(match f a with|.inr w=>_|.inl v=>_)=_;rw[hv]
 | b::l,r,a,vs,w,h,hv=>by
  unfold ja at h
  cases hb:f b with
  |inr w=>rw[hb] at h;cases h
  | inl u=>
   rw[hb] at h
   simp only at h
   cases hl:ja f l with
   |inr w=>rw[hl] at h;cases h
   |inl us=>
    have:=MO (r:=r) hl hv
    show ja f (b::(l++a::r))=_
    unfold ja
    rw[hb]
    simp only[this]
theorem x8 {f:Tree->Tree ⊕ Int}{l:List Tree}{i:Nat}{a v:Tree}{vs:List Tree}(h:ja f (l.take i)=.inl vs)(ha:l[i]?=some a)(hv:f a=.inl v):ja f (l.take (i+1))=.inl (vs++[v]):=by
 rw[E1 ha];exact KN h hv
theorem x9 {f:Tree->Tree ⊕ Int}{l:List Tree}{i:Nat}{a:Tree}{vs:List Tree}{w:Int}(h:ja f (l.take i)=.inl vs)(ha:l[i]?=some a)(hv:f a=.inr w):ja f l=.inr w:=by
 obtain⟨hi,rfl⟩:=List.getElem?_eq_some_iff.1 ha;have e:l=l.take i++l[i]::l.drop (i+1):=by rw[← List.drop_eq_getElem_cons hi,List.take_append_drop]
 rw[e];exact MO h hv
open Classical in
def pev (ob:List aO)(ks:List Tree)(f:Tree->Tree ⊕ Int):List TV->List aO->Option br:=λa o=>match a with
 | [.ptr (.arg 0) 0,.t x,.map (.arg 1)]=>if x∈ks/\o=ob then some (aM (f x) ob) else none
 |_=>none
theorem aku {C:ey}{g:FuncId}{ob:List aO}{ks:List Tree}{f:Tree->Tree ⊕ Int}(h:∀x∈ks,ai C g [.ptr (.arg 0) 0,.t x,.map (.arg 1)] ob (aM (f x) ob)):kN C g (pev ob ks f):=λa o q hq=>by
 unfold pev at hq;split at hq
 ·split at hq
  ·rename_i hp;obtain⟨hp,rfl⟩:=hp;cases hq;exact h _ hp
  ·cases hq
 ·cases hq
theorem ain {ev:bt}{g:FuncId}{ob:List aO}{ks:List Tree}{f:Tree->Tree ⊕ Int}(h:Has ev g (pev ob ks f)){x:Tree}(hx:x∈ks):ev g [.ptr (.arg 0) 0,.t x,.map (.arg 1)] ob=some (aM (f x) ob):=h _ _ _ (if_pos ⟨hx,rfl⟩)
theorem KO (m:Int)(q:Sc)(op n:Int)(s t:List UInt8)(ns ks:List Tree)(lk:ks.length<=4194304)(hks:∀y∈ks,T .aD y)(f:Tree->Tree ⊕ Int)(hf:∀x∈ks,ai (cf m) 27 [.ptr (.arg 0) 0,.t x,.map (.arg 1)] [.cells 63 (aU q),.map aP 26] (aM (f x) [.cells 63 (aU q),.map aP 26]))(Em:∀x∈ks,∀v,f x=.inl v->T .az v)(i:Nat)(hi:i<ks.length):∃r:{r:Tree ⊕ Int // r=f (jP ks i)},ai (cf m) 51 (.t (.int .i64 (i:Int))::[.ptr (.arg 0) 0,.ptr (.arg 1) 0,.ptr (.arg 2) 0]) [.cells 61 [.ptr (.arg 3) 0],.cells 26 (bg op n s t ns ks),.cells 66 [.map (.arg 4)],.cells 63 (aU q),.map aP 26] (aM r.1 [.cells 61 [.ptr (.arg 3) 0],.cells 26 (bg op n s t ns ks),.cells 66 [.map (.arg 4)],.cells 63 (aU q),.map aP 26]):=by
 obtain⟨ev,aJ,X7⟩:∃ev,aC (cf m) ev/\Has ev 27 (pev [.cells 63 (aU q),.map aP 26] ks f):=⟨_,(aq (aku hf) aF),au⟩;refine AX.start 14 4 Tryz.func51 rfl (by decide) rfl rfl (by decide) ?_;refine AX.frames ?_;obtain⟨e1,rJ⟩:=dw ks i;have dB:=(hks e1 (fU rJ));obtain⟨X8,n_2,s_2,iX,b8,F0,rfl,gx,kB,tM,rS,tN,qG,N9⟩:=T.bz dB;have akv:=fU rJ;rcases zZ:f (aY X8 n_2 s_2 iX b8 F0) with v_3|w_3
 ·obtain⟨V7,V8,jv,iu,V9,fV,Wa,rfl,_⟩:=T.aB (Em _ akv _ zZ);refine⟨⟨.inl (aA V7 V8 jv iu V9 fV Wa),zZ.symm.trans (congrArg f (fM rJ).symm)⟩,kf ah [oE rJ,oN (o:=.map aP 26) bf,oN (o:=.map aP 26) bf,oC (show ev 27 [.ptr (.arg 0) 0,.t (aY X8 n_2 s_2 iX b8 F0),.map (.arg 1)] [.cells 63 (aU q),.map aP 26]=some (aM (.inl (aA V7 V8 jv iu V9 fV Wa)) [.cells 63 (aU q),.map aP 26]) from(ain X7 akv).trans (congrArg (λz=>some (aM z [.cells 63 (aU q),.map aP 26])) zZ)),oN (o:=.map aP 26) bf,oN (o:=.map aP 26) (λ_=>rfl),oN (o:=.map aP 26) (λ_=>rfl)]⟩
 ·refine⟨⟨.inr w_3,zZ.symm.trans (congrArg f (fM rJ).symm)⟩,kf ah [oE rJ,oN (o:=.map aP 26) bf,oN (o:=.map aP 26) bf,oC (show ev 27 [.ptr (.arg 0) 0,.t (aY X8 n_2 s_2 iX b8 F0),.map (.arg 1)] [.cells 63 (aU q),.map aP 26]=some (aM (.inr w_3) [.cells 63 (aU q),.map aP 26]) from(ain X7 akv).trans (congrArg (λz=>some (aM z [.cells 63 (aU q),.map aP 26])) zZ))]⟩
end
end Go.Proofs.YtfdnciimclnncaaGreatDoor.w.e
