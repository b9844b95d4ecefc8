/- slices.SortFunc of Uids, in their order. -/
import Derived.WalkKit
import Derived.OwnWalkIn
import Derived.TacticsInMore
import Derived.Shelf.Abstract
import Derived.Shelf.SlSortCmp.WholeK
import Derived.Shelf.SlSortCmp.NoneTotal
import Derived.Sort.LotA
import Derived.StillTailTactics
import Derived.Test.YtfdnciimclnncaaGreatDoorSrt
import Derived.Test.YtfdnciimclnncaaGreatDoorShelf
import Derived.Test.YtfdnciimclnncaaGreatDoorN
import Derived.Test.YtfdnciimclnncaaGreatDoorAD
import Derived.Test.YtfdnciimclnncaaGreatDoorZ
import Derived.Test.YtfdnciimclnncaaGreatDoorAA
set_option linter.unusedVariables false
set_option linter.unusedSimpArgs false
namespace Go.Proofs.YtfdnciimclnncaaGreatDoor.w
open Go Go.Abs Go.RowKit Go.Sort Go.Shelf
attribute [local go_sem] Oper.semAt_some
def R8:Tree->List UInt8
 |.agg [.str n,_]=>n
 |_=>[]
def idU:Tree->List UInt8
 |.agg [_,.str n]=>n
 |_=>[]
def orI (x y:Int):Int:=if x≠0 then x else y
def qw (a b:List UInt8):Int:=if a<b then -1 else if b<a then 1 else 0
def Ys (x y:Tree):Int:=orI (qw (R8 x) (R8 y)) (qw (idU x) (idU y))
def cfA (l:List Tree)(i j:Nat):Int:=Ys (l[i]?.getD .cN) (l[j]?.getD .cN)
def permA (l:List Tree):Array Nat:=pdq (ltOf (cfA l)) (Array.range l.length) 0 l.length (Lib.bitLen l.length) true true
def uy (l:List Tree):List Tree:=(permA l).toList.map λi=>l[i]?.getD .cN
def AtF (e:Tree):Prop:=∃n s,e=.agg [.str n,.str s]
theorem Wd {a b:List UInt8}:qw a b<0↔a<b:=by
 unfold qw;by_cases h1:a<b
 ·simp[h1]
 ·by_cases h2:b<a<;>simp[h1,h2]
theorem MT {a b:List UInt8}:qw a b=0↔a=b:=by
 unfold qw;by_cases h1:a<b
 ·simp only[if_pos h1];exact⟨λh=>by omega,λh=>by subst h;exact absurd h1 (List.lt_irrefl _)⟩
 ·by_cases h2:b<a
  ·simp only[if_neg h1,if_pos h2];exact⟨λh=>by omega,λh=>by subst h;exact absurd h2 h1⟩
  ·simp only[if_neg h1,if_neg h2,true_iff];exact List.le_antisymm (List.not_lt.1 h2) (List.not_lt.1 h1)
theorem ako {x y:Tree}:Ys x y<0↔R8 x<R8 y\/(R8 x=R8 y/\idU x<idU y):=by
 unfold Ys orI;by_cases h:qw (R8 x) (R8 y)=0
 ·rw[if_neg (by simpa using h)];have e:=MT.1 h;rw[Wd,e];exact⟨λh=>.inr ⟨rfl,h⟩,λh=>h.elim (λh=>absurd h (List.lt_irrefl _)) λh=>h.2⟩
 ·rw[if_pos h,Wd];exact⟨.inl,λq=>q.elim id λq=>absurd (MT.2 q.1) h⟩
theorem KP (l:List Tree)(i j:Nat):ltOf (cfA l) i j=decide (R8 (l[i]?.getD .cN)<R8 (l[j]?.getD .cN)\/(R8 (l[i]?.getD .cN)=R8 (l[j]?.getD .cN)/\idU (l[i]?.getD .cN)<idU (l[j]?.getD .cN))):=by
 unfold ltOf cfA;exact decide_eq_decide.2 ako
theorem aoD (l:List Tree):SWO (ltOf (cfA l)) where
 irrefl x:=by
  rw[KP];exact decide_eq_false λh=>h.elim (List.lt_irrefl _) λh=>List.lt_irrefl _ h.2
 trans x y z h1 h2:=by
  rw[KP] at*;have h1:=of_decide_eq_true h1;have h2:=of_decide_eq_true h2;refine decide_eq_true ?_;rcases h1 with h1|⟨e1,h1⟩<;>rcases h2 with h2|⟨e2,h2⟩
  ·exact .inl (List.lt_trans h1 h2)
  ·exact .inl (e2▸h1)
  ·exact .inl (e1▸h2)
  ·exact .inr ⟨e1.trans e2,List.lt_trans h1 h2⟩
 ntrans x y z h1 h2:=by
  rw[KP] at*;have h1:=of_decide_eq_false h1;have h2:=of_decide_eq_false h2;refine decide_eq_false λh=> ?_
  generalize R8 (l[x]?.getD .cN)=a at*;generalize R8 (l[y]?.getD .cN)=b at*;generalize R8 (l[z]?.getD .cN)=c at*;generalize idU (l[x]?.getD .cN)=a' at*;generalize idU (l[y]?.getD .cN)=b' at*;generalize idU (l[z]?.getD .cN)=c' at*;have n1:¬a<b:=λq=>h1 (.inl q)
  have n2:¬b<c:=λq=>h2 (.inl q)
  have l1:b<=a:=List.not_lt.1 n1;have l2:c<=b:=List.not_lt.1 n2;rcases h with h|⟨rfl,h⟩
  ·exact List.not_lt.2 (List.le_trans l2 l1) h
  ·have e:a=b:=List.le_antisymm l2 l1;subst e;have m1:¬a'<b':=λq=>h1 (.inr ⟨rfl,q⟩)
   have m2:¬b'<c':=λq=>h2 (.inr ⟨rfl,q⟩)
   exact List.not_lt.2 (List.le_trans (List.not_lt.1 m2) (List.not_lt.1 m1)) h
theorem Cz (l:List Tree):(permA l).toList.Perm (List.range l.length):=by
 have h:=(pdq_sorts (ltOf (cfA l)) (aoD l) (Array.range l.length) 0 (Array.range l.length).size (Lib.bitLen l.length) true true (Nat.zero_le _) (Nat.le_refl _) (Or.inl rfl)).1;have h3:=h.2.2;have hs:=h.1;simp only[Array.size_range] at h3 hs;have e1:(permA l).extract 0 l.length=permA l:=by
  have:(permA l).size=l.length:=hs;rw[← this];exact Array.extract_size
 have e2:(Array.range l.length).extract 0 l.length=Array.range l.length:=by
  have:=Array.extract_size (xs:=Array.range l.length);rwa [Array.size_range] at this
 have h4:((permA l).extract 0 l.length).toList.Perm ((Array.range l.length).extract 0 l.length).toList:=h3;rw[e1,e2] at h4;simpa using h4
theorem yA (l:List Tree):(permA l).size=l.length:=by
 have:=(Cz l).length_eq;simpa using this
theorem s5 (l:List Tree):(uy l).length=l.length:=by simp[uy,yA]
theorem R9 {l:List Tree}{j:Nat}(hj:j<l.length):(permA l)[j]! <l.length:=by
 have hj':j<(permA l).size:=by rw[yA];exact hj
 rw[getElem!_pos _ j hj'];have:(permA l)[j]∈(permA l).toList:=by simp
 have:=(Cz l).mem_iff.1 this;simpa using this
theorem Sb {l:List Tree}{j:Nat}(hj:j<l.length):(uy l)[j]?=l[(permA l)[j]!]?:=by
 have hj':j<(permA l).size:=by rw[yA];exact hj
 have h:=R9 hj;rw[getElem!_pos _ j hj'] at h ⊢;simp only[uy,List.getElem?_map,Array.getElem?_toList,Array.getElem?_eq_getElem hj',Option.map_some,List.getElem?_eq_getElem h,Option.getD_some]
theorem A3 {l:List Tree}{x:Tree}(h:x∈uy l):x∈l:=by
 obtain⟨j,hj,e⟩:=List.getElem_of_mem h;rw[s5] at hj;have h1:=Sb hj;rw[List.getElem?_eq_getElem (by rw[s5];exact hj),e] at h1;exact List.mem_of_getElem? h1.symm
theorem A4:∀(L:List Tree) (hu:∀e∈L,e.cells.length=2) (j:Nat),(flat L)[j]?=(L[j / 2]?).bind λe=>e.cells[j % 2]?
 | [],_,j=>by simp[flat]
 | a ::L,hu,j=>by
   have ha:a.cells.length=2:=hu a List.mem_cons_self
   have ih:=A4 L (λe he=>hu e (List.mem_cons_of_mem _ he))
   have e:flat (a::L)=a.cells++flat L:=rfl
   rw[e]
   by_cases h:j<2
   · rw[List.getElem?_append_left (by omega),Nat.div_eq_of_lt h,Nat.mod_eq_of_lt h];rfl
   · obtain⟨k,rfl⟩:∃k,j=k+2:=⟨j - 2,by omega⟩
     rw[List.getElem?_append_right (by omega),ha,Nat.add_sub_cancel,ih,Nat.add_div_right _ (by decide),Nat.add_mod_right]
     rfl
theorem agp (x:ByteArray)(w:World):Calls Tryz.prog 138 #[.string x] w λe w'=>e=.returned (.bool false)/\w'=w:=by
 go_enter Tryz.func138,Tryz.ntmps138;go_wp2;go_ret;exact⟨by simp,rfl⟩
theorem bytesLess_eq:∀(x y:List UInt8),Op.bytesLess x y=decide (x<y)
 | [],[]=>by simp[Op.bytesLess]
 |_::_,[]=>by simp[Op.bytesLess]
 | [],_::_=>by simp[Op.bytesLess]
 |a::x,b::y=>by
  rw[Op.bytesLess,bytesLess_eq x y]
  simp only[List.cons_lt_cons_iff]
  by_cases h1:a<b<;>by_cases h2:a=b<;>by_cases h3:x<y<;>simp[h1,h2,h3]
theorem aoE (x y:List UInt8)(w:World):Sem.run Tryz.prog (binOp .gtr 9 (.string ⟨x.toArray⟩) (.string ⟨y.toArray⟩)) w=.ok (.bool (!(Op.bytesLess x y||x==y))) w:=by
 simp[binOp,Op.stringOp,Lib.toList_data]
theorem aoF {x y:List UInt8}(h1:¬x<y)(h2:x≠y):y<x:=by
 by_cases h:y<x
 ·exact h
 ·exact absurd (List.le_antisymm (List.not_lt.1 h) (List.not_lt.1 h1)) h2
set_option maxHeartbeats 1000000 in
theorem MU (x y:List UInt8)(w:World):Calls Tryz.prog 87 #[.string ⟨x.toArray⟩,.string ⟨y.toArray⟩] w λe w'=>e=.returned (.int .i64 (qw x y))/\w'=w:=by
 go_enter Tryz.func87,Tryz.ntmps87;go_wp2_with (go_at_call 138;refine(agp _ _).mono ?_;rintro e w' ⟨rfl,rfl⟩)
 ·rename_i h;have h:=of_decide_eq_true ((bytesLess_eq x y).symm.trans h);rw[show qw x y=-1 from if_pos h];go_ret;exact⟨rfl,rfl⟩
 ·rename_i h _ _ _ _ _ _;have hx:¬x<y:=of_decide_eq_false ((bytesLess_eq x y).symm.trans h);rw[aoE,h,Bool.false_or];simp only[Result.andThen_ok];obtain⟨b,hb⟩:∃b,b=(x==y):=⟨_,rfl⟩;have hc:qw x y=if b=true then 0 else 1:=by
   unfold qw;rw[if_neg hx];by_cases e:x=y
   ·subst e;simp[hb,hx]
   ·have:(x==y)=false:=by simpa using e
    rw[if_pos (aoF hx e),hb,this];rfl
  rw[← hb];clear hb;cases b
  ·go_wp2;go_ret;exact⟨by first|rfl|(rw[hc];rfl),rfl⟩
  ·go_wp2;go_ret;exact⟨by first|rfl|(rw[hc];rfl),rfl⟩
def uJ (us:Array Value)(n i:Nat):List Value:=if i<n then(us.toList.drop (i*2)).take 2 else [.string ⟨#[]⟩,.string ⟨#[]⟩]
set_option maxHeartbeats 1000000 in
theorem arJ (b off cap:Nat)(x y:Int)(W:World)(h0:W.cell? ⟨b,off,none⟩=some (.int .i64 x))(h1:W.cell? ⟨b,off+1,none⟩=some (.int .i64 y)):
 Calls Tryz.prog 86 #[.slice (some ⟨b,off,none⟩) 2 cap] W λe w'=>e=.returned (.int .i64 (orI x y))/\w'=W:=by
 go_enter Tryz.func86,Tryz.ntmps86
 go_wp2
 go_loopw [8] (λi wr=>wr=W/\(i=.int .i64 0\/(i=.int .i64 1/\x=0)\/(i=.int .i64 2/\x=0/\y=0))) (λi _=>2 - (intOf i).toNat)
 case atStart=>exact⟨rfl,.inl rfl⟩
 case round=>
  obtain⟨rfl,rfl|⟨rfl,rfl⟩|⟨rfl,rfl,rfl⟩⟩:=hrel
  ·go_wp2
   ·rename_i h;have hx:x≠0:=by simpa using h
    have e:orI x y=x:=if_pos hx;go_ret;exact⟨by rw[e];rfl,rfl⟩
   ·rename_i h;have hx:x=0:=by simpa using h
    exact⟨⟨trivial,.inr (.inl ⟨rfl,hx⟩)⟩,by decide⟩
  ·have e:orI 0 y=y:=by simp[orI]
   go_wp2
   ·go_ret;exact⟨by rw[e];rfl,rfl⟩
   ·rename_i h;have hy:y=0:=by simpa using h
    exact⟨⟨trivial,.inr (.inr ⟨rfl,trivial,hy⟩)⟩,by decide⟩
  ·go_wp2;go_ret;exact⟨rfl,rfl⟩
set_option maxRecDepth 100000 in
set_option maxHeartbeats 2000000 in
theorem acV (a b a' b':List UInt8)(W:World):
 Calls Tryz.prog 46 #[.agg #[.string ⟨a.toArray⟩,.string ⟨b.toArray⟩],.agg #[.string ⟨a'.toArray⟩,.string ⟨b'.toArray⟩]] W λe w'=>e=.returned (.int .i64 (orI (qw a a') (qw b b')))/\∃q os',w'=grow (W.drewN q) os':=by
 have hc1:=λW'=>MU a a' W'
 have cm:=λW'=>MU b b' W'
 generalize qw a a'=r1 at hc1 ⊢
 generalize qw b b'=r2 at cm ⊢
 go_enter Tryz.func46,Tryz.ntmps46
 go_wp2
 refine wp_region_still_tail 10 (by kernel_rfl) (by kernel_rfl) ?_
 obtain⟨U,hU⟩:∃U,U=(W.alloc (.cells #[.string ⟨a.toArray⟩,.string ⟨b.toArray⟩] 28)).alloc (.cells #[.string ⟨a'.toArray⟩,.string ⟨b'.toArray⟩] 28):=⟨_,rfl⟩
 rw[← hU]
 generalize hV:({U with drawn:=U.drawn+1}:World)=V
 have c1:V.cell? ⟨W.heap.size,0,none⟩=some (.string ⟨a.toArray⟩):=by rw[← hV];show U.cell? _=_;rw[hU];simp[go_sem]
 have c2:V.cell? ⟨W.heap.size,1,none⟩=some (.string ⟨b.toArray⟩):=by rw[← hV];show U.cell? _=_;rw[hU];simp[go_sem]
 have c3:V.cell? ⟨W.heap.size+1,0,none⟩=some (.string ⟨a'.toArray⟩):=by rw[← hV];show U.cell? _=_;rw[hU];simp[go_sem]
 have c4:V.cell? ⟨W.heap.size+1,1,none⟩=some (.string ⟨b'.toArray⟩):=by rw[← hV];show U.cell? _=_;rw[hU];simp[go_sem]
 simp only[List.take_succ_cons,List.take_zero,List.drop_succ_cons,List.drop_zero]
 iterate 4 still_step
 still_call (hc1 _)
 iterate 4 still_step
 still_call (cm _)
 refine wpStill_nil ?_
 go_wp2_with (go_at_call 86;refine(arJ _ _ _ r1 r2 _ (by simp[go_sem]) (by simp[go_sem])).mono ?_;rintro e w' ⟨rfl,rfl⟩)
 go_ret
 refine⟨rfl,1,(#[.cells #[.string ⟨a.toArray⟩,.string ⟨b.toArray⟩] 28]++ #[.cells #[.string ⟨a'.toArray⟩,.string ⟨b'.toArray⟩] 28])++ #[.cells #[.int .i64 r1,.int .i64 r2] 3], ?_⟩
 rw[← hV,hU,alloc_eq_grow,alloc_eq_grow,alloc_eq_grow,grow_grow]
 exact grow_grow (W.drewN 1) _ _
set_option maxHeartbeats 1000000 in
theorem acW (m:Int)(l:List Tree)(hl:l.length<=4194304)(hne:l≠ [])(hf:∀e∈l,AtF e):
 ai (cf m) 151 [.ref (.arg 0) 0 l.length,.t (.fn (.func 46))] [.arr (28,true) 2 false ((flat l).map .t)] (.ret (.t (.cG [])) [.arr (28,true) 2 false ((flat (uy l)).map .t)] []):=by
 intro G w vs hw hg had hH hv
 obtain⟨x,vs1,rfl,hx,hv⟩:=hv.j5
 obtain⟨y,rfl,hy⟩:=hv.only
 obtain⟨hd,ho⟩:=hH (.arg 0) _ rfl
 obtain⟨_,cap,us,ty,fr,ha,hh,⟨tC,hty⟩,hsz,hcl,H9,hF⟩:=ho
 have hu:∀e∈l,e.cells.length=2:=λe he=>by obtain⟨n,s,rfl⟩:=hf e he;rfl
 have hu2:∀e∈uy l,e.cells.length=2:=λe he=>hu e (A3 he)
 have hn:((flat l).map TV.t).length=l.length*2:=by rw[List.length_map,fF hu]
 have hn2:((flat (uy l)).map TV.t).length=l.length*2:=by rw[List.length_map,fF hu2,s5]
 rw[hn] at ha hcl H9
 have hpos:0<l.length:=by cases l with|nil=>exact absurd rfl hne|cons=>simp
 obtain rfl:y=.func (.func 46) #[] #[]:=by
  cases hy with|t _ _ hy=>cases hy;rfl
 obtain rfl:x=.slice (some ⟨G.mu (.arg 0),0,none⟩) l.length cap:=by
  cases hx with
  | ref k off len n cc cap' v hd' CS hle' ho' BI=>
    rw[ha] at CS;cases CS
    obtain⟨a,rfl,h2⟩:=BI (by omega)
    have:=h2 (by omega)
    subst this;rfl
 have hcell:∀q c,(flat l)[q]?=some c->∃v,us[q]?=some v/\VT G.F c v:=λq c hc=>by
  have hq:q<l.length*2:=by rw[← fF hu];exact(List.getElem?_eq_some_iff.1 hc).1
  obtain⟨v,hv1,hv2⟩:=H9.at (j:=q) (c:=.t c) (by rw[List.getElem?_map,hc];rfl);rw[List.getElem?_take_of_lt hq,Array.getElem?_toList] at hv1;cases hv2 with|t _ _ h=>exact⟨v,hv1,h⟩
 have agq:∀i,uJ us l.length i=[.string ⟨(R8 (l[i]?.getD .cN)).toArray⟩,.string ⟨(idU (l[i]?.getD .cN)).toArray⟩]:=λi=>by
  by_cases hi:i<l.length
  ·obtain⟨n,s,he⟩:=hf l[i] (List.getElem_mem hi);have hat:∀r,r<2->(flat l)[i*2+r]?=(Tree.agg [.str n,.str s]).cells[r]?:=λr hr=>by
    rw[A4 l hu,show(i*2+r)/ 2=i by omega,show(i*2+r) % 2=r by omega,List.getElem?_eq_getElem hi,he];rfl
   obtain⟨v0,h0,w0⟩:=hcell _ _ (hat 0 (by decide));obtain⟨v1,h1,w1⟩:=hcell _ _ (hat 1 (by decide));have hnm:R8 (l[i]?.getD .cN)=n:=by rw[List.getElem?_eq_getElem hi,Option.getD_some,he];rfl
   have arK:idU (l[i]?.getD .cN)=s:=by rw[List.getElem?_eq_getElem hi,Option.getD_some,he];rfl
   have j3:uJ us l.length i=[v0,v1]:=by
    unfold uJ;rw[if_pos hi];apply List.ext_getElem?;intro r;by_cases hr:r<2
    ·rw[List.getElem?_take_of_lt hr,List.getElem?_drop,Array.getElem?_toList];match r,hr with
     |0,_=>exact h0
     |1,_=>exact h1
    ·rw[List.getElem?_eq_none (by simp;omega),List.getElem?_eq_none (by simp;omega)]
   rw[j3,hnm,arK];cases w0;cases w1;rfl
  ·unfold uJ;rw[if_neg hi,List.getElem?_eq_none (by omega)];rfl
 have hk:∀i,(uJ us l.length i).length=2:=λi=>by rw[agq i];rfl
 have h1:∀i,∀v∈uJ us l.length i,v.oneCell'=true:=λi v hv=>by
  rw[agq i] at hv;simp only[List.mem_cons,List.not_mem_nil,or_false] at hv;rcases hv with rfl|rfl<;>rfl
 have hcmp:CmpLays Tryz.prog 46 #[] (uJ us l.length) 2 (cfA l) (G.mu (.arg 0)) 0 (Array.range l.length).size w:=λmm os dk _ i j=>by
  have e:=agq i;have e':=agq j;generalize sortWorldK (uJ us l.length) 2 w (G.mu (.arg 0)) 0 mm dk os=W;rw[e,e'];exact acV _ _ _ _ W
 have hrd:∀i,i<l.length->(Array.range l.length)[i]! =i:=λi hi=>by simp[hi]
 have aoG:∀(D:Array Nat),D.size=l.length->(∀q,q<l.length->D[q]! <l.length)->∀j,j<l.length*2->us[D[j / 2]! *2+j % 2]?=some (flatK (uJ us l.length) 2 D)[j]!:=λD hD hlt j hj=>by
  have hj5:j / 2<l.length:=by omega
  have hq:=hlt _ hj5;rw[get_flatK _ _ _ _ (by rw[hD];exact hj)];have hlen:D[j / 2]! *2+j % 2<us.size:=by omega
  have:(uJ us l.length D[j / 2]!)[j % 2]?=us[D[j / 2]! *2+j % 2]?:=by
   unfold uJ;rw[if_pos hq,List.getElem?_take_of_lt (by omega),List.getElem?_drop,Array.getElem?_toList]
  rw[← this];have h5:j % 2<(uJ us l.length D[j / 2]!).length:=by rw[hk];omega
  rw[List.getElem?_eq_getElem h5,getElem!_pos (uJ us l.length D[j / 2]!) (j % 2) h5]
 have aoH:HoldsK (uJ us l.length) 2 w (G.mu (.arg 0)) 0 (Array.range l.length):=λj hj=>by
  have hj':j<l.length*2:=by simpa using hj
  have hju:j<us.size:=by omega
  refine⟨?_,by rw[Nat.zero_add];exact nx hh tC hju⟩;have:=aoG (Array.range l.length) (by simp) (λq hq=>by rw[hrd q hq];exact hq) j hj';rw[hrd _ (by omega),show j / 2*2+j % 2=j by omega] at this;simp only[World.cell?,hh,Nat.zero_add];exact this
 have eg:∀args w,(callFunc 46 args).run Tryz.prog w=.ok (.enter 46 args) w:=enters_of Tryz.func46 (by kernel_rfl) rfl
 have es:∀args w,(callFunc 151 args).run Tryz.prog w=.ok (.enter 151 args) w:=enters_of Tryz.func151 (by kernel_rfl) rfl
 have aoI:=AnyQ.slices_SortFunc_eq Tryz.sortf151 2 Tryz.isAgg28 Tryz.sizeOf28 (uJ us l.length) hk h1 (cfA l) (aoD l) 46 #[] (G.mu (.arg 0)) 0 cap (Array.range l.length) w eg hcmp aoH (hw.lt _ hd) (by simp;omega)
 rw[Array.size_range] at aoI
 refine .inl ⟨es _ _,Calls.mono aoI ?_⟩
 rintro e w' ⟨rfl,q,os,rfl⟩
 have hps:=yA l
 obtain⟨D,hD⟩:∃D,D=permA l:=⟨_,rfl⟩
 have hDs:D.size=l.length:=by rw[hD];exact hps
 have hDl:∀q,q<l.length->D[q]! <l.length:=λq hq=>by rw[hD];exact R9 hq
 change yV G w 1 _ _ (sortWorldK (uJ us l.length) 2 w (G.mu (.arg 0)) 0 q (permA l) os)
 rw[← hD]
 obtain⟨w',hw'⟩:∃w',w'=sortWorldK (uJ us l.length) 2 w (G.mu (.arg 0)) 0 q D os:=⟨_,rfl⟩
 rw[← hw']
 have gB:w.grownBy w' (some (G.mu (.arg 0))):=by
  rw[hw'];unfold sortWorldK putRowK;refine⟨rfl,rfl,rfl,by simp,λk hk hne=> ?_⟩;rw[heap_grow_old _ _ (by simpa using hk)];have:G.mu (.arg 0)≠k:=λe=>hne (by rw[e])
  simp[putRow,mapBlock,Sort.ahead,Array.getElem?_modify,this]
 have hblk:w'.heap[G.mu (.arg 0)]?=some (.cells (putCells id 0 (flatK (uJ us l.length) 2 D) us) ty fr):=by
  rw[hw'];unfold sortWorldK putRowK;rw[heap_grow_old _ _ (by simpa using hw.lt _ hd)];simp only[putRow,mapBlock,Sort.ahead,Array.getElem?_modify,if_true,hh,Option.map_some,onCells]
 have hcs:(putCells id 0 (flatK (uJ us l.length) 2 D) us).size=us.size:=by simp[putCells]
 refine⟨_,G,rfl,⟨.refl G,⟨λb o v hf=> ?_,hw.inj,λk d=>Nat.lt_of_lt_of_le (hw.lt k d) gB.size⟩,λ_ _ h=>absurd trivial h,λb hlt hn=>⟨gB.block b hlt λe=>hn _ trivial hd (Gh.lH ha (by decide)) (Option.some.inj e).symm,λ_=>rfl⟩,λ_ d=>.inl d,λk d=>.inl ⟨k,d,rfl,.inl rfl⟩,gB.size,gB.os,gB.tape,gB.output⟩,rfl,λi o ho=> ?_,λ_ _ h=>by simp at h, ?_⟩
 ·obtain⟨us',t',f',h1,h2⟩:=hw.F b o v hf;have hb:b≠G.mu (.arg 0):=λe=>by
   subst e;rw[hF o (.inl rfl)] at hf;cases hf
  exact⟨us',t',f',by rw[gB.block b (Array.getElem?_eq_some_iff.1 h1).1 λe=>hb (Option.some.inj e)];exact h1,h2⟩
 ·match i,ho with
  | 0,ho=>
    simp at ho;subst ho
    refine⟨hd,by decide,cap,_,ty,fr,by rw[hn2];exact ha,hblk,⟨λo ho=>tC o (by rw[hcs] at ho;exact ho),hty⟩,by rw[hcs];exact hsz,by rw[hn2,hcs];exact hcl, ?_,λo _=>hF o (.inl rfl)⟩
    rw[hn2]
    have hlq:(putCells id 0 (flatK (uJ us l.length) 2 D) us).toList.length=us.size:=(Array.length_toList (xs:=putCells id 0 (flatK (uJ us l.length) 2 D) us)).trans hcs
    refine⟨by rw[List.length_take,hlq,hn2];omega,λj c v hc hv=> ?_⟩
    rw[List.getElem?_map,Option.map_eq_some_iff] at hc
    obtain⟨c,hc,rfl⟩:=hc
    have hj:j<l.length*2:=by rw[← hn2,List.length_map];exact(List.getElem?_eq_some_iff.1 hc).1
    rw[List.getElem?_take_of_lt hj,Array.getElem?_toList] at hv
    have hju:j<us.size:=by omega
    have hv2:v=(flatK (uJ us l.length) 2 D)[j]!:=by
      simp only[putCells,Array.getElem?_mapIdx,Array.getElem?_eq_getElem hju,Option.map_some,size_flatK,hDs,Nat.zero_le,true_and,Nat.zero_add,if_pos hj,Option.some.injEq,Nat.sub_zero,id] at hv
      exact hv.symm
    have h3:=aoG D hDs hDl j hj
    rw[A4 _ hu2,Sb (by omega),← hD] at hc
    have cm:(flat l)[D[j / 2]! *2+j % 2]?=some c:=by
      rw[A4 l hu,show(D[j / 2]! *2+j % 2)/ 2=D[j / 2]! by omega,show(D[j / 2]! *2+j % 2) % 2=j % 2 by omega]
      exact hc
    obtain⟨v',h4,h5⟩:=hcell _ _ cm
    rw[h3] at h4
    cases h4
    rw[hv2]
    exact .t _ _ h5
 ·exact .t _ _ (.cG [] [] rfl (by simp))
end Go.Proofs.YtfdnciimclnncaaGreatDoor.w
namespace Go.Proofs.YtfdnciimclnncaaGreatDoor.w.e
open Go Go.Abs
set_option maxRecDepth 100000
set_option maxHeartbeats 2000000
noncomputable section
open Classical in
def pcU (P:Tree->Tree->Prop)(F:Tree->Tree->List Tree):List TV->List aP->Option br:=λvb os=>match vb,os with
 | [.t x,.t y],[]=>if P x y then some (upR (.loc [0]) (F x y)) else none
 |_,_=>none
theorem akp {C:ew}{g:FuncId}{P:Tree->Tree->Prop}{F:Tree->Tree->List Tree}(h:∀x y,P x y->ai C g [.t x,.t y] [] (upR (.loc [0]) (F x y))):ko C g (pcU P F):=λa o q hq=>by
 unfold pcU at hq;split at hq
 ·split at hq
  ·rename_i hp;cases hq;exact h _ _ hp
  ·cases hq
 ·cases hq
theorem aoJ {ev:bp}{g:FuncId}{P:Tree->Tree->Prop}{F:Tree->Tree->List Tree}(h:Has ev g (pcU P F)){x y:Tree}(hp:P x y):ev g [.t x,.t y] []=some (upR (.loc [0]) (F x y)):=h _ _ _ (if_pos hp)
def UpP (x y:Tree):Prop:=(T .aN x/\Bw x)/\(T .eR y/\(iq y).length<=16)/\iq y≠ []
theorem acX (m:Int):∃F:Tree->Tree->List Tree,∀x y,UpP x y->ai (cf m) 48 [.t x,.t y] [] (upR (.loc [0]) (F x y))/\((∀u∈F x y,T .aB u)/\(F x y).length<=1040/\∀v,v∈F x y↔vp (p8 (nh m) (iq x)) (iq y) v):=by
 obtain⟨F,hF⟩:=bK (α:=Tree×Tree) (P:=λp=>UpP p.1 p.2) (Q:=λp (r:List Tree)=>ai (cf m) 48 [.t p.1,.t p.2] [] (upR (.loc [0]) r)/\((∀u∈r,T .aB u)/\r.length<=1040/\∀v,v∈r↔vp (p8 (nh m) (iq p.1)) (iq p.2) v)) λp hp=>by
  obtain⟨x,y⟩:=p;obtain⟨⟨hx,hr⟩,⟨hy,hs⟩,hne⟩:=hp;obtain⟨l,rfl,hl,hl2⟩:=T.eL hx;obtain⟨sm,rfl,GB,hs2⟩:=T.u6 hy;have ark:sm.length<=16:=hs;have hU:(sm++l.flatMap mJ).length<=1040:=by
   have:=RB (l:=l) hr.2;have arj:l.length<=64:=hr.1;rw[List.length_append];omega
  obtain⟨⟨r,h1,h2,h4⟩,h3⟩:=arI m l sm (sm++l.flatMap mJ) hl hl2 GB hs2 hne (λy hy=>List.mem_append_left _ hy) (λe he y hy=>List.mem_append_right _ (List.mem_flatMap.2 ⟨e,he,hy⟩)) (by omega);exact⟨r,h3,h1,by omega,h4⟩
 exact⟨λx y=>F (x,y),λx y h=>hF (x,y) h⟩
theorem UE {l:List Tree}{x:Tree}(h:x∈l):x∈uy l:=by
 obtain⟨i,hi,rfl⟩:=List.getElem_of_mem h;exact List.mem_map.2 ⟨i,(Cz l).mem_iff.2 (List.mem_range.2 hi),by simp[List.getElem?_eq_getElem hi]⟩
def KQ (L:List Tree):List TV×List aP:=([.ref (.arg 0) 0 L.length,.t (.fn (.func 46))],[.arr (28,true) 2 false ((flat L).map .t)])
def MV (L:List Tree):Prop:=(∀y∈L,T .aB y)/\L≠ []/\L.length<=4194304
def acY (L:List Tree):br:=.ret (.t (.cG [])) [.arr (28,true) 2 false ((flat (uy L)).map .t)] []
theorem agr:∀x y,MV x->MV y->KQ x=KQ y->x=y:=λx y h1 h2 h=>gZ (by decide) (bh h1.1) (bh h2.1) (congrArg (Ba 0) h)
theorem akq (m:Int)(L:List Tree)(h:MV L):ai (cf m) 151 (KQ L).1 (KQ L).2 (acY L):=acW m L h.2.2 h.2.1 λe he=>by
 obtain⟨a,b,rfl,_⟩:=T.bH (h.1 e he);exact⟨a,b,rfl⟩
theorem acZ (m:Int):ai (cf m) 151 [.t (.sl []),.t (.fn (.func 46))] [] (.ret (.t (.cG [])) [] []):=by
 intro G w vs hw hg had hH hv;obtain⟨x,y,rfl,hx,hy⟩:=hv.two;have es:∀args w,(callFunc 151 args).run Tryz.prog w=.ok (.enter 151 args) w:=enters_of Tryz.func151 (by kernel_rfl) rfl;have hx':∃a cap,x=.slice a 0 cap:=by
  cases hx with|t _ _ hx=>
  generalize hz':([]:List Tree)=l at hx;cases hx with
  |Fg a cap=>exact⟨a,cap,rfl⟩
  |sl cc es b o cap vals hne hc hu hF WJ=>exact absurd hz'.symm hne
 obtain⟨a,cap,rfl⟩:=hx';refine .inl ⟨es _ _,Calls.mono (AnyF.slices_SortFunc_none Tryz.sortf151 a cap y w) ?_⟩;rintro e w' ⟨rfl,rfl⟩;exact⟨_,G,rfl,Step.refl hw _ _,rfl,λi o ho=>by simp at ho,λ_ _ h=>by simp at h,.t _ _ (.cG [] [] rfl (by simp))⟩
theorem Yg:∀x o r,px [.t (.sl []),.t (.fn (.func 46))] [] (.ret (.t (.cG [])) [] []) x o=some r->gU KQ MV acY x o=none:=λx o r hr=>by
 unfold px at hr;split at hr
 ·rename_i hp;unfold gU;refine dif_neg λ⟨z,_,hz⟩=> ?_
  rw[hp.2] at hz;exact absurd (congrArg (λp=>p.2.length) hz) (by simp[KQ])
 ·cases hr
theorem ac0 (m:Int)(l:List Tree)(hl:l.length<=4194304)(hl2:∀y∈l,T .bS y)(a b:List UInt8)(ha:a.length<=4194304)(hb:b.length<=4194304):∃r:{r:List Tree×Int //(∀y∈r.1,T .aB y)/\r.1.length<=4194304/\(MA m (.sl l)=0->Yq m (.agg [.str a,.str b])=0->∀v,v∈r.1↔vp (p8 (nh m) l) [.agg [.str a,.str b]] v)},ai (cf m) 105 [.t (.sl l),.t (.agg [.str a,.str b])] [] (.ret (.t (.cG [.sl r.1.1,.int .i64 r.1.2])) [] []):=by
 obtain⟨UG,ac1⟩:=Uq m;obtain⟨wW,zR⟩:=wV m;obtain⟨uoF,ahV⟩:=acX m;obtain⟨ev,aI,OY,A7,ahW,Ae⟩:∃ev,aC (cf m) ev/\Has ev 24 (mW (λx=>T .aN x) (λx=>.int .i64 (UG x)))/\Has ev 22 (mW (λx=>T .aB x) (λx=>.int .i64 (wW x)))/\Has ev 48 (pcU UpP uoF)/\Has ev 151 (Ke (gU KQ MV acY) (px [.t (.sl []),.t (.fn (.func 46))] [] (.ret (.t (.cG [])) [] []))):=⟨_,(aq (bU (λx h=>(ac1 x h).1)) (aq (bU (λx h=>(zR x h).1)) (aq (akp (λx y h=>(ahV x y h).1)) (aq (DS (cW (akq m)) (fU (acZ m))) aF)))),au,(az rfl au),(az rfl (az rfl au)),(az rfl (az rfl (az rfl au)))⟩;refine AX.start 26 2 Tryz.func105 rfl (by decide) rfl rfl (by decide) ?_;refine AX.frames ?_;have hp1:=(ac1 (.sl l) (.aN _ bJ hl2)).2;rcases aK (((UG (.sl l)) != 0)) with cm|cm
 ·have jP:=dI cm;refine⟨⟨([],(UG (.sl l))),λy hy=>(by cases hy),Nat.zero_le _,(λhc _=>absurd (hp1.2.trans hc) (bne_iff_ne.1 cm))⟩,q4 ah 33554432 [] [oC (cE OY (x:=.sl l) (.aN _ bJ hl2)),oB cm]⟩
 ·have jP:=cg cm;have Ni:=(zR (.agg [.str a,.str b]) (.aB _ _ bJ bJ)).2;rcases aK (((wW (.agg [.str a,.str b])) != 0)) with gu|gu
  ·have r7:=dI gu;refine⟨⟨([],(wW (.agg [.str a,.str b]))),λy hy=>(by cases hy),Nat.zero_le _,(λ_ hu=>absurd (Ni.2.trans hu) (bne_iff_ne.1 gu))⟩,q4 ah 33554432 [] [oC (cE OY (x:=.sl l) (.aN _ bJ hl2)),oB cm,oC (cE A7 (x:=.agg [.str a,.str b]) (.aB _ _ bJ bJ)),oB gu]⟩
  ·have r7:=cg gu;have hrow:Bw (.sl l):=(hp1.1 (cg cm)).1;have ac2:UpP (.sl l) (.sl [.agg [.str a,.str b]]):=⟨⟨(.aN _ bJ hl2),hrow⟩,⟨(.eR _ bJ (bx (.aB _ _ bJ bJ) (λ_ h=>absurd h (by simp)))),(by show(1:Nat)<=16;omega)⟩,by simp[iq]⟩;have E4:=(ahV _ _ ac2).2;rcases HW:(uoF (.sl l) (.sl [.agg [.str a,.str b]])) with _|⟨HX,HY⟩
   ·refine⟨⟨([],0),λy hy=>(by cases hy),Nat.zero_le _,(λ_ _ v=>by have h:=E4.2.2 v;rw[HW] at h;exact h)⟩,q4 ah 33554432 [] [oC (cE OY (x:=.sl l) (.aN _ bJ hl2)),oB cm,oC (cE A7 (x:=.agg [.str a,.str b]) (.aB _ _ bJ bJ)),oB gu,wj 48 [.t (.sl l),.t (.sl [.agg [.str a,.str b]])] (.sl []) ((aoJ ahW ac2).trans (congrArg (λz=>some (upR (.loc [0]) z)) HW)),oC (jm (DT Ae Yg))]⟩
   ·rw[HW] at E4;have akr:MV (HX::HY):=⟨E4.1,by simp,by have:=E4.2.1;omega⟩;have atc:(uy (HX::HY)).length=(HX::HY).length:=s5 _;refine⟨⟨((uy (HX::HY)),0),(λy hy=>E4.1 y (A3 hy)),(by show(uy _).length<=_;have:=E4.2.1;omega),(λ_ _ v=>⟨λh=>(E4.2.2 v).1 (A3 h),λh=>UE ((E4.2.2 v).2 h)⟩)⟩,q4 ah 33554432 [] [oC (cE OY (x:=.sl l) (.aN _ bJ hl2)),oB cm,oC (cE A7 (x:=.agg [.str a,.str b]) (.aB _ _ bJ bJ)),oB gu,oC (show ev 48 [.t (.sl l),.t (.sl [.agg [.str a,.str b]])] []=some (br.ret (.ref (.loc [0]) 0 (HX::HY).length) [] [(.loc [0],.arr (28,true) 2 false ((flat (HX::HY)).map .t))]) from(aoJ ahW ac2).trans (congrArg (λz=>some (upR (.loc [0]) z)) HW)),cU 28 2 (HX::HY),cU 28 2 (HX::HY),oC (fu (vg Ae) agr (HX::HY) akr rfl rfl),cU 28 2 (uy (HX::HY)),oX true 2 (uy (HX::HY)) ((HX::HY).length) cO (bh (λy hy=>E4.1 y (A3 hy)))]⟩
end
end Go.Proofs.YtfdnciimclnncaaGreatDoor.w.e
namespace Go.Proofs.YtfdnciimclnncaaGreatDoor.w.e
open Go Go.Abs
set_option maxRecDepth 100000
set_option maxHeartbeats 2000000
noncomputable section
def Gu:Tree->Tree
 |.agg (_::_::_:: .str s:: .str t::_)=>.agg [.str t,.str s]
 |_=>.agg []
theorem ac3 {l:List Tree}{i:Nat}{e:Tree}{q:Tree->Bool}(he:l[i]?=some e)(h:∀x∈l.take i,q x=false)(hq:q e=false):∀x∈l.take (i+1),q x=false:=λx hx=>by
 rw[mO he] at hx;rcases List.mem_append.1 hx with hx|hx
 ·exact h x hx
 ·rw[List.mem_singleton.1 hx];exact hq
theorem aks (m:Int)(L:List Tree)(hL1:L.length<=4194304)(hL2:∀y∈L,T .aB y)(e:Tree)(he:T .av e):∃r:{r:Bool // r=true↔Gu e∈L},ai (cf m) 107 (.t e::[.ptr (.arg 0) 0]) [.cells 56 [.t (.sl L)]] (.ret (.t (.bool r.1)) [.cells 56 [.t (.sl L)]] []):=by
 have bu:=he;obtain⟨cL,jX,n_1,s_1,dA,aV,dh,rfl,cT,cQ,gh,dX,fM,fe⟩:=T.aD bu;obtain⟨G9,He⟩:=Kb m;obtain⟨ev,aI,Gn,DP⟩:∃ev,aC (cf m) ev/\Has ev 104 (mW (λx=>∃k b n s t ns l,x=(aA k b n s t ns l)) afr)/\Has ev 47 (rZ (λx y=>T .eR x/\T .aB y) (λx y=>.bool (G9 x y))):=⟨_,(aq (bU λx h=>by obtain⟨k,b,n,s,t,ns,l,rfl⟩:=h;exact Us m k b n s t ns l) (aq (dG (λx y h=>(He x y h).1)) aF)),au,(az rfl au)⟩;refine AX.start 8 2 Tryz.func107 rfl (by decide) rfl rfl (by decide) ?_;refine AX.frames ?_;have hp2:=(He (.sl L) (.agg [.str dA,.str s_1]) ⟨(.eR _ bJ hL2),(.aB _ _ bJ bJ)⟩).2;exact⟨⟨(G9 (.sl L) (.agg [.str dA,.str s_1])),hp2⟩,kf ah [wj 104 [.t (aA cL jX n_1 s_1 dA aV dh)] (.agg [.str dA,.str s_1]) (cE Gn (x:=(aA cL jX n_1 s_1 dA aV dh)) ⟨_,_,_,_,_,_,_,rfl⟩),oC (eO DP (x:=.sl L) (y:=.agg [.str dA,.str s_1]) ⟨(.eR _ bJ hL2),(.aB _ _ bJ bJ)⟩)]⟩
theorem aoK (m:Int)(L:List Tree)(q:Tree->Bool)(l:List Tree)(hl:l.length<=4194304)(hl2:∀y∈l,T .av y)(hq:∀x,T .av x->RK (cf m) 107 [.ptr (.arg 0) 0] [.cells 56 [.t (.sl L)]] x (.bool (q x))):∃r:{r:Int // 0<=r↔∃x∈l,q x=true},ai (cf m) 152 (.t (.sl l)::[.fn (.func 107) [] [.ptr (.arg 0) 0]]) [.cells 56 [.t (.sl L)]] (.ret (.t (.int .i64 r.1)) [.cells 56 [.t (.sl L)]] []):=by
 obtain⟨ev,aI,e_q⟩:∃ev,aC (cf m) ev/\Has ev 107 (pk [.ptr (.arg 0) 0] [.cells 56 [.t (.sl L)]] (T .av) λx=>.bool (q x)):=⟨_,(aq (ZS hq) aF),au⟩;refine AX.start 19 2 Tryz.func152 rfl (by decide) rfl rfl (by decide) ?_;refine AX.frames ?_;refine kl (α:=Nat) ah 0 [] 19 0 [] [.arg 0] [0,1,7,8] (λx=>⟨eA 19 [(0,.t (.sl l)),(1,.fn (.func 107) [] [.ptr (.arg 0) 0]),(7,.t (.int .i64 ((l.length:Nat):Int))),(8,.t (.int .i64 ((x:Nat):Int)))],[(.arg 0,.cells 56 [.t (.sl L)])],0⟩) (λx=>(x<=l.length)/\(∀w∈l.take x,q w=false)) (λx=>l.length - x) 0 (j6 (Tryz.f152.body.getD .skip) 2) [] ⟨Nat.zero_le _,λx hx=>by simp at hx⟩ (λx hok=> ?_);obtain⟨i_1,zN⟩:∃y,y=x:=⟨x,rfl⟩;subst zN;replace hok:(i_1<=l.length)/\(∀w∈l.take i_1,q w=false):=hok;obtain⟨cI,bI⟩:=hok;rcases aK (decide (((i_1:Nat):Int)<((l.length:Nat):Int))) with cm|cm
 ·have jP:=of_decide_eq_true cm;obtain⟨e3,kR⟩:=dn l i_1;have mY:=(hl2 e3 (fT kR));obtain⟨nX,B4,yM,yN,B5,kE,mZ,rfl,r8,tQ,B6,zP,B7,B8⟩:=T.aD mY;have aoL:=aiB e_q (x:=(aA nX B4 yM yN B5 kE mZ)) mY;rcases aK ((q (aA nX B4 yM yN B5 kE mZ))) with ja|ja
  ·refine kx ah [oB cm,oE kR,oC aoL,oB ja] ?_;exact⟨⟨((i_1:Nat):Int),⟨λ_=>⟨_,fT kR,ja⟩,λ_=>by omega⟩⟩,kf ah []⟩
  ·exact⟨.inl ⟨i_1+1,⟨⟨(by show(i_1+1)<=l.length;omega),(ac3 kR bI ja)⟩,(by show(l.length - (i_1+1))<(l.length - i_1);omega)⟩⟩,vL ah 0 [] 19 0 [] [.arg 0] [0,1,7,8] [oB cm,oE kR,oC aoL,oB ja,oI (i_1) (by omega)]⟩
 ·have jP:=of_decide_eq_false cm;refine kx ah [oB cm] ?_;exact⟨⟨-1,⟨λh=>by omega,λ⟨x,hx,h⟩=>absurd (h.symm.trans (bI x (by rw[List.take_of_length_le (by omega)];exact hx))) (by decide)⟩⟩,kf ah []⟩
theorem aoM (m:Int)(L:List Tree)(q:Tree->Bool)(l:List Tree)(hl:l.length<=4194304)(hl2:∀y∈l,T .av y)(hq:∀x,T .av x->RK (cf m) 107 [.ptr (.arg 0) 0] [.cells 56 [.t (.sl L)]] x (.bool (q x))):∃r:{r:Bool // r=true↔∃x∈l,q x=true},ai (cf m) 106 (.t (.sl l)::[.fn (.func 107) [] [.ptr (.arg 0) 0]]) [.cells 56 [.t (.sl L)]] (.ret (.t (.bool r.1)) [.cells 56 [.t (.sl L)]] []):=by
 obtain⟨⟨ri,aoN⟩,hri⟩:=aoK m L q l hl hl2 hq;obtain⟨ev,aI,aoO⟩:∃ev,aC (cf m) ev/\Has ev 152 (px (.t (.sl l)::[.fn (.func 107) [] [.ptr (.arg 0) 0]]) [.cells 56 [.t (.sl L)]] (.ret (.t (.int .i64 ri)) [.cells 56 [.t (.sl L)]] [])):=⟨_,(aq (fU hri) aF),au⟩;refine AX.start 9 2 Tryz.func106 rfl (by decide) rfl rfl (by decide) ?_;refine AX.frames ?_;exact⟨⟨decide (ri>=0),⟨λh=>aoN.1 (of_decide_eq_true h),λh=>decide_eq_true (aoN.2 h)⟩⟩,kf ah [oC (jm aoO)]⟩
theorem akt (m:Int)(L:List Tree)(hL1:L.length<=4194304)(hL2:∀y∈L,T .aB y):∃q:Tree->Bool,∀x,T .av x->RK (cf m) 107 [.ptr (.arg 0) 0] [.cells 56 [.t (.sl L)]] x (.bool (q x))/\(q x=true↔Gu x∈L):=by
 obtain⟨F,hF⟩:=bK (α:=Tree) (P:=λx=>T .av x) (Q:=λx (r:Bool)=>RK (cf m) 107 [.ptr (.arg 0) 0] [.cells 56 [.t (.sl L)]] x (.bool r)/\(r=true↔Gu x∈L)) λx hx=>by
  obtain⟨⟨r,hr⟩,h⟩:=aks m L hL1 hL2 x hx;exact⟨r,h,hr⟩
 exact⟨F,hF⟩
theorem yB (m:Int):∃F:Tree->Tree->List Tree×Int,∀x y,(T .aN x/\T .aB y)->R2 (cf m) 105 x y (.cG [.sl (F x y).1,.int .i64 (F x y).2])/\((∀u∈(F x y).1,T .aB u)/\(F x y).1.length<=4194304/\(MA m x=0->Yq m y=0->∀v,v∈(F x y).1↔vp (p8 (nh m) (iq x)) [y] v)):=by
 refine tK (P:=λx y=>T .aN x/\T .aB y) (mk:=λ(r:List Tree×Int)=>.cG [.sl r.1,.int .i64 r.2]) (Post:=λx y r=>(∀u∈r.1,T .aB u)/\r.1.length<=4194304/\(MA m x=0->Yq m y=0->∀v,v∈r.1↔vp (p8 (nh m) (iq x)) [y] v)) λx y h=> ?_
 obtain⟨l,rfl,hl,hl2⟩:=T.eL h.1;obtain⟨a,b,rfl,ha,hb⟩:=T.bH h.2;exact ac0 m l hl hl2 a b ha hb
def KR (m:Int):Tree->Tree->List Tree×Int:=Classical.choose (yB m)
theorem Sd (m:Int):∃F:Tree->Tree->List Tree×Int,∀x y,(T .aN x/\T .aB y)->R2 (cf m) 105 x y (.cG [.sl (F x y).1,.int .i64 (F x y).2])/\(((∀u∈(F x y).1,T .aB u)/\(F x y).1.length<=4194304/\(MA m x=0->Yq m y=0->∀v,v∈(F x y).1↔vp (p8 (nh m) (iq x)) [y] v))/\F x y=KR m x y):=⟨KR m,λx y h=>⟨(Classical.choose_spec (yB m) x y h).1,(Classical.choose_spec (yB m) x y h).2,rfl⟩⟩
theorem aku (m:Int)(l:List Tree)(L:List Tree)(h0:l.length<=4194304)(h1:∀y∈l,T .av y)(h2:L.length<=4194304)(h3:∀y∈L,T .aB y):∃r:{r:Bool //(r=true↔∃w∈l,Gu w∈L)},ai (cf m) 106 [.t (.sl l),.fn (.func 107) [] [.ptr (.arg 0) 0]] [.cells 56 [.t (.sl L)]] (.ret (.t (.bool (r.1))) [.cells 56 [.t (.sl L)]] []):=by
 obtain⟨q,hq⟩:=akt m L h2 h3;obtain⟨⟨r,hr2⟩,hr⟩:=aoM m L q l h0 h1 (λx h=>(hq x h).1);exact⟨⟨r,hr2.trans ⟨λ⟨x,hx,h⟩=>⟨x,hx,(hq x (h1 x hx)).2.1 h⟩,λ⟨x,hx,h⟩=>⟨x,hx,(hq x (h1 x hx)).2.2 h⟩⟩⟩,hr⟩
def KS (x:List Tree×List Tree):List TV×List aP:=([.t (.sl x.1),.fn (.func 107) [] [.ptr (.arg 0) 0]],[.cells 56 [.t (.sl x.2)]])
def KT (x:List Tree×List Tree):Prop:=(x.1.length<=4194304)/\(∀y∈x.1,T .av y)/\(x.2.length<=4194304)/\(∀y∈x.2,T .aB y)
def ac4 (x:List Tree×List Tree)(r:Bool):br:=(.ret (.t (.bool (r))) [.cells 56 [.t (.sl x.2)]] [])
theorem Wf:∀x y,KT x->KT y->KS x=KS y->x=y:=by
 rintro ⟨l1,L1⟩ ⟨l2,L2⟩ h1 h2 h;have e_l:l1=l2:=congrArg (ai9 0) h;have uG:L1=L2:=congrArg (zW 0 0) h;rw[e_l,uG]
theorem ags (m:Int):∃F:(List Tree×List Tree)->Bool,∀l L,KT (l,L)->ai (cf m) 106 (KS (l,L)).1 (KS (l,L)).2 (ac4 (l,L) (F (l,L)))/\(((F (l,L))=true↔∃w∈l,Gu w∈L)):=by
 obtain⟨F,hF⟩:=bK (α:=List Tree×List Tree) (P:=KT) (Q:=λx (r:Bool)=>ai (cf m) 106 (KS x).1 (KS x).2 (ac4 x r)/\((r=true↔∃w∈x.1,Gu w∈x.2))) λx hx=>by
  obtain⟨l,L⟩:=x;obtain⟨h0,h1,h2,h3⟩:=hx;obtain⟨⟨r,hr⟩,h⟩:=aku m l L h0 h1 h2 h3;exact⟨r,h,hr⟩
 exact⟨F,λl L hx=>hF (l,L) hx⟩
theorem akv {lz L:List Tree}{x:Tree}{b:Bool}(hz:lz=[x])(h:b=true↔∃y∈lz,Gu y∈L):b=true↔Gu x∈L:=by
 rw[h,hz];simp
theorem akw (m:Int)(q:Sc)(e:Tree)(l:List Tree)(h0:T .aM e)(h1:l.length<=4194304)(h2:∀y∈l,T .av y)(h3:2<=l.length)(h4:SD q):∃r:{r:Tree ⊕ Int //(((∀v,r=.inl v->T .av v)/\(jq (jt l 1)=3->∀v,r=.inl v->∃b,v=boolT b/\(b=true↔Gu (jt l 1)∈(KR m (.sl q.row) (Gu (jt l 0))).1))))/\∀w,r=.inr w->w≠0},ai (cf m) 65 [.ptr (.arg 0) 0,.t e,.t (.sl l)] [.cells 63 (aT q)] (aL (r.1) [.cells 63 (aT q)]):=by
 have hrw:q.row.length<=4194304:=h4.2.1;have bu:=h0;obtain⟨bY,n_1,s_1,dA,aV,bR,rfl,cT,cQ,gh,dX,fM,fe,jQ⟩:=T.bO bu;obtain⟨sI,ac5⟩:=Sd m;obtain⟨E5,ac6⟩:=ags m;obtain⟨ev,aI,bC,Gn,ahX,ahY,l6⟩:∃ev,aC (cf m) ev/\Has ev 52 sH/\Has ev 104 (mW (λx=>∃k b n s t ns l,x=(aA k b n s t ns l)) afr)/\Has ev 105 (rZ (λx y=>T .aN x/\T .aB y) (λx y=>.cG [.sl (sI x y).1,.int .i64 (sI x y).2]))/\Has ev 106 (gU KS (KT) (λx=>ac4 x (E5 x)))/\Has ev 94 (mW (λx=>∃b,x=.bool b) Bx):=⟨_,(aq (jY m) (aq (bU λx h=>by obtain⟨k,b,n,s,t,ns,l,rfl⟩:=h;exact Us m k b n s t ns l) (aq (dG (λx y h=>(ac5 x y h).1)) (aq (cW (λ⟨l,L⟩ hx=>(ac6 l L hx).1)) (aq (bU λx h=>by obtain⟨b,rfl⟩:=h;exact q6 m b) aF))))),au,(az rfl au),(az rfl (az rfl au)),(az rfl (az rfl (az rfl au))),(az rfl (az rfl (az rfl (az rfl au))))⟩;refine AX.start 53 3 Tryz.func65 rfl (by decide) rfl rfl (by decide) ?_;refine AX.frames ?_;obtain⟨e2,l7⟩:=dn l 0;have jv:=(h2 e2 (fT l7));obtain⟨aY,eW,jw,iu,dm,bl,bF,rfl,uk,um,vW,vX,vY,vZ⟩:=T.aD jv;rcases aK ((aY==3)) with oc|oc
 ·have Ct:=eq_of_beq oc;obtain⟨e5,j3⟩:=dn l 1;have lF:=(h2 e5 (fT j3));obtain⟨cZ,j8,qm,qR,j9,cK,bD,rfl,pX,r9,tR,tS,tT,pY⟩:=T.aD lF;rcases aK ((cZ==4)) with gx|gx
  ·have nW:=eq_of_beq gx;refine kl (α:=Nat) ah 0 [] 53 2 [.loc [1],.loc [7]] [.loc [1],.loc [7],.arg 0] [0,6,7,8,31,32,33] (λx=>⟨eA 53 [(0,.ptr (.arg 0) 0),(6,.ptr (.loc [0]) 0),(7,.ptr (.loc [1]) 0),(8,.t (.sl bD)),(31,.t (.sl bD)),(32,.t (.int .i64 ((bD.length:Nat):Int))),(33,.t (.int .i64 ((x:Nat):Int)))],[(.loc [0],.cells 32 [.t (.int .u8 0),.t (.bool false),.t (.int .i64 0),.t (.str []),.t (.str []),.bX,.bX]),(.loc [1],.cells 28 [.t (.str dm),.t (.str iu)]),(.arg 0,.cells 63 (aT q))],2⟩) (λx=>(x<=bD.length)) (λx=>bD.length - x) 0 (j6 (Tryz.f65.body.getD .skip) 6) [oE l7,oC (show ev 52 [.t (aA aY eW jw iu dm bl bF),.t (.int .u8 3)] []=some (aL (.inl (aA aY eW jw iu dm bl bF)) []) from bC _ _ _ (by show some (aL (cond ((aY==3)) _ _) [])=_;rw[oc];rfl)),wj 104 [.t (aA aY eW jw iu dm bl bF)] (.agg [.str dm,.str iu]) (cE Gn (x:=(aA aY eW jw iu dm bl bF)) ⟨_,_,_,_,_,_,_,rfl⟩),oE j3,oE j3,oB gx,oE j3] (by show(0<=bD.length);first|trivial|omega|(refine⟨?_, ?_⟩<;>first|omega|exact SM.nil)|simp) (λx hok=> ?_);obtain⟨La,zN⟩:∃y,y=x:=⟨x,rfl⟩;subst zN;replace hok:(La<=bD.length):=hok;have afS:=hok;rcases aK (decide (((La:Nat):Int)<((bD.length:Nat):Int))) with nU|nU
   ·have Ga:=of_decide_eq_true nU;obtain⟨e10,xq⟩:=dn bD La;have Hj:=(pY e10 (fT xq));obtain⟨s4,MI,X0,X1,MJ,xy,A0,rfl,Ox,Oy,Oz,Ec,OA,OB⟩:=T.aD Hj;rcases aK ((s4==3)) with ac7|ac7
    ·have aoP:=eq_of_beq ac7;exact⟨.inl ⟨La+1,⟨(by show(La+1)<=bD.length;omega),(by show(bD.length - (La+1))<(bD.length - La);omega)⟩⟩,vL ah 0 [] 53 2 [.loc [0],.loc [1]] [.loc [0],.loc [1],.arg 0] [0,6,7,8,31,32,33] [oB nU,oE xq,oC (show ev 52 [.t (aA s4 MI X0 X1 MJ xy A0),.t (.int .u8 3)] []=some (aL (.inl (aA s4 MI X0 X1 MJ xy A0)) []) from bC _ _ _ (by show some (aL (cond ((s4==3)) _ _) [])=_;rw[ac7];rfl)),oI (La) (by omega)]⟩
    ·have aoP:=ne_of_beq_false ac7;refine kx ah [oB nU,oE xq,oC (show ev 52 [.t (aA s4 MI X0 X1 MJ xy A0),.t (.int .u8 3)] []=some (aL (.inr (7)) []) from bC _ _ _ (by show some (aL (cond ((s4==3)) _ _) [])=_;rw[ac7];rfl))] ?_;refine⟨⟨.inr (7),⟨(⟨(λv hv=>by cases hv),λ_ v hv=>by cases hv⟩),λw hw=>Sum.inr.inj hw▸(show(7:Int)≠0 by decide)⟩⟩,kf ah []⟩
   ·have Ga:=of_decide_eq_false nU;refine kx ah [oB nU] ?_;have amn:=(ac5 (.sl q.row) (.agg [.str dm,.str iu]) ⟨(.aN _ bJ h4.2.2),(.aB _ _ bJ bJ)⟩).2;have aoQ:=amn.1;have ahZ:KT (bD,((sI (.sl q.row) (.agg [.str dm,.str iu])).1)):=⟨bJ,pY,aoQ.2.1,aoQ.1⟩;have atx:=ac6 bD ((sI (.sl q.row) (.agg [.str dm,.str iu])).1) ahZ;refine⟨⟨.inl (aA 0 (E5 (bD,((sI (.sl q.row) (.agg [.str dm,.str iu])).1))) 0 [] [] [] []),⟨(⟨(λv hv=>by cases hv;exact(iT _)),λh=>absurd (show(cZ:Int)=3 from(by rw[fh j3] at h;exact h)) (by have:=eq_of_beq gx;omega)⟩),λw hw=>(by cases hw)⟩⟩,kf ah [oC (eO ahX (x:=.sl q.row) (y:=.agg [.str dm,.str iu]) ⟨(.aN _ bJ h4.2.2),(.aB _ _ bJ bJ)⟩),oC (fu ahY Wf (bD,((sI (.sl q.row) (.agg [.str dm,.str iu])).1)) ahZ rfl rfl),wj 94 [.t (.bool (E5 (bD,((sI (.sl q.row) (.agg [.str dm,.str iu])).1))))] (aA 0 (E5 (bD,((sI (.sl q.row) (.agg [.str dm,.str iu])).1))) 0 [] [] [] []) (cE l6 (x:=.bool (E5 (bD,((sI (.sl q.row) (.agg [.str dm,.str iu])).1)))) ⟨_,rfl⟩)]⟩
  ·have nW:=ne_of_beq_false gx;refine kl (α:=Nat×List Tree) ah 0 [] 53 2 [.loc [1],.loc [7]] [.loc [1],.loc [7],.arg 0] [0,6,7,8,31,32,33] (λx=>⟨eA 53 [(0,.ptr (.arg 0) 0),(6,.ptr (.loc [0]) 0),(7,.ptr (.loc [1]) 0),(8,.qp x.2),(31,.qp x.2),(32,.t (.int .i64 ((x.2.length:Nat):Int))),(33,.t (.int .i64 ((x.1:Nat):Int)))],[(.loc [0],.cells 32 [.t (.int .u8 0),.t (.bool false),.t (.int .i64 0),.t (.str []),.t (.str []),.bX,.bX]),(.loc [1],.cells 28 [.t (.str dm),.t (.str iu)]),(.arg 0,.cells 63 (aT q))],2⟩) (λx=>(x.1<=x.2.length)/\(x.2.length<=4194304/\(∀y∈x.2,T .av y)/\x.2=([(aA cZ j8 qm qR j9 cK bD)]:List Tree))) (λx=>x.2.length - x.1) (⟨0,([(aA cZ j8 qm qR j9 cK bD)]:List Tree)⟩) (j6 (Tryz.f65.body.getD .skip) 6) [oE l7,oC (show ev 52 [.t (aA aY eW jw iu dm bl bF),.t (.int .u8 3)] []=some (aL (.inl (aA aY eW jw iu dm bl bF)) []) from bC _ _ _ (by show some (aL (cond ((aY==3)) _ _) [])=_;rw[oc];rfl)),wj 104 [.t (aA aY eW jw iu dm bl bF)] (.agg [.str dm,.str iu]) (cE Gn (x:=(aA aY eW jw iu dm bl bF)) ⟨_,_,_,_,_,_,_,rfl⟩),oE j3,oE j3,oB gx] ⟨Nat.zero_le _,⟨bJ,(bx lF (λ_ h=>absurd h (by simp))),rfl⟩⟩ (λx hok=> ?_);obtain⟨rO,mM⟩:=x;replace hok:(rO<=mM.length)/\(mM.length<=4194304/\(∀y∈mM,T .av y)/\mM=([(aA cZ j8 qm qR j9 cK bD)]:List Tree)):=hok;obtain⟨acH,qj⟩:=hok;rcases aK (decide (((rO:Nat):Int)<((mM.length:Nat):Int))) with xw|xw
   ·have RE:=of_decide_eq_true xw;obtain⟨e18,Ev⟩:=dn mM rO;have acI:=(qj.2.1 e18 (fT Ev));obtain⟨A5,ac8,HU,HV,yS,lG,OZ,rfl,aga,agb,agc,agd,age,agf⟩:=T.aD acI;rcases aK ((A5==3)) with ac9|ac9
    ·have aoR:=eq_of_beq ac9;exact⟨.inl ⟨⟨rO+1,mM⟩,⟨⟨(by show(rO+1)<=mM.length;omega),qj⟩,(by show(mM.length - (rO+1))<(mM.length - rO);omega)⟩⟩,vL ah 0 [] 53 2 [.loc [0],.loc [1]] [.loc [0],.loc [1],.arg 0] [0,6,7,8,31,32,33] [oB xw,oE Ev,oC (show ev 52 [.t (aA A5 ac8 HU HV yS lG OZ),.t (.int .u8 3)] []=some (aL (.inl (aA A5 ac8 HU HV yS lG OZ)) []) from bC _ _ _ (by show some (aL (cond ((A5==3)) _ _) [])=_;rw[ac9];rfl)),oI (rO) (by omega)]⟩
    ·have aoR:=ne_of_beq_false ac9;refine kx ah [oB xw,oE Ev,oC (show ev 52 [.t (aA A5 ac8 HU HV yS lG OZ),.t (.int .u8 3)] []=some (aL (.inr (7)) []) from bC _ _ _ (by show some (aL (cond ((A5==3)) _ _) [])=_;rw[ac9];rfl))] ?_;refine⟨⟨.inr (7),⟨(⟨(λv hv=>by cases hv),λ_ v hv=>by cases hv⟩),λw hw=>Sum.inr.inj hw▸(show(7:Int)≠0 by decide)⟩⟩,kf ah []⟩
   ·have RE:=of_decide_eq_false xw;refine kx ah [oB xw] ?_;have aoS:=(ac5 (.sl q.row) (.agg [.str dm,.str iu]) ⟨(.aN _ bJ h4.2.2),(.aB _ _ bJ bJ)⟩).2;have aoT:=aoS.1;have ah0:KT (mM,((sI (.sl q.row) (.agg [.str dm,.str iu])).1)):=⟨bJ,qj.2.1,aoT.2.1,aoT.1⟩;have arL:=ac6 mM ((sI (.sl q.row) (.agg [.str dm,.str iu])).1) ah0;refine⟨⟨.inl (aA 0 (E5 (mM,((sI (.sl q.row) (.agg [.str dm,.str iu])).1))) 0 [] [] [] []),⟨(⟨(λv hv=>by cases hv;exact(iT _)),λ_ v hv=>⟨_,(Sum.inl.inj hv).symm,(akv qj.2.2 (arL.2)).trans (by rw[fh j3,fh l7];exact Iff.of_eq (congrArg (λz:List Tree×Int=>Gu _∈z.1) aoS.2))⟩⟩),λw hw=>(by cases hw)⟩⟩,kf ah [oC (eO ahX (x:=.sl q.row) (y:=.agg [.str dm,.str iu]) ⟨(.aN _ bJ h4.2.2),(.aB _ _ bJ bJ)⟩),oC (fu ahY Wf (mM,((sI (.sl q.row) (.agg [.str dm,.str iu])).1)) ah0 rfl rfl),wj 94 [.t (.bool (E5 (mM,((sI (.sl q.row) (.agg [.str dm,.str iu])).1))))] (aA 0 (E5 (mM,((sI (.sl q.row) (.agg [.str dm,.str iu])).1))) 0 [] [] [] []) (cE l6 (x:=.bool (E5 (mM,((sI (.sl q.row) (.agg [.str dm,.str iu])).1)))) ⟨_,rfl⟩)]⟩
 ·have Ct:=ne_of_beq_false oc;refine⟨⟨.inr (7),⟨(⟨(λv hv=>by cases hv),λ_ v hv=>by cases hv⟩),λw hw=>Sum.inr.inj hw▸(show(7:Int)≠0 by decide)⟩⟩,kf ah [oE l7,oC (show ev 52 [.t (aA aY eW jw iu dm bl bF),.t (.int .u8 3)] []=some (aL (.inr (7)) []) from bC _ _ _ (by show some (aL (cond ((aY==3)) _ _) [])=_;rw[oc];rfl))]⟩
theorem Hw {ag:Bool}{sz a b:Nat}{L:List Tree}(hu:eV ag sz L)(h:a+b=L.length):(a+b) *sz=((flat L).map TV.t).length:=by
 rw[List.length_map,fF hu.lens,h]
theorem akx {ag:Bool}{sz a b:Nat}{L:List Tree}{z:List TV}(hu:eV ag sz L)(h:a+b=L.length)(hz:z.length=sz):dH ((flat L).map TV.t) (a*sz) (rR b z)=(flat (L.take a)).map TV.t++rR b z:=by
 have hl:((flat L).map TV.t).length=a*sz+b*sz:=by rw[List.length_map,fF hu.lens,← h,Nat.add_mul]
 unfold dH;rw[Mj hu,gl,hz,List.drop_eq_nil_of_le (by omega),List.append_nil]
theorem aky {ag:Bool}{sz a b n:Nat}{L:List Tree}{z:List TV}(hu:eV ag sz L)(h:a+b=L.length)(hz:z.length=sz)(hn:n=L.length):(0+n) *sz=((flat (L.take a)).map TV.t++rR b z).length:=by
 rw[List.length_append,List.length_map,fF (hu.take a).lens,gl,hz,List.length_take,← Nat.add_mul];congr 1;omega
theorem ada {ag:Bool}{sz b h:Nat}{L:List Tree}{z:List TV}(hu:eV ag sz L)(hl:h<=L.length):((flat (L.take (0+h))).map TV.t++rR b z).take (h*sz)=(flat (L.take h)).map TV.t:=by
 have e:((flat (L.take (0+h))).map TV.t).length=h*sz:=by
  rw[List.length_map,fF (hu.take _).lens,List.length_take];congr 1;omega
 rw[List.take_append_of_le_length (by omega),List.take_of_length_le (by omega),Nat.zero_add]
theorem agt (m:Int)(L:List Tree)(n:Nat)(h0:L.length<=16)(h1:∀y∈L,T .av y)(h2:n=L.length):∃r:{r:List Tree // r.Perm L},ai (cf m) 184 [.ref (.arg 0) 0 n,.t (.int .i64 0),.t (.int .i64 ((n:Nat):Int)),.t (.fn (.func 84))] [.arr (32,true) 7 false ((flat L).map .t)] (.ret (.t (.cG [])) [.arr (32,true) 7 false ((flat (r.1)).map .t)] []):=by
 obtain⟨ev,aI,J6⟩:∃ev,aC (cf m) ev/\Has ev 84 (rZ (λx y=>T .av x/\T .av y) (λx y=>.int .i64 (Ks m x y))):=⟨_,(aq (dG (λx y h=>Kt m x y h)) aF),au⟩;refine AX.start 53 4 Tryz.func184 rfl (by decide) rfl rfl (by decide) ?_;refine AX.frames ?_;refine kl (α:=Nat×List Tree) ah 1 [] 53 0 [] [.arg 0] [0,1,2,3,8] (λx=>⟨eA 53 [(0,.ref (.arg 0) 0 n),(1,.t (.int .i64 0)),(2,.t (.int .i64 ((n:Nat):Int))),(3,.t (.fn (.func 84))),(8,.t (.int .i64 ((x.1:Nat):Int)))],[(.arg 0,.arr (32,true) 7 false ((flat x.2).map .t))],0⟩) (λx=>(x.2.Perm L)) (λx=>n - x.1) (⟨1,L⟩) (j6 (Tryz.f184.body.getD .skip) 1) [Il 0 1 (by omega),cU 32 7 L] (List.Perm.refl _) (λx hok=> ?_);obtain⟨KU,dP⟩:=x;replace hok:(dP.Perm L):=hok;have cI:=hok;have bu:∀y∈dP,T .av y:=λy hy=>h1 y (cI.mem_iff.1 hy)
 have aeT:=cI.length_eq;rcases aK (decide (((KU:Nat):Int)<((n:Nat):Int))) with cm|cm
 ·have jP:=of_decide_eq_true cm;refine kl (α:=Nat×List Tree) ah 1 [] 53 0 [] [.arg 0] [0,1,2,3,8,9] (λx=>⟨eA 53 [(0,.ref (.arg 0) 0 n),(1,.t (.int .i64 0)),(2,.t (.int .i64 ((n:Nat):Int))),(3,.t (.fn (.func 84))),(8,.t (.int .i64 ((KU:Nat):Int))),(9,.t (.int .i64 ((x.1:Nat):Int)))],[(.arg 0,.arr (32,true) 7 false ((flat x.2).map .t))],0⟩) (λx=>(x.2.Perm L)/\(x.1<n)) (λx=>x.1) (⟨KU,dP⟩) (j6 (Tryz.f184.body.getD .skip) 4) [oB cm,cU 32 7 dP] ⟨cI,by omega⟩ (λx hok=> ?_);obtain⟨gD,gi⟩:=x;replace hok:(gi.Perm L)/\(gD<n):=hok;obtain⟨gy,eF⟩:=hok;have jv:∀y∈gi,T .av y:=λy hy=>h1 y (gy.mem_iff.1 hy)
  have aty:=gy.length_eq;rcases aK (decide (((gD:Nat):Int)>0)) with hg4|hg4
  ·have OE:=of_decide_eq_true hg4;obtain⟨e5,j3⟩:=dn gi gD;have lF:=(jv e5 (fT j3));obtain⟨cZ,j8,qm,qR,j9,cK,bD,rfl,pX,r9,tR,tS,tT,pY⟩:=T.aD lF;obtain⟨e7,he7⟩:=dn gi (gD - 1);have Uu:=(jv e7 (fT he7));obtain⟨sx,HS,LF,Yr,HT,nL,sy,rfl,ab3,ab4,ab5,ab6,ab7,ab8⟩:=T.aD Uu;have aoU:=eO J6 (x:=(aA cZ j8 qm qR j9 cK bD)) (y:=(aA sx HS LF Yr HT nL sy)) ⟨lF,Uu⟩;have akz:=kI (m:=7) (i:=gD - 1) (j:=0) (eV.lens (aG jv)) he7 (by decide);have akA:=kI (m:=7) (i:=gD) (j:=0) (eV.lens (aG jv)) j3 (by decide);rcases aK (decide ((Ks m (aA cZ j8 qm qR j9 cK bD) (aA sx HS LF Yr HT nL sy))<0)) with nU|nU
   ·have Ga:=of_decide_eq_true nU;obtain⟨e10,xq⟩:=dn (gi.set gD (aA sx HS LF Yr HT nL sy)) (gD - 1);exact⟨.inl ⟨⟨gD - 1,((gi.set gD (aA sx HS LF Yr HT nL sy)).set (gD - 1) (aA cZ j8 qm qR j9 cK bD))⟩,⟨⟨(swap_perm j3 he7).trans gy,(by omega)⟩,(by show((gD - 1))<(gD);omega)⟩⟩,vL ah 1 [] 53 0 [] [.arg 0] [0,1,2,3,8,9] (rq 4 (oB hg4) ([oX true 7 gi n cO (aG jv),oR (gD+1) n cO,oB hg4,oQ gi,oO akA,oB hg4,oB hg4,oB hg4,oS (gD) (by omega) (by omega),oB hg4,oX true 7 gi n cO (aG jv),oR ((gD - 1)+1) n cO,oB hg4,oQ gi,oO akz,oB hg4,oC aoU,oB hg4,oB hg4,oB nU,oS (gD) (by omega) (by omega),oS (gD) (by omega) (by omega),oX true 7 gi n cO (aG jv),oR ((gD - 1)+1) n cO,oQ gi,oO akz,oX true 7 gi n cO (aG jv),oR (gD+1) n cO,oQ gi,oO akA,oX true 7 gi n cO (aG jv),oR (gD+1) n cO,oQ gi,oR _ _ (zI (j:=0) (m:=7) (eV.lens (aG jv)) j3 (by decide)),oK (wM (j:=0) (e':=(aA sx HS LF Yr HT nL sy)) (vs:=[.int .u8 sx,.bool HS,.int .i64 LF,.str Yr,.str HT,.sl nL,.sl sy]) (eV.lens (aG jv)) j3 (by first|decide|simp) rfl),oX true 7 (gi.set gD (aA sx HS LF Yr HT nL sy)) n cO (eV.set (aG jv) ⟨rfl,rfl,rfl⟩ _),oR ((gD - 1)+1) n cO,oQ (gi.set gD (aA sx HS LF Yr HT nL sy)),oR _ _ (zI (j:=0) (m:=7) (eV.lens (eV.set (aG jv) ⟨rfl,rfl,rfl⟩ _)) xq (by decide)),oK (Mr (e':=(aA cZ j8 qm qR j9 cK bD)) (vs:=[.int .u8 cZ,.bool j8,.int .i64 qm,.str qR,.str j9,.sl cK,.sl bD]) (eV.lens (eV.set (aG jv) ⟨rfl,rfl,rfl⟩ _)) xq rfl rfl),oS (gD) (by omega) (by omega),cU 32 7 ((gi.set gD (aA sx HS LF Yr HT nL sy)).set (gD - 1) (aA cZ j8 qm qR j9 cK bD))]))⟩
   ·have Ga:=of_decide_eq_false nU;refine F3 ah 1 [] (rq 4 (oB hg4) ([oX true 7 gi n cO (aG jv),oR (gD+1) n cO,oB hg4,oQ gi,oO akA,oB hg4,oB hg4,oB hg4,oS (gD) (by omega) (by omega),oB hg4,oX true 7 gi n cO (aG jv),oR ((gD - 1)+1) n cO,oB hg4,oQ gi,oO akz,oB hg4,oC aoU,oB hg4,oB hg4,oB nU])) ?_;exact⟨.inl ⟨⟨KU+1,gi⟩,⟨gy,(by show(n - (KU+1))<(n - KU);omega)⟩⟩,vL ah 1 [] 53 0 [] [.arg 0] [0,1,2,3,8] [oI (KU) (by omega),cU 32 7 gi]⟩
  ·have OE:=of_decide_eq_false hg4;refine F3 ah 1 [] (rq 13 (oB hg4) ([oF])) ?_;exact⟨.inl ⟨⟨KU+1,gi⟩,⟨gy,(by show(n - (KU+1))<(n - KU);omega)⟩⟩,vL ah 1 [] 53 0 [] [.arg 0] [0,1,2,3,8] [oI (KU) (by omega),cU 32 7 gi]⟩
 ·have jP:=of_decide_eq_false cm;refine F3 ah 1 [] [oB cm] ?_;refine⟨⟨dP,cI⟩,q4 ah 1 [] [cU 32 7 dP]⟩
def CA (x:List Tree×Nat):List TV×List aP:=([.ref (.arg 0) 0 x.2,.t (.int .i64 0),.t (.int .i64 ((x.2:Nat):Int)),.t (.fn (.func 84))],[.arr (32,true) 7 false ((flat x.1).map .t)])
def Gv (x:List Tree×Nat):Prop:=(x.1.length<=16)/\(∀y∈x.1,T .av y)/\(x.2=x.1.length)
def UH (x:List Tree×Nat)(r:List Tree):br:=(.ret (.t (.cG [])) [.arr (32,true) 7 false ((flat (r)).map .t)] [])
theorem adb:∀x y,Gv x->Gv y->CA x=CA y->x=y:=by
 rintro ⟨L1,n1⟩ ⟨L2,n2⟩ h1 h2 h;have uG:L1=L2:=gZ (by decide) (aG h1.2.1) (aG h2.2.1) (congrArg (Ba 0) h);have e_n:n1=n2:=h1.2.2.trans ((congrArg List.length uG).trans h2.2.2.symm);rw[uG,e_n]
theorem ade (m:Int):∃F:(List Tree×Nat)->List Tree,∀L n,Gv (L,n)->ai (cf m) 184 (CA (L,n)).1 (CA (L,n)).2 (UH (L,n) (F (L,n)))/\((F (L,n)).Perm L):=by
 obtain⟨F,hF⟩:=bK (α:=List Tree×Nat) (P:=Gv) (Q:=λx (r:List Tree)=>ai (cf m) 184 (CA x).1 (CA x).2 (UH x r)/\(r.Perm x.1)) λx hx=>by
  obtain⟨L,n⟩:=x;obtain⟨h0,h1,h2⟩:=hx;obtain⟨⟨r,hr⟩,h⟩:=agt m L n h0 h1 h2;exact⟨r,h,hr⟩
 exact⟨F,λL n hx=>hF (L,n) hx⟩
theorem agu (m:Int)(L:List Tree)(n:Nat)(h0:L.length<=16)(h1:∀y∈L,T .av y)(h2:n=L.length):∃r:{r:List Tree // r.Perm L},ai (cf m) 143 [.ref (.arg 0) 0 n,.t (.int .i64 ((n:Nat):Int)),.t (.fn (.func 84))] [.arr (32,true) 7 false ((flat L).map .t)] (.ret (.t (.cG [])) [.arr (32,true) 7 false ((flat (r.1)).map .t)] []):=by
 obtain⟨O0,adf⟩:=ade m;obtain⟨ev,aI,akB⟩:∃ev,aC (cf m) ev/\Has ev 184 (gU CA (Gv) (λx=>UH x (O0 x))):=⟨_,(aq (cW (λ⟨L,n⟩ hx=>(adf L n hx).1)) aF),au⟩;refine AX.start 63 3 Tryz.func143 rfl (by decide) rfl rfl (by decide) ?_;refine AX.frames ?_;have w6:Gv (L,n):=⟨(by omega),h1,h2⟩;have hq1:=adf L n w6;refine⟨⟨(O0 (L,n)),hq1.2⟩,q4 ah 1 [2,7] [oB (show(decide (20<=((n:Nat):Int)))=false from decide_eq_false (by omega)),cU 32 7 L,oC (fu akB adb (L,n) w6 rfl rfl),cU 32 7 (O0 (L,n)),oB (show(decide (20<((n:Nat):Int)))=false from decide_eq_false (by omega)),cU 32 7 (O0 (L,n))]⟩
def CB (x:List Tree×Nat):List TV×List aP:=([.ref (.arg 0) 0 x.2,.t (.int .i64 ((x.2:Nat):Int)),.t (.fn (.func 84))],[.arr (32,true) 7 false ((flat x.1).map .t)])
def Gw (x:List Tree×Nat):Prop:=(x.1.length<=16)/\(∀y∈x.1,T .av y)/\(x.2=x.1.length)
def UI (x:List Tree×Nat)(r:List Tree):br:=(.ret (.t (.cG [])) [.arr (32,true) 7 false ((flat (r)).map .t)] [])
theorem adg:∀x y,Gw x->Gw y->CB x=CB y->x=y:=by
 rintro ⟨L1,n1⟩ ⟨L2,n2⟩ h1 h2 h;have uG:L1=L2:=gZ (by decide) (aG h1.2.1) (aG h2.2.1) (congrArg (Ba 0) h);have e_n:n1=n2:=h1.2.2.trans ((congrArg List.length uG).trans h2.2.2.symm);rw[uG,e_n]
theorem adh (m:Int):∃F:(List Tree×Nat)->List Tree,∀L n,Gw (L,n)->ai (cf m) 143 (CB (L,n)).1 (CB (L,n)).2 (UI (L,n) (F (L,n)))/\((F (L,n)).Perm L):=by
 obtain⟨F,hF⟩:=bK (α:=List Tree×Nat) (P:=Gw) (Q:=λx (r:List Tree)=>ai (cf m) 143 (CB x).1 (CB x).2 (UI x r)/\(r.Perm x.1)) λx hx=>by
  obtain⟨L,n⟩:=x;obtain⟨h0,h1,h2⟩:=hx;obtain⟨⟨r,hr⟩,h⟩:=agu m L n h0 h1 h2;exact⟨r,h,hr⟩
 exact⟨F,λL n hx=>hF (L,n) hx⟩
theorem agv (m:Int)(L:List Tree)(n:Nat)(h0:L.length<=16)(h1:∀y∈L,T .av y)(h2:n=L.length):∃r:{r:List Tree // r.Perm L},ai (cf m) 96 [.ref (.arg 0) 0 n,.t (.fn (.func 84))] [.arr (32,true) 7 false ((flat L).map .t)] (.ret (.t (.cG [])) [.arr (32,true) 7 false ((flat (r.1)).map .t)] []):=by
 obtain⟨O1,adi⟩:=adh m;obtain⟨ev,aI,akC⟩:∃ev,aC (cf m) ev/\Has ev 143 (gU CB (Gw) (λx=>UI x (O1 x))):=⟨_,(aq (cW (λ⟨L,n⟩ hx=>(adi L n hx).1)) aF),au⟩;refine AX.start 9 2 Tryz.func96 rfl (by decide) rfl rfl (by decide) ?_;refine AX.frames ?_;have w6:Gw (L,n):=⟨(by omega),h1,h2⟩;have hq1:=adi L n w6;refine⟨⟨(O1 (L,n)),hq1.2⟩,q4 ah 1 [] [cU 32 7 L,oC (fu akC adg (L,n) w6 rfl rfl),cU 32 7 (O1 (L,n)),cU 32 7 (O1 (L,n))]⟩
def CC (x:List Tree×Nat):List TV×List aP:=([.ref (.arg 0) 0 x.2,.t (.fn (.func 84))],[.arr (32,true) 7 false ((flat x.1).map .t)])
def Gx (x:List Tree×Nat):Prop:=(x.1.length<=16)/\(∀y∈x.1,T .av y)/\(x.2=x.1.length)
def UJ (x:List Tree×Nat)(r:List Tree):br:=(.ret (.t (.cG [])) [.arr (32,true) 7 false ((flat (r)).map .t)] [])
theorem adj:∀x y,Gx x->Gx y->CC x=CC y->x=y:=by
 rintro ⟨L1,n1⟩ ⟨L2,n2⟩ h1 h2 h;have uG:L1=L2:=gZ (by decide) (aG h1.2.1) (aG h2.2.1) (congrArg (Ba 0) h);have e_n:n1=n2:=h1.2.2.trans ((congrArg List.length uG).trans h2.2.2.symm);rw[uG,e_n]
theorem adk (m:Int):∃F:(List Tree×Nat)->List Tree,∀L n,Gx (L,n)->ai (cf m) 96 (CC (L,n)).1 (CC (L,n)).2 (UJ (L,n) (F (L,n)))/\((F (L,n)).Perm L):=by
 obtain⟨F,hF⟩:=bK (α:=List Tree×Nat) (P:=Gx) (Q:=λx (r:List Tree)=>ai (cf m) 96 (CC x).1 (CC x).2 (UJ x r)/\(r.Perm x.1)) λx hx=>by
  obtain⟨L,n⟩:=x;obtain⟨h0,h1,h2⟩:=hx;obtain⟨⟨r,hr⟩,h⟩:=agv m L n h0 h1 h2;exact⟨r,h,hr⟩
 exact⟨F,λL n hx=>hF (L,n) hx⟩
theorem adl (m:Int):∃F:Tree->Tree->Bool,∀x y,(T .av x/\T .av y)->R2 (cf m) 98 x y (.bool (F x y))/\(True):=by
 refine tK (P:=λx y=>T .av x/\T .av y) (mk:=λ(r:Bool)=>.bool r) (Post:=λx y r=>True) λx y hx=> ?_
 obtain⟨hx,hy⟩:=hx;show ∃r:{r:Bool // True},ai (cf m) 98 [.t x,.t y] [] (.ret (.t (.bool r.1)) [] []);have bu:=hx;obtain⟨cL,jX,n_1,s_1,dA,aV,dh,rfl,cT,cQ,gh,dX,fM,fe⟩:=T.aD bu;have dz:=hy;obtain⟨cq,kg,n_2,s_2,jd,cz,dY,rfl,iA,lU,x8,vM,x9,tU⟩:=T.aD dz;obtain⟨ev,aI,J6⟩:∃ev,aC (cf m) ev/\Has ev 84 (rZ (λx y=>T .av x/\T .av y) (λx y=>.int .i64 (Ks m x y))):=⟨_,(aq (dG (λx y h=>Kt m x y h)) aF),au⟩;refine AX.start 9 2 Tryz.func98 rfl (by decide) rfl rfl (by decide) ?_;refine AX.frames ?_;refine⟨⟨((Ks m (aA cL jX n_1 s_1 dA aV dh) (aA cq kg n_2 s_2 jd cz dY))==0), ?_⟩,kf ah [oC (eO J6 (x:=(aA cL jX n_1 s_1 dA aV dh)) (y:=(aA cq kg n_2 s_2 jd cz dY)) ⟨bu,dz⟩)]⟩;trivial
theorem akD (m:Int)(L:List Tree)(n:Nat)(h0:L.length<=16)(h1:∀y∈L,T .av y)(h2:n=L.length):∃r:{r:Bool×List Tree //(∀y∈r.2,y∈L)/\r.2.length<=L.length},ai (cf m) 97 [.ref (.arg 0) 0 n,.t (.fn (.func 98))] [.arr (32,true) 7 false ((flat L).map .t)] (.ret (.t (.sl (r.1).2)) [cond (r.1).1 .dead (.arr (32,true) 7 true ((flat L).map .t))] []):=by
 obtain⟨adn,aoV⟩:=adl m;obtain⟨ev,aI,ado⟩:∃ev,aC (cf m) ev/\Has ev 98 (rZ (λx y=>T .av x/\T .av y) (λx y=>.bool (adn x y))):=⟨_,(aq (dG (λx y h=>(aoV x y h).1)) aF),au⟩;refine AX.start 66 2 Tryz.func97 rfl (by decide) rfl rfl (by decide) ?_;refine AX.frames ?_;rcases aK (decide (((n:Nat):Int)<2)) with hc1|hc1
 ·have ajK:=of_decide_eq_true hc1;refine⟨⟨(false,L),⟨λy hy=>hy,Nat.le_refl _⟩⟩,q4 ah 36893488147419103232 [] [oB hc1,oX true 7 L n cO (aG h1),oN (o:=.arr (32,true) 7 true ((flat L).map .t)) (λ_=>k7)]⟩
 ·have ajK:=of_decide_eq_false hc1;refine kl (α:=Nat) ah 36893488147419103232 [] 66 0 [] [.arg 0] [0,1,5] (λx=>⟨eA 66 [(0,.ref (.arg 0) 0 n),(1,.t (.fn (.func 98))),(5,.t (.int .i64 ((x:Nat):Int)))],[(.arg 0,.arr (32,true) 7 false ((flat L).map .t))],0⟩) (λx=>(x<=n)/\(1<=x)) (λx=>n - x) 1 (j6 (Tryz.f97.body.getD .skip) 4) [oB hc1,cU 32 7 L] ⟨by omega,Nat.le_refl _⟩ (λx hok=> ?_);obtain⟨i_2,zN⟩:∃y,y=x:=⟨x,rfl⟩;subst zN;replace hok:(i_2<=n)/\(1<=i_2):=hok;obtain⟨Ip,AQ⟩:=hok;rcases aK (decide (((i_2:Nat):Int)<((n:Nat):Int))) with bN|bN
  ·have mX:=of_decide_eq_true bN;obtain⟨e4,uF⟩:=dn L i_2;have nV:=(h1 e4 (fT uF));obtain⟨ez,o5,rN,By,qg,fB,gY,rfl,ya,Cd,Ku,Kv,Kw,Ky⟩:=T.aD nV;obtain⟨e6,he6⟩:=dn L (i_2 - 1);have B9:=(h1 e6 (fT he6));obtain⟨Al,R6,SE,SF,R7,vB,Am,rfl,aaK,aki,akj,akk,akl,akm⟩:=T.aD B9;have aoW:=kI (m:=7) (i:=i_2 - 1) (j:=0) (eV.lens (aG h1)) he6 (by decide);have aoX:=kI (m:=7) (i:=i_2) (j:=0) (eV.lens (aG h1)) uF (by decide);rcases aK ((adn (aA ez o5 rN By qg fB gY) (aA Al R6 SE SF R7 vB Am))) with iJ|iJ
   ·refine kl (α:=Nat×Nat×List Tree) ah 36893488147419103232 [] 66 0 [] [.arg 0] [0,1,5,6,7] (λx=>⟨eA 66 [(0,.ref (.arg 0) 0 n),(1,.t (.fn (.func 98))),(5,.t (.int .i64 ((x.2.1:Nat):Int))),(6,.ref (.arg 0) (0+i_2) (n - i_2)),(7,.t (.int .i64 ((x.1:Nat):Int)))],[(.arg 0,.arr (32,true) 7 false ((flat x.2.2).map .t))],0⟩) (λx=>(x.1<=(n - i_2))/\(∀y∈x.2.2,y∈L)/\(x.2.2.length=L.length)/\(i_2<=x.2.1/\x.2.1+1<=i_2+x.1)/\(1<=x.1)) (λx=>(n - i_2) - x.1) (⟨1,i_2,L⟩) (j6 (Tryz.f97.body.getD .skip) 9) [oB bN,oX true 7 L n cO (aG h1),oR (i_2+1) n cO,oQ L,oO aoX,oS (i_2) (by omega) (by omega),oX true 7 L n cO (aG h1),oR ((i_2 - 1)+1) n cO,oQ L,oO aoW,oC (eO ado (x:=(aA ez o5 rN By qg fB gY)) (y:=(aA Al R6 SE SF R7 vB Am)) ⟨nV,B9⟩),oB iJ,oP (Hw (a:=0) (b:=n) (aG h1) (by omega)),oR i_2 n (by omega),cU 32 7 L] ⟨(by dsimp only;omega),λy hy=>hy,rfl,(by dsimp only;omega),Nat.le_refl _⟩ (λx hok=> ?_);obtain⟨wY,uK,O2⟩:=x;replace hok:(wY<=(n - i_2))/\(∀y∈O2,y∈L)/\(O2.length=L.length)/\(i_2<=uK/\uK+1<=i_2+wY)/\(1<=wY):=hok;obtain⟨aeQ,gA,E6,aqu,aqv⟩:=hok;have atd:n=O2.length:=h2.trans E6.symm;rcases aK (decide (((wY:Nat):Int)<(((n - i_2):Nat):Int))) with jC|jC
    ·have DH:=of_decide_eq_true jC;obtain⟨e11,Lw⟩:=dn O2 ((0+i_2)+wY);have DQ:=((λy hy=>h1 y (gA y hy)) e11 (fT Lw));obtain⟨sY,El,OL,OM,Em,qi,sZ,rfl,VH,VI,afL,afM,afN,afO⟩:=T.aD DQ;obtain⟨e13,qv⟩:=dn O2 ((0+i_2)+(wY - 1));have Bu:=((λy hy=>h1 y (gA y hy)) e13 (fT qv));obtain⟨Wg,ah1,KL,KN,Ai,mL,Wh,rfl,Oe,Og,VU,Ef,VV,VW⟩:=T.aD Bu;have akE:=kI (m:=7) (i:=((0+i_2)+wY)) (j:=0) (eV.lens (aG (λy hy=>h1 y (gA y hy)))) Lw (by decide);have aoY:=eO ado (x:=(aA sY El OL OM Em qi sZ)) (y:=(aA Wg ah1 KL KN Ai mL Wh)) ⟨DQ,Bu⟩;have aoZ:=kI (m:=7) (i:=((0+i_2)+(wY - 1))) (j:=0) (eV.lens (aG (λy hy=>h1 y (gA y hy)))) qv (by decide);rcases aK ((!(adn (aA sY El OL OM Em qi sZ) (aA Wg ah1 KL KN Ai mL Wh)))) with eY|eY
     ·obtain⟨e16,X2⟩:=dn O2 uK;have Ee:=((λy hy=>h1 y (gA y hy)) e16 (fT X2));obtain⟨afT,anP,aru,arv,anQ,aco,afU,rfl,afV,afW,afX,afY,afZ,af0⟩:=T.aD Ee;exact⟨.inl ⟨⟨wY+1,uK+1,(O2.set uK (aA sY El OL OM Em qi sZ))⟩,⟨⟨(by show(wY+1)<=(n - i_2);omega),(λy hy=>(List.mem_or_eq_of_mem_set hy).elim (gA y) (λe=>by rw[e];exact gA _ (fT Lw))),(by first|exact E6|(rw[List.length_set];exact E6)),(by dsimp only;omega),(by show 1<=(wY+1);first|omega|(simp only[List.length_append,List.length_cons,List.length_nil,List.length_singleton] at*;omega)|(simp;done)|(simp;omega))⟩,(by show((n - i_2) - (wY+1))<((n - i_2) - wY);omega)⟩⟩,vL ah 36893488147419103232 [] 66 0 [] [.arg 0] [0,1,5,6,7] [oB jC,oP (Hw (a:=(0+i_2)) (b:=(n - i_2)) (aG (λy hy=>h1 y (gA y hy))) (by omega)),oR (wY+1) (n - i_2) (by omega),oQ O2,oO akE,oS (wY) (by omega) (by omega),oP (Hw (a:=(0+i_2)) (b:=(n - i_2)) (aG (λy hy=>h1 y (gA y hy))) (by omega)),oR ((wY - 1)+1) (n - i_2) (by omega),oQ O2,oO aoZ,oC aoY,oB eY,oP (Hw (a:=(0+i_2)) (b:=(n - i_2)) (aG (λy hy=>h1 y (gA y hy))) (by omega)),oR (wY+1) (n - i_2) (by omega),oQ O2,oO akE,oX true 7 O2 n cO (aG (λy hy=>h1 y (gA y hy))),oR (uK+1) n cO,oQ O2,oR _ _ (zI (j:=0) (m:=7) (eV.lens (aG (λy hy=>h1 y (gA y hy)))) X2 (by decide)),oK (wM (j:=0) (e':=(aA sY El OL OM Em qi sZ)) (vs:=[.int .u8 sY,.bool El,.int .i64 OL,.str OM,.str Em,.sl qi,.sl sZ]) (eV.lens (aG (λy hy=>h1 y (gA y hy)))) X2 (by first|decide|simp) rfl),oI (uK) (by omega),oI (wY) (by omega),cU 32 7 (O2.set uK (aA sY El OL OM Em qi sZ))]⟩
     ·exact⟨.inl ⟨⟨wY+1,uK,O2⟩,⟨⟨(by show(wY+1)<=(n - i_2);omega),gA,(by first|exact E6|(rw[List.length_set];exact E6)),(by dsimp only;omega),(by show 1<=(wY+1);first|omega|(simp only[List.length_append,List.length_cons,List.length_nil,List.length_singleton] at*;omega)|(simp;done)|(simp;omega))⟩,(by show((n - i_2) - (wY+1))<((n - i_2) - wY);omega)⟩⟩,vL ah 36893488147419103232 [] 66 0 [] [.arg 0] [0,1,5,6,7] [oB jC,oP (Hw (a:=(0+i_2)) (b:=(n - i_2)) (aG (λy hy=>h1 y (gA y hy))) (by omega)),oR (wY+1) (n - i_2) (by omega),oQ O2,oO akE,oS (wY) (by omega) (by omega),oP (Hw (a:=(0+i_2)) (b:=(n - i_2)) (aG (λy hy=>h1 y (gA y hy))) (by omega)),oR ((wY - 1)+1) (n - i_2) (by omega),oQ O2,oO aoZ,oC aoY,oB eY,oI (wY) (by omega),cU 32 7 O2]⟩
    ·have DH:=of_decide_eq_false jC;refine F3 ah 36893488147419103232 [] [oB jC] ?_;refine F3 ah 36893488147419103232 [] [oP (Hw (a:=0) (b:=n) (aG (λy hy=>h1 y (gA y hy))) (by omega)),oR uK n (by omega),oP (Hw (a:=(0+uK)) (b:=(n - uK)) (aG (λy hy=>h1 y (gA y hy))) (by omega)),oK (akx (a:=(0+uK)) (b:=(n - uK)) (z:=[.t (.int .u8 0),.t (.bool false),.t (.int .i64 0),.t (.str []),.t (.str []),.bX,.bX]) (aG (λy hy=>h1 y (gA y hy))) (by omega) rfl),oP (aky (a:=(0+uK)) (b:=(n - uK)) (n:=n) (z:=[.t (.int .u8 0),.t (.bool false),.t (.int .i64 0),.t (.str []),.t (.str []),.bX,.bX]) (aG (λy hy=>h1 y (gA y hy))) (by omega) rfl (by omega)),oR uK n (by omega),oK (ada (h:=uK) (b:=(n - uK)) (z:=[.t (.int .u8 0),.t (.bool false),.t (.int .i64 0),.t (.str []),.t (.str []),.bX,.bX]) (aG (λy hy=>h1 y (gA y hy))) (by omega))] ?_;refine⟨⟨(true,(O2.take uK)),⟨λy hy=>gA y (List.mem_of_mem_take hy),by show(List.take _ _).length<=_;rw[List.length_take];omega⟩⟩,q4 ah 36893488147419103232 [] [oX true 7 (O2.take uK) uK cO (eV.take (aG (λy hy=>h1 y (gA y hy))) _)]⟩
   ·exact⟨.inl ⟨i_2+1,⟨⟨(by show(i_2+1)<=n;omega),(by show 1<=(i_2+1);first|omega|(simp only[List.length_append,List.length_cons,List.length_nil,List.length_singleton] at*;omega)|(simp;done)|(simp;omega))⟩,(by show(n - (i_2+1))<(n - i_2);omega)⟩⟩,vL ah 36893488147419103232 [] 66 0 [] [.arg 0] [0,1,5] [oB bN,oX true 7 L n cO (aG h1),oR (i_2+1) n cO,oQ L,oO aoX,oS (i_2) (by omega) (by omega),oX true 7 L n cO (aG h1),oR ((i_2 - 1)+1) n cO,oQ L,oO aoW,oC (eO ado (x:=(aA ez o5 rN By qg fB gY)) (y:=(aA Al R6 SE SF R7 vB Am)) ⟨nV,B9⟩),oB iJ,oI (i_2) (by omega),cU 32 7 L]⟩
  ·have mX:=of_decide_eq_false bN;refine F3 ah 36893488147419103232 [] [oB bN] ?_;refine⟨⟨(false,L),⟨λy hy=>hy,Nat.le_refl _⟩⟩,q4 ah 36893488147419103232 [] [oX true 7 L n cO (aG h1),oN (o:=.arr (32,true) 7 true ((flat L).map .t)) (λ_=>k7)]⟩
def KV (x:List Tree×Nat):List TV×List aP:=([.ref (.arg 0) 0 x.2,.t (.fn (.func 98))],[.arr (32,true) 7 false ((flat x.1).map .t)])
def MW (x:List Tree×Nat):Prop:=(x.1.length<=16)/\(∀y∈x.1,T .av y)/\(x.2=x.1.length)
def adp (x:List Tree×Nat)(r:Bool×List Tree):br:=(.ret (.t (.sl (r).2)) [cond (r).1 .dead (.arr (32,true) 7 true ((flat x.1).map .t))] [])
theorem Wi:∀x y,MW x->MW y->KV x=KV y->x=y:=by
 rintro ⟨L1,n1⟩ ⟨L2,n2⟩ h1 h2 h;have uG:L1=L2:=gZ (by decide) (aG h1.2.1) (aG h2.2.1) (congrArg (Ba 0) h);have e_n:n1=n2:=h1.2.2.trans ((congrArg List.length uG).trans h2.2.2.symm);rw[uG,e_n]
theorem agw (m:Int):∃F:(List Tree×Nat)->Bool×List Tree,∀L n,MW (L,n)->ai (cf m) 97 (KV (L,n)).1 (KV (L,n)).2 (adp (L,n) (F (L,n)))/\((∀y∈(F (L,n)).2,y∈L)/\(F (L,n)).2.length<=L.length):=by
 obtain⟨F,hF⟩:=bK (α:=List Tree×Nat) (P:=MW) (Q:=λx (r:Bool×List Tree)=>ai (cf m) 97 (KV x).1 (KV x).2 (adp x r)/\((∀y∈r.2,y∈x.1)/\r.2.length<=x.1.length)) λx hx=>by
  obtain⟨L,n⟩:=x;obtain⟨h0,h1,h2⟩:=hx;obtain⟨⟨r,hr⟩,h⟩:=akD m L n h0 h1 h2;exact⟨r,h,hr⟩
 exact⟨F,λL n hx=>hF (L,n) hx⟩
theorem akF (m:Int):ai (cf m) 184 [.t (.sl []),.t (.int .i64 0),.t (.int .i64 0),.t (.fn (.func 84))] [] (.ret (.t (.cG [])) [] []):=by
 obtain⟨ev,aI⟩:∃ev,aC (cf m) ev:=⟨_,aF⟩;refine ai.iE ?_;refine AX.start 53 4 Tryz.func184 rfl (by decide) rfl rfl (by decide) ?_;refine AX.frames ?_;exact⟨(),q4 ah 0 [1] [Il 0 1 (by omega),oF]⟩
theorem akG (m:Int):ai (cf m) 143 [.t (.sl []),.t (.int .i64 0),.t (.fn (.func 84))] [] (.ret (.t (.cG [])) [] []):=by
 obtain⟨ev,aI,agx⟩:∃ev,aC (cf m) ev/\Has ev 184 (px [.t (.sl []),.t (.int .i64 0),.t (.int .i64 0),.t (.fn (.func 84))] [] (.ret (.t (.cG [])) [] [])):=⟨_,(aq (fU (akF m)) aF),au⟩;refine ai.iE ?_;refine AX.start 63 3 Tryz.func143 rfl (by decide) rfl rfl (by decide) ?_;refine AX.frames ?_;exact⟨(),q4 ah 0 [2,7] [oF,oC (jm agx),oF]⟩
theorem akH (m:Int):ai (cf m) 96 [.t (.sl []),.t (.fn (.func 84))] [] (.ret (.t (.cG [])) [] []):=by
 obtain⟨ev,aI,agy⟩:∃ev,aC (cf m) ev/\Has ev 143 (px [.t (.sl []),.t (.int .i64 0),.t (.fn (.func 84))] [] (.ret (.t (.cG [])) [] [])):=⟨_,(aq (fU (akG m)) aF),au⟩;refine ai.iE ?_;refine AX.start 9 2 Tryz.func96 rfl (by decide) rfl rfl (by decide) ?_;refine AX.frames ?_;exact⟨(),kf ah [oC (jm agy)]⟩
theorem ao0 (m:Int):ai (cf m) 97 [.t (.sl []),.t (.fn (.func 98))] [] (.ret (.t (.sl [])) [] []):=by
 obtain⟨ev,aI⟩:∃ev,aC (cf m) ev:=⟨_,aF⟩;refine ai.iE ?_;refine AX.start 66 2 Tryz.func97 rfl (by decide) rfl rfl (by decide) ?_;refine AX.frames ?_;exact⟨(),kf ah [oT]⟩
theorem adq (m:Int)(q:Sc)(e:Tree)(he:T .aM e):∃r:{r:Tree // T .av r},ai (cf m) 55 [.ptr (.arg 0) 0,.t e,.t (.sl [])] [.cells 63 (aT q)] (.ret (.t r.1) [.cells 63 (aT q)] []):=by
 have bu:=he;obtain⟨bY,n_1,s_1,dA,aV,bR,rfl,cT,cQ,gh,dX,fM,fe,jQ⟩:=T.bO bu;obtain⟨ev,aI,agz,akI⟩:∃ev,aC (cf m) ev/\Has ev 96 (px [.t (.sl []),.t (.fn (.func 84))] [] (.ret (.t (.cG [])) [] []))/\Has ev 97 (px [.t (.sl []),.t (.fn (.func 98))] [] (.ret (.t (.sl [])) [] [])):=⟨_,(aq (fU (akH m)) (aq (fU (ao0 m)) aF)),au,(az rfl au)⟩;refine AX.start 12 3 Tryz.func55 rfl (by decide) rfl rfl (by decide) ?_;refine AX.frames ?_;refine⟨⟨(aA 4 false 0 [] [] [] ([]:List Tree)),.av _ _ _ _ _ _ _ (by simp) (by simp) (by simp) (λ_ h=>by cases h) (by simp) (λ_ h=>by cases h)⟩,kf ah [oC (jm agz),oC (jm akI)]⟩
theorem agA (m:Int)(q:Sc)(e:Tree)(L:List Tree)(n:Nat)(h0:L.length<=16)(h1:∀y∈L,T .av y)(h2:n=L.length)(h3:T .aM e):∃r:{r:Bool×List Tree×Tree // T .av r.2.2},ai (cf m) 55 [.ptr (.arg 0) 0,.t e,.ref (.arg 1) 0 n] [.cells 63 (aT q),.arr (32,true) 7 false ((flat L).map .t)] (.ret (.t (r.1).2.2) [.cells 63 (aT q),cond (r.1).1 .dead (.arr (32,true) 7 true ((flat (r.1).2.1).map .t))] []):=by
 have bu:=h3;obtain⟨bY,n_1,s_1,dA,aV,bR,rfl,cT,cQ,gh,dX,fM,fe,jQ⟩:=T.bO bu;obtain⟨jI,adr⟩:=adk m;obtain⟨Hy,ah2⟩:=agw m;obtain⟨ev,aI,akJ,ah3⟩:∃ev,aC (cf m) ev/\Has ev 96 (gU CC (Gx) (λx=>UJ x (jI x)))/\Has ev 97 (gU KV (MW) (λx=>adp x (Hy x))):=⟨_,(aq (cW (λ⟨L,n⟩ hx=>(adr L n hx).1)) (aq (cW (λ⟨L,n⟩ hx=>(ah2 L n hx).1)) aF)),au,(az rfl au)⟩;refine AX.start 12 3 Tryz.func55 rfl (by decide) rfl rfl (by decide) ?_;refine AX.frames ?_;have abq:Gx (L,n):=⟨(by omega),h1,h2⟩;have hq2:=adr L n abq;have sp3:=hq2.2;have agB:=sp3.length_eq;have akK:∀y∈(jI (L,n)),T .av y:=λy hy=>h1 y (sp3.mem_iff.1 hy)
 have nZ:MW ((jI (L,n)),n):=⟨(by have:=agB;first|(dsimp only;omega)|omega),akK,(h2.trans agB.symm)⟩;have K9:=ah2 (jI (L,n)) n nZ;have agC:=K9.2;have ao1:=fu akJ adj (L,n) abq rfl rfl;rcases aK ((Hy ((jI (L,n)),n)).1) with akL|akL
 ·refine⟨⟨(true,[],(aA 4 false 0 [] [] [] ((Hy ((jI (L,n)),n)).2))),.av _ _ _ _ _ _ _ (by simp) (by simp) (by simp) (λ_ h=>by cases h) (by have:=agC.2;have:=agB;omega) (λy hy=>akK y (agC.1 y hy))⟩,q4 ah 2560 [] [cU 32 7 L,oC ao1,cU 32 7 (jI (L,n)),cU 32 7 (jI (L,n)),oC (show ev 97 [.ref (.arg 0) 0 n,.t (.fn (.func 98))] [.arr (32,true) 7 false ((flat (jI (L,n))).map .t)]=some (br.ret (.t (.sl (Hy ((jI (L,n)),n)).2)) [.dead] []) from(fu ah3 Wi ((jI (L,n)),n) nZ rfl rfl).trans (by show some (br.ret _ [cond (Hy ((jI (L,n)),n)).1 _ _] [])=_;rw[akL];rfl))]⟩
 ·refine⟨⟨(false,(jI (L,n)),(aA 4 false 0 [] [] [] ((Hy ((jI (L,n)),n)).2))),.av _ _ _ _ _ _ _ (by simp) (by simp) (by simp) (λ_ h=>by cases h) (by have:=agC.2;have:=agB;omega) (λy hy=>akK y (agC.1 y hy))⟩,q4 ah 2560 [] [cU 32 7 L,oC ao1,cU 32 7 (jI (L,n)),cU 32 7 (jI (L,n)),oC (show ev 97 [.ref (.arg 0) 0 n,.t (.fn (.func 98))] [.arr (32,true) 7 false ((flat (jI (L,n))).map .t)]=some (br.ret (.t (.sl (Hy ((jI (L,n)),n)).2)) [.arr (32,true) 7 true ((flat (jI (L,n))).map .t)] []) from(fu ah3 Wi ((jI (L,n)),n) nZ rfl rfl).trans (by show some (br.ret _ [cond (Hy ((jI (L,n)),n)).1 _ _] [])=_;rw[akL];rfl)),oN (o:=.arr (32,true) 7 true ((flat (jI (L,n))).map .t)) (λ_=>k7),oN (o:=.arr (32,true) 7 true ((flat (jI (L,n))).map .t)) (λ_=>k7)]⟩
def yC (x:Sc×Tree×List Tree×Nat):List TV×List aP:=([.ptr (.arg 0) 0,.t x.2.1,.ref (.arg 1) 0 x.2.2.2],[.cells 63 (aT x.1),.arr (32,true) 7 false ((flat x.2.2.1).map .t)])
def CD (x:Sc×Tree×List Tree×Nat):Prop:=(x.2.2.1.length<=16)/\(∀y∈x.2.2.1,T .av y)/\(x.2.2.2=x.2.2.1.length)/\(T .aM x.2.1)
def O3 (x:Sc×Tree×List Tree×Nat)(r:Bool×List Tree×Tree):br:=(.ret (.t (r).2.2) [.cells 63 (aT x.1),cond (r).1 .dead (.arr (32,true) 7 true ((flat (r).2.1).map .t))] [])
theorem Se:∀x y,CD x->CD y->yC x=yC y->x=y:=by
 rintro ⟨q1,e1,L1,n1⟩ ⟨q2,e2,L2,n2⟩ h1 h2 h;have e_q:q1=q2:=congrArg pSc h;have e_e:e1=e2:=congrArg (pT0 1) h;have uG:L1=L2:=gZ (by decide) (aG h1.2.1) (aG h2.2.1) (congrArg (Ba 1) h);have e_n:n1=n2:=h1.2.2.1.trans ((congrArg List.length uG).trans h2.2.2.1.symm);rw[e_q,e_e,uG,e_n]
theorem ads (m:Int):∃F:(Sc×Tree×List Tree×Nat)->Bool×List Tree×Tree,∀q e L n,CD (q,e,L,n)->ai (cf m) 55 (yC (q,e,L,n)).1 (yC (q,e,L,n)).2 (O3 (q,e,L,n) (F (q,e,L,n)))/\(T .av (F (q,e,L,n)).2.2):=by
 obtain⟨F,hF⟩:=bK (α:=Sc×Tree×List Tree×Nat) (P:=CD) (Q:=λx (r:Bool×List Tree×Tree)=>ai (cf m) 55 (yC x).1 (yC x).2 (O3 x r)/\(T .av r.2.2)) λx hx=>by
  obtain⟨q,e,L,n⟩:=x;obtain⟨h0,h1,h2,h3⟩:=hx;obtain⟨⟨r,hr⟩,h⟩:=agA m q e L n h0 h1 h2 h3;exact⟨r,h,hr⟩
 exact⟨F,λq e L n hx=>hF (q,e,L,n) hx⟩
def aQ:List (TV×TV×Nat):=[(.t (.int .u8 1),.t (.fn (.func 53)),0),(.t (.int .u8 2),.t (.fn (.func 53)),1),(.t (.int .u8 3),.t (.fn (.func 53)),2),(.t (.int .u8 4),.t (.fn (.func 53)),3),(.t (.int .u8 5),.t (.fn (.func 54)),4),(.t (.int .u8 6),.t (.fn (.func 55)),5),(.t (.int .u8 7),.t (.fn (.func 56)),6),(.t (.int .u8 8),.t (.fn (.func 57)),7),(.t (.int .u8 9),.t (.fn (.func 58)),8),(.t (.int .u8 10),.t (.fn (.func 59)),9),(.t (.int .u8 11),.t (.fn (.func 60)),10),(.t (.int .u8 12),.t (.fn (.func 61)),11),(.t (.int .u8 13),.t (.fn (.func 62)),12),(.t (.int .u8 17),.t (.fn (.func 63)),13),(.t (.int .u8 18),.t (.fn (.func 63)),14),(.t (.int .u8 19),.t (.fn (.func 64)),15),(.t (.int .u8 20),.t (.fn (.func 64)),16),(.t (.int .u8 21),.t (.fn (.func 64)),17),(.t (.int .u8 22),.t (.fn (.func 64)),18),(.t (.int .u8 23),.t (.fn (.func 65)),19),(.t (.int .u8 24),.t (.fn (.func 66)),20),(.t (.int .u8 25),.t (.fn (.func 66)),21),(.t (.int .u8 26),.t (.fn (.func 66)),22),(.t (.int .u8 27),.t (.fn (.func 67)),23),(.t (.int .u8 28),.t (.fn (.func 68)),24),(.t (.int .u8 29),.t (.fn (.func 68)),25)]
theorem E7 (m:Int):ai (cf m) 28 [] [] (.ret (.map (.loc [1])) [] [(.loc [1],.map aQ 26)]):=mK (by kernel_rfl)
def gOf (op:Int):Nat:=if op=1 then 53 else if op=2 then 53 else if op=3 then 53 else if op=4 then 53 else if op=5 then 54 else if op=6 then 55 else if op=7 then 56 else if op=8 then 57 else if op=9 then 58 else if op=10 then 59 else if op=11 then 60 else if op=12 then 61 else if op=13 then 62 else if op=17 then 63 else if op=18 then 63 else if op=19 then 64 else if op=20 then 64 else if op=21 then 64 else if op=22 then 64 else if op=23 then 65 else if op=24 then 66 else if op=25 then 66 else if op=26 then 66 else if op=27 then 67 else if op=28 then 68 else if op=29 then 68 else 0
def SG (q:Sc):aP:=.cells 63 (aT q)
def PO (q:Sc)(e:Tree)(l:List Tree):Prop:=SD q/\T .aM e/\l.length<=4194304/\(∀y∈l,T .av y)/\BA (ff e) (aoz e).length l.length
def QO (m:Int)(q:Sc)(e:Tree)(l:List Tree)(r:Tree ⊕ Int):Prop:=((∀v,r=.inl v->T .av v)/\∀w,r=.inr w->w≠0)/\
 (ff e=12->r=afs (jt l 0))/\(ff e=13->∀v,r=.inl v->jq (jt l 0)=1/\v=yR (IntKind.wrap .i64 (0 - Hl (jt l 0))))/\
 (ff e=17\/ff e=18->r=eqS (ff e) (Ks m (jt l 0) (jt l 1)))/\(19<=ff e->ff e<=22->r=qw m (ff e) (jt l 0) (jt l 1))/\
 (ff e=24->∀v,r=.inl v->jq (jt l 0)=1/\jq (jt l 1)=1/\v=yR (IntKind.wrap .i64 (Hl (jt l 0)+Hl (jt l 1))))/\
 (ff e=25->∀v,r=.inl v->jq (jt l 0)=1/\jq (jt l 1)=1/\v=yR (IntKind.wrap .i64 (Hl (jt l 0) - Hl (jt l 1))))/\
 (ff e=4->r=.inl (ajQ (eS e) (eT e)))/\
 (ff e=23->jq (jt l 1)=3->∀v,r=.inl v->∃b,v=boolT b/\(b=true↔Gu (jt l 1)∈(KR m (.sl q.row) (Gu (jt l 0))).1))
theorem akM (m:Int)(q:Sc)(e:Tree)(l:List Tree)(h:PO q e l)(h6:ff e≠6)(SB:ff e≠14)(Qx:ff e≠15)(h16:ff e≠16):∃r:Tree ⊕ Int,ai (cf m) (gOf (ff e)) [.ptr (.arg 0) 0,.t e,.t (.sl l)] [SG q] (aL r [SG q])/\QO m q e l r:=by
 obtain⟨hs,he,hl,hT,hM⟩:=h;obtain⟨⟨m1,m2⟩,m3,m4,m5,m6,_⟩:=hM;have Jc:ff e=1\/ff e=2\/ff e=3\/ff e=4\/ff e=5\/ff e=7\/ff e=8\/ff e=9\/ff e=10\/ff e=11\/ff e=12\/ff e=13\/ff e=17\/ff e=18\/ff e=19\/ff e=20\/ff e=21\/ff e=22\/ff e=23\/ff e=24\/ff e=25\/ff e=26\/ff e=27\/ff e=28\/ff e=29:=by omega
 rcases Jc with hk|hk|hk|hk|hk|hk|hk|hk|hk|hk|hk|hk|hk|hk|hk|hk|hk|hk|hk|hk|hk|hk|hk|hk|hk
 ·obtain⟨⟨r,hr⟩,hc⟩:=Ek m q e l he hl hT;exact⟨r,by rw[hk];exact hc,⟨hr.1.1,hr.2⟩,(λh=>by omega),(λh=>by omega),(λh=>by omega),(λ_ _=>by omega),(λh=>by omega),(λh=>by omega),(λh=>by omega),(λh=>by omega)⟩
 ·obtain⟨⟨r,hr⟩,hc⟩:=Ek m q e l he hl hT;exact⟨r,by rw[hk];exact hc,⟨hr.1.1,hr.2⟩,(λh=>by omega),(λh=>by omega),(λh=>by omega),(λ_ _=>by omega),(λh=>by omega),(λh=>by omega),(λh=>by omega),(λh=>by omega)⟩
 ·obtain⟨⟨r,hr⟩,hc⟩:=Ek m q e l he hl hT;exact⟨r,by rw[hk];exact hc,⟨hr.1.1,hr.2⟩,(λh=>by omega),(λh=>by omega),(λh=>by omega),(λ_ _=>by omega),(λh=>by omega),(λh=>by omega),(λh=>by omega),(λh=>by omega)⟩
 ·obtain⟨⟨r,hr⟩,hc⟩:=Ek m q e l he hl hT;exact⟨r,by rw[hk];exact hc,⟨hr.1.1,hr.2⟩,(λh=>by omega),(λh=>by omega),(λh=>by omega),(λ_ _=>by omega),(λh=>by omega),(λh=>by omega),(λ_=>hr.1.2 hk),(λh=>by omega)⟩
 ·obtain⟨⟨r,hr⟩,hc⟩:=afy m q e l he hl hT hs;exact⟨r,by rw[hk];exact hc,⟨hr.1,hr.2⟩,(λh=>by omega),(λh=>by omega),(λh=>by omega),(λ_ _=>by omega),(λh=>by omega),(λh=>by omega),(λh=>by omega),(λh=>by omega)⟩
 ·obtain⟨⟨r,hr⟩,hc⟩:=ago m q e l he hl hT (m3 hk);exact⟨r,by rw[hk];exact hc,⟨hr.1,hr.2⟩,(λh=>by omega),(λh=>by omega),(λh=>by omega),(λ_ _=>by omega),(λh=>by omega),(λh=>by omega),(λh=>by omega),(λh=>by omega)⟩
 ·obtain⟨⟨r,hr⟩,hc⟩:=acj m q e l he hl hT (by omega) hs;exact⟨r,by rw[hk];exact hc,⟨hr.1,hr.2⟩,(λh=>by omega),(λh=>by omega),(λh=>by omega),(λ_ _=>by omega),(λh=>by omega),(λh=>by omega),(λh=>by omega),(λh=>by omega)⟩
 ·obtain⟨⟨r,hr⟩,hc⟩:=afP m q e l he hl hT (by omega) hs;exact⟨r,by rw[hk];exact hc,⟨hr.1,hr.2⟩,(λh=>by omega),(λh=>by omega),(λh=>by omega),(λ_ _=>by omega),(λh=>by omega),(λh=>by omega),(λh=>by omega),(λh=>by omega)⟩
 ·obtain⟨⟨r,hr⟩,hc⟩:=ajP m q e l he hl hT (by omega);exact⟨r,by rw[hk];exact hc,⟨hr.1,hr.2⟩,(λh=>by omega),(λh=>by omega),(λh=>by omega),(λ_ _=>by omega),(λh=>by omega),(λh=>by omega),(λh=>by omega),(λh=>by omega)⟩
 ·obtain⟨⟨r,hr⟩,hc⟩:=acP m q e l he hl hT (by omega);exact⟨r,by rw[hk];exact hc,⟨hr.1,hr.2⟩,(λh=>by omega),(λh=>by omega),(λh=>by omega),(λ_ _=>by omega),(λh=>by omega),(λh=>by omega),(λh=>by omega),(λh=>by omega)⟩
 ·obtain⟨⟨r,hr⟩,hc⟩:=afu m q e l he hl hT (by omega);exact⟨r,by rw[hk];exact hc,⟨hr.1.1,hr.2⟩,(λ_=>hr.1.2),(λh=>by omega),(λh=>by omega),(λ_ _=>by omega),(λh=>by omega),(λh=>by omega),(λh=>by omega),(λh=>by omega)⟩
 ·obtain⟨⟨r,hr⟩,hc⟩:=afv m q e l he hl hT (by omega);exact⟨r,by rw[hk];exact hc,⟨(λv hv=>by obtain⟨_,rfl⟩:=hr.1 v hv;exact Is _),hr.2⟩,(λh=>by omega),(λ_=>hr.1),(λh=>by omega),(λ_ _=>by omega),(λh=>by omega),(λh=>by omega),(λh=>by omega),(λh=>by omega)⟩
 ·obtain⟨⟨r,hr⟩,hc⟩:=MD m q e l he hl hT (by omega);exact⟨r,by rw[hk];exact hc,⟨hr.1.1,hr.2⟩,(λh=>by omega),(λh=>by omega),(λ_=>hr.1.2),(λ_ _=>by omega),(λh=>by omega),(λh=>by omega),(λh=>by omega),(λh=>by omega)⟩
 ·obtain⟨⟨r,hr⟩,hc⟩:=MD m q e l he hl hT (by omega);exact⟨r,by rw[hk];exact hc,⟨hr.1.1,hr.2⟩,(λh=>by omega),(λh=>by omega),(λ_=>hr.1.2),(λ_ _=>by omega),(λh=>by omega),(λh=>by omega),(λh=>by omega),(λh=>by omega)⟩
 ·obtain⟨⟨r,hr⟩,hc⟩:=Iu m q e l he hl hT (by omega);exact⟨r,by rw[hk];exact hc,⟨hr.1.1,hr.2⟩,(λh=>by omega),(λh=>by omega),(λh=>by omega),(λ_ _=>hr.1.2),(λh=>by omega),(λh=>by omega),(λh=>by omega),(λh=>by omega)⟩
 ·obtain⟨⟨r,hr⟩,hc⟩:=Iu m q e l he hl hT (by omega);exact⟨r,by rw[hk];exact hc,⟨hr.1.1,hr.2⟩,(λh=>by omega),(λh=>by omega),(λh=>by omega),(λ_ _=>hr.1.2),(λh=>by omega),(λh=>by omega),(λh=>by omega),(λh=>by omega)⟩
 ·obtain⟨⟨r,hr⟩,hc⟩:=Iu m q e l he hl hT (by omega);exact⟨r,by rw[hk];exact hc,⟨hr.1.1,hr.2⟩,(λh=>by omega),(λh=>by omega),(λh=>by omega),(λ_ _=>hr.1.2),(λh=>by omega),(λh=>by omega),(λh=>by omega),(λh=>by omega)⟩
 ·obtain⟨⟨r,hr⟩,hc⟩:=Iu m q e l he hl hT (by omega);exact⟨r,by rw[hk];exact hc,⟨hr.1.1,hr.2⟩,(λh=>by omega),(λh=>by omega),(λh=>by omega),(λ_ _=>hr.1.2),(λh=>by omega),(λh=>by omega),(λh=>by omega),(λh=>by omega)⟩
 ·obtain⟨⟨r,hr⟩,hc⟩:=akw m q e l he hl hT (by omega) hs;exact⟨r,by rw[hk];exact hc,⟨hr.1.1,hr.2⟩,(λh=>by omega),(λh=>by omega),(λh=>by omega),(λ_ _=>by omega),(λh=>by omega),(λh=>by omega),(λh=>by omega),(λ_=>hr.1.2)⟩
 ·obtain⟨⟨r,hr⟩,hc⟩:=OJ m q e l he hl hT (by omega) (by omega);exact⟨r,by rw[hk];exact hc,⟨(λv hv=>by obtain⟨_,_,n,rfl,_⟩:=hr.1 v hv;exact Is _),hr.2⟩,(λh=>by omega),(λh=>by omega),(λh=>by omega),(λ_ _=>by omega),(λ_ v hv=>by obtain⟨a,b,n,rfl,c,_⟩:=hr.1 v hv;exact⟨a,b,by rw[c hk]⟩),(λh=>by omega),(λh=>by omega),(λh=>by omega)⟩
 ·obtain⟨⟨r,hr⟩,hc⟩:=OJ m q e l he hl hT (by omega) (by omega);exact⟨r,by rw[hk];exact hc,⟨(λv hv=>by obtain⟨_,_,n,rfl,_⟩:=hr.1 v hv;exact Is _),hr.2⟩,(λh=>by omega),(λh=>by omega),(λh=>by omega),(λ_ _=>by omega),(λh=>by omega),(λ_ v hv=>by obtain⟨a,b,n,rfl,_,c⟩:=hr.1 v hv;exact⟨a,b,by rw[c hk]⟩),(λh=>by omega),(λh=>by omega)⟩
 ·obtain⟨⟨r,hr⟩,hc⟩:=OJ m q e l he hl hT (by omega) (by omega);exact⟨r,by rw[hk];exact hc,⟨(λv hv=>by obtain⟨_,_,n,rfl,_⟩:=hr.1 v hv;exact Is _),hr.2⟩,(λh=>by omega),(λh=>by omega),(λh=>by omega),(λ_ _=>by omega),(λh=>by omega),(λh=>by omega),(λh=>by omega),(λh=>by omega)⟩
 ·obtain⟨⟨r,hr⟩,hc⟩:=afR m q e l he hl hT (by omega);exact⟨r,by rw[hk];exact hc,⟨hr.1,hr.2⟩,(λh=>by omega),(λh=>by omega),(λh=>by omega),(λ_ _=>by omega),(λh=>by omega),(λh=>by omega),(λh=>by omega),(λh=>by omega)⟩
 ·obtain⟨⟨r,hr⟩,hc⟩:=RN m q e l he hl hT (by omega);exact⟨r,by rw[hk];exact hc,⟨hr.1,hr.2⟩,(λh=>by omega),(λh=>by omega),(λh=>by omega),(λ_ _=>by omega),(λh=>by omega),(λh=>by omega),(λh=>by omega),(λh=>by omega)⟩
 ·obtain⟨⟨r,hr⟩,hc⟩:=RN m q e l he hl hT (by omega);exact⟨r,by rw[hk];exact hc,⟨hr.1,hr.2⟩,(λh=>by omega),(λh=>by omega),(λh=>by omega),(λ_ _=>by omega),(λh=>by omega),(λh=>by omega),(λh=>by omega),(λh=>by omega)⟩
theorem aZ (σ:Nm->Option Nm):(aP.map aQ 26).rn σ=some (.map aQ 26):=by kernel_rfl
def kd (k:Int)(r:Tree ⊕ Int):Tree ⊕ Int:=match r with
 |.inl v=>cond (jq v==k) (.inl v) (.inr 7)
 |.inr w=>.inr w
def gH (r0 r1 r2:Tree ⊕ Int):Tree ⊕ Int:=match kd 0 r0 with
 |.inl v=>cond (ni v) r1 r2
 |.inr w=>.inr w
def dQ (op:Int)(r0 r1:Tree ⊕ Int):Tree ⊕ Int:=match kd 0 r0 with
 |.inl v=>cond (ni v==(op==16)) (.inl v) (kd 0 r1)
 |.inr w=>.inr w
def iN (f:Tree->Tree ⊕ Int):List Tree->List Tree ⊕ Int
 | []=>.inl []
 | a::l=>match f a with
  |.inr w=>.inr w
  |.inl v=>match iN f l with
   |.inr w=>.inr w
   |.inl vs=>.inl (v::vs)
theorem KW {f:Tree->Tree ⊕ Int}:∀{l:List Tree} {a v:Tree} {vs:List Tree},iN f l=.inl vs->f a=.inl v->iN f (l++[a])=.inl (vs++[v])
 | [],a,v,vs,h,hv=>by
  cases h;show(match f a with|.inr w=>_|.inl v=>_)=_;rw[hv];rfl
 | b::l,a,v,vs,h,hv=>by
  unfold iN at h
  cases hb:f b with
  |inr w=>rw[hb] at h;cases h
  | inl u=>
   rw[hb] at h
   simp only at h
   cases hl:iN f l with
   |inr w=>rw[hl] at h;cases h
   |inl us=>
    rw[hl] at h
    cases h
    have:=KW hl hv
    show iN f (b::(l++[a]))=_
    unfold iN
    rw[hb]
    simp only[this]
    rfl
theorem MX {f:Tree->Tree ⊕ Int}:∀{l r:List Tree} {a:Tree} {vs:List Tree} {w:Int},iN f l=.inl vs->f a=.inr w->iN f (l++a::r)=.inr w
 | [],r,a,vs,w,h,hv=>by
  show(match f a with|.inr w=>_|.inl v=>_)=_;rw[hv]
 | b::l,r,a,vs,w,h,hv=>by
  unfold iN at h
  cases hb:f b with
  |inr w=>rw[hb] at h;cases h
  | inl u=>
   rw[hb] at h
   simp only at h
   cases hl:iN f l with
   |inr w=>rw[hl] at h;cases h
   |inl us=>
    have:=MX (r:=r) hl hv
    show iN f (b::(l++a::r))=_
    unfold iN
    rw[hb]
    simp only[this]
theorem yD {f:Tree->Tree ⊕ Int}{l:List Tree}{i:Nat}{a v:Tree}{vs:List Tree}(h:iN f (l.take i)=.inl vs)(ha:l[i]?=some a)(hv:f a=.inl v):iN f (l.take (i+1))=.inl (vs++[v]):=by
 rw[mO ha];exact KW h hv
theorem yE {f:Tree->Tree ⊕ Int}{l:List Tree}{i:Nat}{a:Tree}{vs:List Tree}{w:Int}(h:iN f (l.take i)=.inl vs)(ha:l[i]?=some a)(hv:f a=.inr w):iN f l=.inr w:=by
 obtain⟨hi,rfl⟩:=List.getElem?_eq_some_iff.1 ha;have e:l=l.take i++l[i]::l.drop (i+1):=by rw[← List.drop_eq_getElem_cons hi,List.take_append_drop]
 rw[e];exact MX h hv
open Classical in
def pev (ob:List aP)(ks:List Tree)(f:Tree->Tree ⊕ Int):List TV->List aP->Option br:=λa o=>match a with
 | [.ptr (.arg 0) 0,.t x,.map (.arg 1)]=>if x∈ks/\o=ob then some (aL (f x) ob) else none
 |_=>none
theorem akN {C:ew}{g:FuncId}{ob:List aP}{ks:List Tree}{f:Tree->Tree ⊕ Int}(h:∀x∈ks,ai C g [.ptr (.arg 0) 0,.t x,.map (.arg 1)] ob (aL (f x) ob)):ko C g (pev ob ks f):=λa o q hq=>by
 unfold pev at hq;split at hq
 ·split at hq
  ·rename_i hp;obtain⟨hp,rfl⟩:=hp;cases hq;exact h _ hp
  ·cases hq
 ·cases hq
theorem aiD {ev:bp}{g:FuncId}{ob:List aP}{ks:List Tree}{f:Tree->Tree ⊕ Int}(h:Has ev g (pev ob ks f)){x:Tree}(hx:x∈ks):ev g [.ptr (.arg 0) 0,.t x,.map (.arg 1)] ob=some (aL (f x) ob):=h _ _ _ (if_pos ⟨hx,rfl⟩)
theorem KX (m:Int)(q:Sc)(op n:Int)(s t:List UInt8)(ns ks:List Tree)(lk:ks.length<=4194304)(hks:∀y∈ks,T .aM y)(f:Tree->Tree ⊕ Int)(hf:∀x∈ks,ai (cf m) 27 [.ptr (.arg 0) 0,.t x,.map (.arg 1)] [.cells 63 (aT q),.map aQ 26] (aL (f x) [.cells 63 (aT q),.map aQ 26]))(Fi:∀x∈ks,∀v,f x=.inl v->T .av v)(i:Nat)(hi:i<ks.length):∃r:{r:Tree ⊕ Int // r=f (jt ks i)},ai (cf m) 51 (.t (.int .i64 (i:Int))::[.ptr (.arg 0) 0,.ptr (.arg 1) 0,.ptr (.arg 2) 0]) [.cells 61 [.ptr (.arg 3) 0],.cells 26 (bg op n s t ns ks),.cells 66 [.map (.arg 4)],.cells 63 (aT q),.map aQ 26] (aL r.1 [.cells 61 [.ptr (.arg 3) 0],.cells 26 (bg op n s t ns ks),.cells 66 [.map (.arg 4)],.cells 63 (aT q),.map aQ 26]):=by
 obtain⟨ev,aI,Yh⟩:∃ev,aC (cf m) ev/\Has ev 27 (pev [.cells 63 (aT q),.map aQ 26] ks f):=⟨_,(aq (akN hf) aF),au⟩;refine AX.start 14 4 Tryz.func51 rfl (by decide) rfl rfl (by decide) ?_;refine AX.frames ?_;obtain⟨e1,rW⟩:=dn ks i;have dz:=(hks e1 (fT rW));obtain⟨akO,n_2,s_2,jd,cz,UK,rfl,iA,lU,x8,vM,x9,tU,abz⟩:=T.bO dz;have akP:=fT rW;rcases An:f (bf akO n_2 s_2 jd cz UK) with v_3|w_3
 ·obtain⟨Wj,Wk,jw,iu,Wl,fW,Wm,rfl,_⟩:=T.aD (Fi _ akP _ An);refine⟨⟨.inl (aA Wj Wk jw iu Wl fW Wm),An.symm.trans (congrArg f (fh rW).symm)⟩,kf ah [oE rW,oN (o:=.map aQ 26) aZ,oN (o:=.map aQ 26) aZ,oC (show ev 27 [.ptr (.arg 0) 0,.t (bf akO n_2 s_2 jd cz UK),.map (.arg 1)] [.cells 63 (aT q),.map aQ 26]=some (aL (.inl (aA Wj Wk jw iu Wl fW Wm)) [.cells 63 (aT q),.map aQ 26]) from(aiD Yh akP).trans (congrArg (λz=>some (aL z [.cells 63 (aT q),.map aQ 26])) An)),oN (o:=.map aQ 26) aZ,oN (o:=.map aQ 26) (λ_=>rfl),oN (o:=.map aQ 26) (λ_=>rfl)]⟩
 ·refine⟨⟨.inr w_3,An.symm.trans (congrArg f (fh rW).symm)⟩,kf ah [oE rW,oN (o:=.map aQ 26) aZ,oN (o:=.map aQ 26) aZ,oC (show ev 27 [.ptr (.arg 0) 0,.t (bf akO n_2 s_2 jd cz UK),.map (.arg 1)] [.cells 63 (aT q),.map aQ 26]=some (aL (.inr w_3) [.cells 63 (aT q),.map aQ 26]) from(aiD Yh akP).trans (congrArg (λz=>some (aL z [.cells 63 (aT q),.map aQ 26])) An))]⟩
end
end Go.Proofs.YtfdnciimclnncaaGreatDoor.w.e
