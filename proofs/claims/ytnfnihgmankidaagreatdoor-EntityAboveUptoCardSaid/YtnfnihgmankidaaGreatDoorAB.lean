/- slices.SortFunc of Uids, in their order. -/
import Derived.WalkKit
import Derived.OwnWalkIn
import Derived.TacticsInMore
import Derived.Shelf.Abstract
import Derived.Shelf.SlSortCmp.WholeK
import Derived.Shelf.SlSortCmp.NoneTotal
import Derived.Sort.LotA
import Derived.StillTailTactics
import Derived.Test.YtnfnihgmankidaaGreatDoorSrt
import Derived.Test.YtnfnihgmankidaaGreatDoorShelf
import Derived.Test.YtnfnihgmankidaaGreatDoorN
import Derived.Test.YtnfnihgmankidaaGreatDoorY
import Derived.Test.YtnfnihgmankidaaGreatDoorAA
import Derived.Test.YtnfnihgmankidaaGreatDoorR
set_option linter.unusedVariables false
set_option linter.unusedSimpArgs false
namespace Go.Proofs.YtnfnihgmankidaaGreatDoor.w
open Go Go.Abs Go.RowKit Go.Sort Go.Shelf
attribute [local go_sem] Oper.semAt_some
def Xd (l:List Tree)(i j:Nat):Int:=mA (l[i]?.getD .bQ) (l[j]?.getD .bQ)
def permA (l:List Tree):Array Nat:=pdq (ltOf (Xd l)) (Array.range l.length) 0 l.length (Lib.bitLen l.length) true true
def mh (l:List Tree):List Tree:=(permA l).toList.map λi=>l[i]?.getD .bQ
def AtF (e:Tree):Prop:=∃n s,e=.agg [.str n,.str s]
theorem Ex (l:List Tree)(i j:Nat):ltOf (Xd l) i j=decide (AJ (l[i]?.getD .bQ)<AJ (l[j]?.getD .bQ)\/(AJ (l[i]?.getD .bQ)=AJ (l[j]?.getD .bQ)/\Rl (l[i]?.getD .bQ)<Rl (l[j]?.getD .bQ))):=by
 unfold ltOf Xd;exact decide_eq_decide.2 AK
theorem abZ (l:List Tree):SWO (ltOf (Xd l)) where
 irrefl x:=by
  rw[Ex];exact decide_eq_false λh=>h.elim (List.lt_irrefl _) λh=>List.lt_irrefl _ h.2
 trans x y z h1 h2:=by
  rw[Ex] at*;have h1:=of_decide_eq_true h1;have h2:=of_decide_eq_true h2;refine decide_eq_true ?_;rcases h1 with h1|⟨e1,h1⟩<;>rcases h2 with h2|⟨e2,h2⟩
  ·exact .inl (List.lt_trans h1 h2)
  ·exact .inl (e2▸h1)
  ·exact .inl (e1▸h2)
  ·exact .inr ⟨e1.trans e2,List.lt_trans h1 h2⟩
 ntrans x y z h1 h2:=by
  rw[Ex] at*;have h1:=of_decide_eq_false h1;have h2:=of_decide_eq_false h2;refine decide_eq_false λh=> ?_
  generalize AJ (l[x]?.getD .bQ)=a at*;generalize AJ (l[y]?.getD .bQ)=b at*;generalize AJ (l[z]?.getD .bQ)=c at*;generalize Rl (l[x]?.getD .bQ)=a' at*;generalize Rl (l[y]?.getD .bQ)=b' at*;generalize Rl (l[z]?.getD .bQ)=c' at*;have n1:¬a<b:=λq=>h1 (.inl q)
  have n2:¬b<c:=λq=>h2 (.inl q)
  have l1:b<=a:=List.not_lt.1 n1;have l2:c<=b:=List.not_lt.1 n2;rcases h with h|⟨rfl,h⟩
  ·exact List.not_lt.2 (List.le_trans l2 l1) h
  ·have e:a=b:=List.le_antisymm l2 l1;subst e;have m1:¬a'<b':=λq=>h1 (.inr ⟨rfl,q⟩)
   have m2:¬b'<c':=λq=>h2 (.inr ⟨rfl,q⟩)
   exact List.not_lt.2 (List.le_trans (List.not_lt.1 m2) (List.not_lt.1 m1)) h
theorem tW (l:List Tree):(permA l).toList.Perm (List.range l.length):=by
 have h:=(pdq_sorts (ltOf (Xd l)) (abZ l) (Array.range l.length) 0 (Array.range l.length).size (Lib.bitLen l.length) true true (Nat.zero_le _) (Nat.le_refl _) (Or.inl rfl)).1;have h3:=h.2.2;have hs:=h.1;simp only[Array.size_range] at h3 hs;have e1:(permA l).extract 0 l.length=permA l:=by
  have:(permA l).size=l.length:=hs;rw[← this];exact Array.extract_size
 have e2:(Array.range l.length).extract 0 l.length=Array.range l.length:=by
  have:=Array.extract_size (xs:=Array.range l.length);rwa [Array.size_range] at this
 have h4:((permA l).extract 0 l.length).toList.Perm ((Array.range l.length).extract 0 l.length).toList:=h3;rw[e1,e2] at h4;simpa using h4
theorem tX (l:List Tree):(permA l).size=l.length:=by
 have:=(tW l).length_eq;simpa using this
theorem mo (l:List Tree):(mh l).length=l.length:=by simp[mh,tX]
theorem Lv {l:List Tree}{j:Nat}(hj:j<l.length):(permA l)[j]! <l.length:=by
 have hj':j<(permA l).size:=by rw[tX];exact hj
 rw[getElem!_pos _ j hj'];have:(permA l)[j]∈(permA l).toList:=by simp
 have:=(tW l).mem_iff.1 this;simpa using this
theorem z8 {l:List Tree}{j:Nat}(hj:j<l.length):(mh l)[j]?=l[(permA l)[j]!]?:=by
 have hj':j<(permA l).size:=by rw[tX];exact hj
 have h:=Lv hj;rw[getElem!_pos _ j hj'] at h ⊢;simp only[mh,List.getElem?_map,Array.getElem?_toList,Array.getElem?_eq_getElem hj',Option.map_some,List.getElem?_eq_getElem h,Option.getD_some]
theorem pn {l:List Tree}{x:Tree}(h:x∈mh l):x∈l:=by
 obtain⟨j,hj,e⟩:=List.getElem_of_mem h;rw[mo] at hj;have h1:=z8 hj;rw[List.getElem?_eq_getElem (by rw[mo];exact hj),e] at h1;exact List.mem_of_getElem? h1.symm
theorem Ey (l:List Tree):(mh l).Perm l:=by
 have h:=(tW l).map λi=>l[i]?.getD .bQ
 have e:(List.range l.length).map (λi=>l[i]?.getD .bQ)=l:=by
  apply List.ext_getElem
  ·simp
  ·intro i h1 h2;simp[List.getElem?_eq_getElem h2]
 exact h.trans (List.Perm.of_eq e)
theorem NN (l:List Tree):(mh l).Pairwise λa b=>¬mA b a<0:=by
 have h:=(pdq_sorts (ltOf (Xd l)) (abZ l) (Array.range l.length) 0 (Array.range l.length).size (Lib.bitLen l.length) true true (Nat.zero_le _) (Nat.le_refl _) (Or.inl rfl)).2;simp only[Array.size_range] at h;rw[List.pairwise_iff_getElem];intro i j hi hj hij;have hi2:=hi;have hj2:=hj;rw[mo] at hi2 hj2;have h1:ltOf (Xd l) (permA l)[j]! (permA l)[i]! =false:=h i j (Nat.zero_le _) hij hj2;have gi:=z8 hi2;have gj:=z8 hj2;rw[List.getElem?_eq_getElem hi] at gi;rw[List.getElem?_eq_getElem hj] at gj;unfold ltOf Xd at h1;rw[← gi,← gj] at h1;exact of_decide_eq_false h1
theorem I6 {l:List Tree}(hn:l.Nodup)(hl:∀e∈l,AtF e):(mh l).Pairwise λa b=>mA a b<0:=by
 have h2:(mh l).Nodup:=(Ey l).nodup_iff.2 hn;refine List.Pairwise.imp_of_mem (R:=λa b=>¬mA b a<0/\a≠b) ?_ ((NN l).and h2);rintro a b ha hb ⟨h3,h4⟩;obtain⟨s,t,rfl⟩:=hl a (pn ha);obtain⟨s2,t2,rfl⟩:=hl b (pn hb);exact Decidable.byContradiction λg=>h4 (Iy.1 (O8 g h3))
theorem wO:∀(L:List Tree) (hu:∀e∈L,e.cells.length=2) (j:Nat),(flat L)[j]?=(L[j / 2]?).bind λe=>e.cells[j % 2]?
 | [],_,j=>by simp[flat]
 | a ::L,hu,j=>by
   have ha:a.cells.length=2:=hu a List.mem_cons_self
   have ih:=wO L (λe he=>hu e (List.mem_cons_of_mem _ he))
   have e:flat (a::L)=a.cells++flat L:=rfl
   rw[e]
   by_cases h:j<2
   · rw[List.getElem?_append_left (by omega),Nat.div_eq_of_lt h,Nat.mod_eq_of_lt h];rfl
   · obtain⟨k,rfl⟩:∃k,j=k+2:=⟨j - 2,by omega⟩
     rw[List.getElem?_append_right (by omega),ha,Nat.add_sub_cancel,ih,Nat.add_div_right _ (by decide),Nat.add_mod_right]
     rfl
theorem YN (x:ByteArray)(w:World):Calls Tryz.prog 130 #[.string x] w λe w'=>e=.returned (.bool false)/\w'=w:=by
 go_enter Tryz.func130,Tryz.ntmps130;go_wp2;go_ret;exact⟨by simp,rfl⟩
theorem bytesLess_eq:∀(x y:List UInt8),Op.bytesLess x y=decide (x<y)
 | [],[]=>by simp[Op.bytesLess]
 |_::_,[]=>by simp[Op.bytesLess]
 | [],_::_=>by simp[Op.bytesLess]
 |a::x,b::y=>by
  rw[Op.bytesLess,bytesLess_eq x y]
  simp only[List.cons_lt_cons_iff]
  by_cases h1:a<b<;>by_cases h2:a=b<;>by_cases h3:x<y<;>simp[h1,h2,h3]
theorem aeZ (x y:List UInt8)(w:World):Sem.run Tryz.prog (binOp .gtr 9 (.string ⟨x.toArray⟩) (.string ⟨y.toArray⟩)) w=.ok (.bool (!(Op.bytesLess x y||x==y))) w:=by
 simp[binOp,Op.stringOp,Lib.toList_data]
theorem ae0 {x y:List UInt8}(h1:¬x<y)(h2:x≠y):y<x:=by
 by_cases h:y<x
 ·exact h
 ·exact absurd (List.le_antisymm (List.not_lt.1 h) (List.not_lt.1 h1)) h2
set_option maxHeartbeats 1000000 in
theorem GP (x y:List UInt8)(w:World):Calls Tryz.prog 84 #[.string ⟨x.toArray⟩,.string ⟨y.toArray⟩] w λe w'=>e=.returned (.int .i64 (qX x y))/\w'=w:=by
 go_enter Tryz.func84,Tryz.ntmps84;go_wp2_with (go_at_call 130;refine(YN _ _).mono ?_;rintro e w' ⟨rfl,rfl⟩)
 ·rename_i h;have h:=of_decide_eq_true ((bytesLess_eq x y).symm.trans h);rw[show qX x y=-1 from if_pos h];go_ret;exact⟨rfl,rfl⟩
 ·rename_i h _ _ _ _ _ _;have hx:¬x<y:=of_decide_eq_false ((bytesLess_eq x y).symm.trans h);rw[aeZ,h,Bool.false_or];simp only[Result.andThen_ok];obtain⟨b,hb⟩:∃b,b=(x==y):=⟨_,rfl⟩;have hc:qX x y=if b=true then 0 else 1:=by
   unfold qX;rw[if_neg hx];by_cases e:x=y
   ·subst e;simp[hb,hx]
   ·have:(x==y)=false:=by simpa using e
    rw[if_pos (ae0 hx e),hb,this];rfl
  rw[← hb];clear hb;cases b
  ·go_wp2;go_ret;exact⟨by first|rfl|(rw[hc];rfl),rfl⟩
  ·go_wp2;go_ret;exact⟨by first|rfl|(rw[hc];rfl),rfl⟩
def qp (us:Array Value)(n i:Nat):List Value:=if i<n then(us.toList.drop (i*2)).take 2 else [.string ⟨#[]⟩,.string ⟨#[]⟩]
set_option maxHeartbeats 1000000 in
theorem aiA (b off cap:Nat)(x y:Int)(W:World)(h0:W.cell? ⟨b,off,none⟩=some (.int .i64 x))(h1:W.cell? ⟨b,off+1,none⟩=some (.int .i64 y)):
 Calls Tryz.prog 83 #[.slice (some ⟨b,off,none⟩) 2 cap] W λe w'=>e=.returned (.int .i64 (Yg x y))/\w'=W:=by
 go_enter Tryz.func83,Tryz.ntmps83
 go_wp2
 go_loopw [8] (λi wr=>wr=W/\(i=.int .i64 0\/(i=.int .i64 1/\x=0)\/(i=.int .i64 2/\x=0/\y=0))) (λi _=>2 - (intOf i).toNat)
 case atStart=>exact⟨rfl,.inl rfl⟩
 case round=>
  obtain⟨rfl,rfl|⟨rfl,rfl⟩|⟨rfl,rfl,rfl⟩⟩:=hrel
  ·go_wp2
   ·rename_i h;have hx:x≠0:=by simpa using h
    have e:Yg x y=x:=if_pos hx;go_ret;exact⟨by rw[e];rfl,rfl⟩
   ·rename_i h;have hx:x=0:=by simpa using h
    exact⟨⟨trivial,.inr (.inl ⟨rfl,hx⟩)⟩,by decide⟩
  ·have e:Yg 0 y=y:=by simp[Yg]
   go_wp2
   ·go_ret;exact⟨by rw[e];rfl,rfl⟩
   ·rename_i h;have hy:y=0:=by simpa using h
    exact⟨⟨trivial,.inr (.inr ⟨rfl,trivial,hy⟩)⟩,by decide⟩
  ·go_wp2;go_ret;exact⟨rfl,rfl⟩
set_option maxRecDepth 100000 in
set_option maxHeartbeats 2000000 in
theorem VP (a b a' b':List UInt8)(W:World):
 Calls Tryz.prog 37 #[.agg #[.string ⟨a.toArray⟩,.string ⟨b.toArray⟩],.agg #[.string ⟨a'.toArray⟩,.string ⟨b'.toArray⟩]] W λe w'=>e=.returned (.int .i64 (Yg (qX a a') (qX b b')))/\∃q os',w'=grow (W.drewN q) os':=by
 have hc1:=λW'=>GP a a' W'
 have eE:=λW'=>GP b b' W'
 generalize qX a a'=r1 at hc1 ⊢
 generalize qX b b'=r2 at eE ⊢
 go_enter Tryz.func37,Tryz.ntmps37
 go_wp2
 refine wp_region_still_tail 10 (by kernel_rfl) (by kernel_rfl) ?_
 obtain⟨U,hU⟩:∃U,U=(W.alloc (.cells #[.string ⟨a.toArray⟩,.string ⟨b.toArray⟩] 24)).alloc (.cells #[.string ⟨a'.toArray⟩,.string ⟨b'.toArray⟩] 24):=⟨_,rfl⟩
 rw[← hU]
 generalize hV:({U with drawn:=U.drawn+1}:World)=V
 have c1:V.cell? ⟨W.heap.size,0,none⟩=some (.string ⟨a.toArray⟩):=by rw[← hV];show U.cell? _=_;rw[hU];simp[go_sem]
 have c2:V.cell? ⟨W.heap.size,1,none⟩=some (.string ⟨b.toArray⟩):=by rw[← hV];show U.cell? _=_;rw[hU];simp[go_sem]
 have c3:V.cell? ⟨W.heap.size+1,0,none⟩=some (.string ⟨a'.toArray⟩):=by rw[← hV];show U.cell? _=_;rw[hU];simp[go_sem]
 have c4:V.cell? ⟨W.heap.size+1,1,none⟩=some (.string ⟨b'.toArray⟩):=by rw[← hV];show U.cell? _=_;rw[hU];simp[go_sem]
 simp only[List.take_succ_cons,List.take_zero,List.drop_succ_cons,List.drop_zero]
 iterate 4 still_step
 still_call (hc1 _)
 iterate 4 still_step
 still_call (eE _)
 refine wpStill_nil ?_
 go_wp2_with (go_at_call 83;refine(aiA _ _ _ r1 r2 _ (by simp[go_sem]) (by simp[go_sem])).mono ?_;rintro e w' ⟨rfl,rfl⟩)
 go_ret
 refine⟨rfl,1,(#[.cells #[.string ⟨a.toArray⟩,.string ⟨b.toArray⟩] 24]++ #[.cells #[.string ⟨a'.toArray⟩,.string ⟨b'.toArray⟩] 24])++ #[.cells #[.int .i64 r1,.int .i64 r2] 3], ?_⟩
 rw[← hV,hU,alloc_eq_grow,alloc_eq_grow,alloc_eq_grow,grow_grow]
 exact grow_grow (W.drewN 1) _ _
set_option maxHeartbeats 1000000 in
theorem VQ (m:Int)(l:List Tree)(hl:l.length<=4194304)(hne:l≠ [])(hf:∀e∈l,AtF e):
 aq (cf m) 36 [.ref (.arg 0) 0 l.length,.t (.fn (.func 37))] [.arr (24,true) 2 false ((flat l).map .t)] (.ret (.t (.cT [])) [.arr (24,true) 2 false ((flat (mh l)).map .t)] []):=by
 intro G w vs hw hg had hH hv
 obtain⟨x,vs1,rfl,hx,hv⟩:=hv.gq
 obtain⟨y,rfl,hy⟩:=hv.only
 obtain⟨hd,ho⟩:=hH (.arg 0) _ rfl
 obtain⟨_,cap,us,ty,fr,ha,hh,⟨o6,hty⟩,hsz,hcl,sN,hF⟩:=ho
 have hu:∀e∈l,e.cells.length=2:=λe he=>by obtain⟨n,s,rfl⟩:=hf e he;rfl
 have hu2:∀e∈mh l,e.cells.length=2:=λe he=>hu e (pn he)
 have hn:((flat l).map TV.t).length=l.length*2:=by rw[List.length_map,fu hu]
 have hn2:((flat (mh l)).map TV.t).length=l.length*2:=by rw[List.length_map,fu hu2,mo]
 rw[hn] at ha hcl sN
 have hpos:0<l.length:=by cases l with|nil=>exact absurd rfl hne|cons=>simp
 obtain rfl:y=.func (.func 37) #[] #[]:=by
  cases hy with|t _ _ hy=>cases hy;rfl
 obtain rfl:x=.slice (some ⟨G.mu (.arg 0),0,none⟩) l.length cap:=by
  cases hx with
  | ref k off len n bx cap' v hd' uU hle' ho' xS=>
    rw[ha] at uU;cases uU
    obtain⟨a,rfl,h2⟩:=xS (by omega)
    have:=h2 (by omega)
    subst this;rfl
 have hcell:∀q c,(flat l)[q]?=some c->∃v,us[q]?=some v/\VT G.F c v:=λq c hc=>by
  have hq:q<l.length*2:=by rw[← fu hu];exact(List.getElem?_eq_some_iff.1 hc).1
  obtain⟨v,Xa,hv2⟩:=sN.at (j:=q) (c:=.t c) (by rw[List.getElem?_map,hc];rfl);rw[List.getElem?_take_of_lt hq,Array.getElem?_toList] at Xa;cases hv2 with|t _ _ h=>exact⟨v,Xa,h⟩
 have YO:∀i,qp us l.length i=[.string ⟨(AJ (l[i]?.getD .bQ)).toArray⟩,.string ⟨(Rl (l[i]?.getD .bQ)).toArray⟩]:=λi=>by
  by_cases hi:i<l.length
  ·obtain⟨n,s,he⟩:=hf l[i] (List.getElem_mem hi);have hat:∀r,r<2->(flat l)[i*2+r]?=(Tree.agg [.str n,.str s]).cells[r]?:=λr hr=>by
    rw[wO l hu,show(i*2+r)/ 2=i by omega,show(i*2+r) % 2=r by omega,List.getElem?_eq_getElem hi,he];rfl
   obtain⟨v0,h0,w0⟩:=hcell _ _ (hat 0 (by decide));obtain⟨v1,h1,w1⟩:=hcell _ _ (hat 1 (by decide));have hnm:AJ (l[i]?.getD .bQ)=n:=by rw[List.getElem?_eq_getElem hi,Option.getD_some,he];rfl
   have aiB:Rl (l[i]?.getD .bQ)=s:=by rw[List.getElem?_eq_getElem hi,Option.getD_some,he];rfl
   have rW:qp us l.length i=[v0,v1]:=by
    unfold qp;rw[if_pos hi];apply List.ext_getElem?;intro r;by_cases hr:r<2
    ·rw[List.getElem?_take_of_lt hr,List.getElem?_drop,Array.getElem?_toList];match r,hr with
     |0,_=>exact h0
     |1,_=>exact h1
    ·rw[List.getElem?_eq_none (by simp;omega),List.getElem?_eq_none (by simp;omega)]
   rw[rW,hnm,aiB];cases w0;cases w1;rfl
  ·unfold qp;rw[if_neg hi,List.getElem?_eq_none (by omega)];rfl
 have hk:∀i,(qp us l.length i).length=2:=λi=>by rw[YO i];rfl
 have h1:∀i,∀v∈qp us l.length i,v.oneCell'=true:=λi v hv=>by
  rw[YO i] at hv;simp only[List.mem_cons,List.not_mem_nil,or_false] at hv;rcases hv with rfl|rfl<;>rfl
 have hcmp:CmpLays Tryz.prog 37 #[] (qp us l.length) 2 (Xd l) (G.mu (.arg 0)) 0 (Array.range l.length).size w:=λmm os dk _ i j=>by
  have e:=YO i;have e':=YO j;generalize sortWorldK (qp us l.length) 2 w (G.mu (.arg 0)) 0 mm dk os=W;rw[e,e'];exact VP _ _ _ _ W
 have hrd:∀i,i<l.length->(Array.range l.length)[i]! =i:=λi hi=>by simp[hi]
 have ae1:∀(D:Array Nat),D.size=l.length->(∀q,q<l.length->D[q]! <l.length)->∀j,j<l.length*2->us[D[j / 2]! *2+j % 2]?=some (flatK (qp us l.length) 2 D)[j]!:=λD hD hlt j hj=>by
  have hj5:j / 2<l.length:=by omega
  have hq:=hlt _ hj5;rw[get_flatK _ _ _ _ (by rw[hD];exact hj)];have hlen:D[j / 2]! *2+j % 2<us.size:=by omega
  have:(qp us l.length D[j / 2]!)[j % 2]?=us[D[j / 2]! *2+j % 2]?:=by
   unfold qp;rw[if_pos hq,List.getElem?_take_of_lt (by omega),List.getElem?_drop,Array.getElem?_toList]
  rw[← this];have h5:j % 2<(qp us l.length D[j / 2]!).length:=by rw[hk];omega
  rw[List.getElem?_eq_getElem h5,getElem!_pos (qp us l.length D[j / 2]!) (j % 2) h5]
 have ae2:HoldsK (qp us l.length) 2 w (G.mu (.arg 0)) 0 (Array.range l.length):=λj hj=>by
  have hj':j<l.length*2:=by simpa using hj
  have hju:j<us.size:=by omega
  refine⟨?_,by rw[Nat.zero_add];exact ni hh o6 hju⟩;have:=ae1 (Array.range l.length) (by simp) (λq hq=>by rw[hrd q hq];exact hq) j hj';rw[hrd _ (by omega),show j / 2*2+j % 2=j by omega] at this;simp only[World.cell?,hh,Nat.zero_add];exact this
 have eg:∀args w,(callFunc 37 args).run Tryz.prog w=.ok (.enter 37 args) w:=enters_of Tryz.func37 (by kernel_rfl) rfl
 have es:∀args w,(callFunc 36 args).run Tryz.prog w=.ok (.enter 36 args) w:=enters_of Tryz.func36 (by kernel_rfl) rfl
 have ae3:=AnyQ.slices_SortFunc_eq Tryz.sortf36 2 Tryz.isAgg24 Tryz.sizeOf24 (qp us l.length) hk h1 (Xd l) (abZ l) 37 #[] (G.mu (.arg 0)) 0 cap (Array.range l.length) w eg hcmp ae2 (hw.lt _ hd) (by simp;omega)
 rw[Array.size_range] at ae3
 refine .inl ⟨es _ _,Calls.mono ae3 ?_⟩
 rintro e w' ⟨rfl,q,os,rfl⟩
 have hps:=tX l
 obtain⟨D,hD⟩:∃D,D=permA l:=⟨_,rfl⟩
 have hDs:D.size=l.length:=by rw[hD];exact hps
 have hDl:∀q,q<l.length->D[q]! <l.length:=λq hq=>by rw[hD];exact Lv hq
 change wT G w 1 _ _ (sortWorldK (qp us l.length) 2 w (G.mu (.arg 0)) 0 q (permA l) os)
 rw[← hD]
 obtain⟨w',hw'⟩:∃w',w'=sortWorldK (qp us l.length) 2 w (G.mu (.arg 0)) 0 q D os:=⟨_,rfl⟩
 rw[← hw']
 have gB:w.grownBy w' (some (G.mu (.arg 0))):=by
  rw[hw'];unfold sortWorldK putRowK;refine⟨rfl,rfl,rfl,by simp,λk hk hne=> ?_⟩;rw[heap_grow_old _ _ (by simpa using hk)];have:G.mu (.arg 0)≠k:=λe=>hne (by rw[e])
  simp[putRow,mapBlock,Sort.ahead,Array.getElem?_modify,this]
 have hblk:w'.heap[G.mu (.arg 0)]?=some (.cells (putCells id 0 (flatK (qp us l.length) 2 D) us) ty fr):=by
  rw[hw'];unfold sortWorldK putRowK;rw[heap_grow_old _ _ (by simpa using hw.lt _ hd)];simp only[putRow,mapBlock,Sort.ahead,Array.getElem?_modify,if_true,hh,Option.map_some,onCells]
 have hcs:(putCells id 0 (flatK (qp us l.length) 2 D) us).size=us.size:=by simp[putCells]
 refine⟨_,G,rfl,⟨.refl G,⟨λb o v hf=> ?_,hw.inj,λk d=>Nat.lt_of_lt_of_le (hw.lt k d) gB.size⟩,λ_ _ h=>absurd trivial h,λb hlt hn=>⟨gB.block b hlt λe=>hn _ trivial hd (Gh.iD ha (by decide)) (Option.some.inj e).symm,λ_=>rfl⟩,λ_ d=>.inl d,λk d=>.inl ⟨k,d,rfl,.inl rfl⟩,gB.size,gB.os,gB.tape,gB.output⟩,rfl,λi o ho=> ?_,λ_ _ h=>by simp at h, ?_⟩
 ·obtain⟨us',t',f',h1,h2⟩:=hw.F b o v hf;have hb:b≠G.mu (.arg 0):=λe=>by
   subst e;rw[hF o (.inl rfl)] at hf;cases hf
  exact⟨us',t',f',by rw[gB.block b (Array.getElem?_eq_some_iff.1 h1).1 λe=>hb (Option.some.inj e)];exact h1,h2⟩
 ·match i,ho with
  | 0,ho=>
    simp at ho;subst ho
    refine⟨hd,by decide,cap,_,ty,fr,by rw[hn2];exact ha,hblk,⟨λo ho=>o6 o (by rw[hcs] at ho;exact ho),hty⟩,by rw[hcs];exact hsz,by rw[hn2,hcs];exact hcl, ?_,λo _=>hF o (.inl rfl)⟩
    rw[hn2]
    have hlq:(putCells id 0 (flatK (qp us l.length) 2 D) us).toList.length=us.size:=(Array.length_toList (xs:=putCells id 0 (flatK (qp us l.length) 2 D) us)).trans hcs
    refine⟨by rw[List.length_take,hlq,hn2];omega,λj c v hc hv=> ?_⟩
    rw[List.getElem?_map,Option.map_eq_some_iff] at hc
    obtain⟨c,hc,rfl⟩:=hc
    have hj:j<l.length*2:=by rw[← hn2,List.length_map];exact(List.getElem?_eq_some_iff.1 hc).1
    rw[List.getElem?_take_of_lt hj,Array.getElem?_toList] at hv
    have hju:j<us.size:=by omega
    have hv2:v=(flatK (qp us l.length) 2 D)[j]!:=by
      simp only[putCells,Array.getElem?_mapIdx,Array.getElem?_eq_getElem hju,Option.map_some,size_flatK,hDs,Nat.zero_le,true_and,Nat.zero_add,if_pos hj,Option.some.injEq,Nat.sub_zero,id] at hv
      exact hv.symm
    have h3:=ae1 D hDs hDl j hj
    rw[wO _ hu2,z8 (by omega),← hD] at hc
    have eE:(flat l)[D[j / 2]! *2+j % 2]?=some c:=by
      rw[wO l hu,show(D[j / 2]! *2+j % 2)/ 2=D[j / 2]! by omega,show(D[j / 2]! *2+j % 2) % 2=j % 2 by omega]
      exact hc
    obtain⟨v',h4,h5⟩:=hcell _ _ eE
    rw[h3] at h4
    cases h4
    rw[hv2]
    exact .t _ _ h5
 ·exact .t _ _ (.cT [] [] rfl (by simp))
end Go.Proofs.YtnfnihgmankidaaGreatDoor.w
namespace Go.Proofs.YtnfnihgmankidaaGreatDoor.w.e
open Go Go.Abs
set_option maxRecDepth 100000
set_option maxHeartbeats 2000000
noncomputable section
theorem VU {l:List Tree}{i:Nat}{p:Tree->List Tree}{x:Tree}(he:l[i]?=some x)(h:∀e∈l.take i,¬gH p (fK e) (cF e))(hx:¬gH p (fK x) (cF x)):∀e∈l.take (i+1),¬gH p (fK e) (cF e):=λe hm=>by
 rw[jU he] at hm;rcases List.mem_append.1 hm with hm|hm
 ·exact h e hm
 ·rw[List.mem_singleton.1 hm];exact hx
theorem Lw {x:Tree}:∀{es:List (TV×TV×Nat)} {i:Nat},fH es x i=none->∀e∈es,e.1≠ .t x
 | [],_,_=>λe he=>by cases he
 | (k,v,b)::r,i,h=>λe he=>by
   unfold fH at h
   split at h
   · cases h
   · rename_i hk
     rcases List.mem_cons.1 he with rfl|he
     · exact hk
     · exact Lw h e he
def KN (es:List (TV×TV×Nat))(L:List Tree):Prop:=∃ks:List Tree,es.map (λe=>e.1)=ks.map TV.t/\ks.Nodup/\∀y,y∈ks↔y∈L.map cF
theorem KN.nil:KN [] []:=⟨[],rfl,List.nodup_nil,λy=>by simp⟩
theorem KN.step {es:List (TV×TV×Nat)}{l:List Tree}{i c:Nat}{e x:Tree}{v:Int}(h:KN es (l.take i))(hk:KM aZ es)(he:l[i]?=some e)(hx:cF e=x):KN (kN es c x v) (l.take (i+1)):=by
 obtain⟨ks,h1,h2,h3⟩:=h;have hm:∀y,y∈(l.take (i+1)).map cF↔y∈(l.take i).map cF\/y=x:=λy=>by
  rw[jU he,List.map_append,List.mem_append,List.map_singleton,List.mem_singleton,hx]
 unfold kN;split
 ·rename_i j w b hf;obtain⟨_,h4,_⟩:=tv hk 0 j w b hf;rw[Nat.sub_zero] at h4;have h5:(es.map λe=>e.1)[j]?=some (.t x):=by rw[List.getElem?_map,h4];rfl
  have hxk:x∈ks:=by
   rw[h1,List.getElem?_map] at h5;obtain⟨z,hz,e2⟩:=Option.map_eq_some_iff.1 h5;cases e2;exact cg hz
  refine⟨ks, ?_,h2,λy=> ?_⟩
  ·rw[ List.map_set,← h1];apply List.ext_getElem?;intro q;rw[List.getElem?_set];split
   ·rename_i e3;subst e3;split
    ·exact h5.symm
    ·rename_i h6;exact absurd (List.getElem?_eq_some_iff.1 h5).1 h6
   ·rfl
  ·rw[hm,← h3];exact⟨.inl,λq=>q.elim id λq=>q▸hxk⟩
 ·rename_i hf;have hxk:x∉ks:=λq=>by
   have h6:TV.t x∈es.map λe=>e.1:=by rw[h1];exact List.mem_map_of_mem q
   obtain⟨z,hz,e2⟩:=List.mem_map.1 h6;exact Lw hf z hz e2
  refine⟨ks++[x], ?_, ?_,λy=> ?_⟩
  ·rw[List.map_append,List.map_append,h1];rfl
  ·rw[List.nodup_append];exact⟨h2,by simp,λa ha b hb=>by rw[List.mem_singleton.1 hb];exactλq=>hxk (q▸ha)⟩
  ·rw[hm,← h3,List.mem_append,List.mem_singleton]
theorem KN.lt {es:List (TV×TV×Nat)}{l:List Tree}(h:KN es l):es.length<l.length↔¬(l.map cF).Nodup:=by
 obtain⟨ks,h1,h2,h3⟩:=h;have h4:es.length=ks.length:=by simpa using congrArg List.length h1
 have h5:=Na h2 h3;rw[List.length_map] at h5;rw[h4];exact h5
inductive mq (m:Int)(l:List Tree):Int->Prop
 |many:64<l.length->mq m l 2
 |bad {i:Nat} {e:Tree} {r:Int}:l.length<=64->l[i]?=some e->(∀x∈l.take i,IW m x=0)->IW m e=r->r≠0->mq m l r
 |PA:l.length<=64->(∀x∈l,IW m x=0)->¬(l.map cF).Nodup->mq m l 10
 |order:l.length<=64->(∀x∈l,IW m x=0)->(l.map cF).Nodup->¬yg l->mq m l 5
 |cycle:l.length<=64->(∀x∈l,IW m x=0)->(l.map cF).Nodup->yg l->(∃e∈l,gH (ic (fL m) l) (fK e) (cF e))->mq m l 12
 |ok:l.length<=64->(∀x∈l,IW m x=0)->(l.map cF).Nodup->yg l->(∀e∈l,¬gH (ic (fL m) l) (fK e) (cF e))->mq m l 0
theorem sw (m:Int):∃F:Tree->Int,∀x,(T .ai x)->R1 (cf m) 23 x (.int .i64 (F x))/\(mq m (gM x) (F x)):=by
 refine Ie (P:=λx=>T .ai x) (mk:=λ(r:Int)=>.int .i64 r) (Post:=λx r=>mq m (gM x) r) λx hx=> ?_
 show ∃r:{r:Int // mq m (gM x) r},aq (cf m) 23 [.t x] [] (.ret (.t (.int .i64 r.1)) [] []);have bR:=hx;obtain⟨v_1,rfl,jQ,gC⟩:=T.cQ bR;obtain⟨ab0,ae4⟩:=Vb m;obtain⟨aad,aae⟩:=VH m;obtain⟨VV,ae5⟩:=YM m;obtain⟨La,Lb⟩:=K9 m;obtain⟨ev,aC,aiC,aaf,ae6,En⟩:∃ev,aF (cf m) ev/\Has ev 28 (BD (λx=>T .aU x) (λx=>.int .i64 (ab0 x)))/\Has ev 43 (zf (λx y=>T .ai x/\y=.fn (.func 44)) (λx y=>.bool (aad x y)))/\Has ev 35 (zf (λx y=>(T .ai x/\Ew x)/\(T .bn y/\(gM y).length<=16)) (λx y=>.sl (VV x y)))/\Has ev 45 (zf (λx y=>T .bn x/\T .au y) (λx y=>.bool (La x y))):=⟨_,(aB (gA (λx h=>(ae4 x h).1)) (aB (fB (λx y h=>(aae x y h).1)) (aB (fB (λx y h=>(ae5 x y h).1)) (aB (fB (λx y h=>(Lb x y h).1)) aM)))),aD,(aA rfl aD),(aA rfl (aA rfl aD)),(aA rfl (aA rfl (aA rfl aD)))⟩;refine AX.start 54 1 Tryz.func23 rfl (by decide) rfl rfl (by decide) ?_;refine AX.frames ?_;rcases bg (decide (((v_1.length:Nat):Int)>64)) with eE|eE
 ·have qY:=of_decide_eq_true eE;refine⟨⟨2, ?_⟩,kf ah [oB eE]⟩;exact mq.many (by show 64<List.length v_1;omega)
 ·have qY:=of_decide_eq_false eE;refine kl (α:=Nat×List (TV×TV×Nat)×Nat) ah 0 [] 54 1 [.loc [4]] [.loc [4]] [0,3,13,14,15] (λx=>⟨dU 54 [(0,.t (.sl v_1)),(3,.map (.loc [0])),(13,.t (.sl v_1)),(14,.t (.int .i64 ((v_1.length:Nat):Int))),(15,.t (.int .i64 ((x.1:Nat):Int)))],[(.loc [0],.map x.2.1 x.2.2)],1⟩) (λx=>(x.1<=v_1.length)/\(∀e∈v_1.take x.1,IW m e=0)/\(KN x.2.1 (v_1.take x.1))/\(KM aZ x.2.1/\KB x.2.1 x.2.2)) (λx=>v_1.length - x.1) (⟨0,[],0⟩) (lU (Tryz.f23.body.getD .skip) 5) [oB eE,fD aZ [] 0 KM.nil] ⟨Nat.zero_le _,λe he=>(by cases he),(by rw[List.take_zero];exact .nil),KM.nil,KB.nil⟩ (λx hok=> ?_);obtain⟨xE,br,bG⟩:=x;replace hok:(xE<=v_1.length)/\(∀e∈v_1.take xE,IW m e=0)/\(KN br (v_1.take xE))/\(KM aZ br/\KB br bG):=hok;obtain⟨ia,cL,gF,eL⟩:=hok;rcases bg (decide (((xE:Nat):Int)<((v_1.length:Nat):Int))) with gK|gK
  ·have vG:=of_decide_eq_true gK;obtain⟨e5,rW⟩:=fR v_1 xE;have vO:=(gC e5 (cg rW));obtain⟨bT,dA,gQ,dW,gR,gT,gU,gW,dH,dX,rfl,Ea,Eb,Nc,Nd,Nf,Ng,VA,VB,VC,VD⟩:=T.bw vO;have Ym:=(ae4 (.agg [.str bT,.str dA,.sl gQ,.int .u8 dW,.bool gR,.int .i64 gT,.str gU,.str gW,.sl dH,.sl dX]) vO).2;have ae7:=iA aiC (x:=.agg [.str bT,.str dA,.sl gQ,.int .u8 dW,.bool gR,.int .i64 gT,.str gU,.str gW,.sl dH,.sl dX]) vO;rcases bg (((ab0 (.agg [.str bT,.str dA,.sl gQ,.int .u8 dW,.bool gR,.int .i64 gT,.str gU,.str gW,.sl dH,.sl dX])) != 0)) with k5|k5
   ·have AP:=dS k5;refine kx ah [oB gK,oE rW,oC ae7,oB k5] ?_;refine⟨⟨(ab0 (.agg [.str bT,.str dA,.sl gQ,.int .u8 dW,.bool gR,.int .i64 gT,.str gU,.str gW,.sl dH,.sl dX])), ?_⟩,kf ah []⟩;exact mq.bad (by show List.length v_1<=64;omega) rW cL Ym.2.symm (bne_iff_ne.1 k5)
   ·have AP:=bp k5;exact⟨.inl ⟨⟨xE+1,(kN br bG (.agg [.str bT,.str dA]) (IntKind.wrap .i64 ((iq br (.agg [.str bT,.str dA]))+1))),(rR br bG (.agg [.str bT,.str dA]))⟩,⟨⟨(by show(xE+1)<=v_1.length;omega),(AL rW (Ym.2.symm.trans (bp k5)) cL),(gF.step eL.1 rW rfl),⟨(iw eL.1 ⟨_,_,rfl⟩ _ _),(KB.up eL.2 eL.1 _ _)⟩⟩,(by show(v_1.length - (xE+1))<(v_1.length - xE);omega)⟩⟩,kr ah 54 1 [.loc [0]] [0,3,13,14,15] [oB gK,oE rW,oC ae7,oB k5,oO (vC (P:=(cf m).P) (es:=br) (x:=(.agg [.str bT,.str dA])) B4 rfl yq R7 rfl uw eL.1 ⟨_,_,rfl⟩),oZ,oJ (Ct (P:=(cf m).P) (es:=br) (x:=(.agg [.str bT,.str dA])) B4 rfl yq R7 rfl uw eL.1 ⟨_,_,rfl⟩ bG),oM (Cu (x:=(.agg [.str bT,.str dA])) eL.1 eL.2 (iq br (.agg [.str bT,.str dA])) (IntKind.wrap .i64 ((iq br (.agg [.str bT,.str dA]))+1))),oP (wE (P:=(cf m).P) (es:=br) (x:=(.agg [.str bT,.str dA])) B4 rfl yq R7 rfl uw eL.1 ⟨_,_,rfl⟩ bG),oI (xE) (by omega),fD aZ (kN br bG (.agg [.str bT,.str dA]) (IntKind.wrap .i64 ((iq br (.agg [.str bT,.str dA]))+1))) (rR br bG (.agg [.str bT,.str dA])) (iw eL.1 ⟨_,_,rfl⟩ _ _)]⟩
  ·have vG:=of_decide_eq_false gK;refine kx ah [oB gK] ?_;rcases bg (decide (((br.length:Nat):Int)<((v_1.length:Nat):Int))) with xD|xD
   ·have abB:=of_decide_eq_true xD;refine⟨⟨10, ?_⟩,kf ah [oB xD]⟩;exact mq.PA (by show List.length v_1<=64;omega) (nI (l:=v_1) (by omega) cL) ((show KN _ v_1 from(by have h9:=gF;rw[List.take_of_length_le (by omega)] at h9;exact h9)).lt.1 (by omega))
   ·have abB:=of_decide_eq_false xD;have VW:=(aae (.sl v_1) (.fn (.func 44)) ⟨bR,rfl⟩).2;rcases bg ((!(aad (.sl v_1) (.fn (.func 44))))) with FB|FB
    ·refine⟨⟨5, ?_⟩,kf ah [oB xD,oC (dM aaf (x:=.sl v_1) (y:=.fn (.func 44)) ⟨bR,rfl⟩),oB FB]⟩;exact mq.order (by show List.length v_1<=64;omega) (nI (l:=v_1) (by omega) cL) (Classical.byContradiction (λg=>absurd ((show KN _ v_1 from(by have h9:=gF;rw[List.take_of_length_le (by omega)] at h9;exact h9)).lt.2 g) (by omega))) (λh=>absurd (VW.2 h) (by rw[(zc FB)];decide))
    ·have hall:=nI (by omega) cL;have hrow:Ew (.sl v_1):=⟨by show List.length v_1<=64;omega,λe he=>(IY m (gC e he) (hall e he)).1⟩;refine kl (α:=Nat) ah 0 [] 54 0 [] [] [0,40,41,42] (λx=>⟨dU 54 [(0,.t (.sl v_1)),(40,.t (.sl v_1)),(41,.t (.int .i64 ((v_1.length:Nat):Int))),(42,.t (.int .i64 ((x:Nat):Int)))],[],0⟩) (λx=>(x<=v_1.length)/\(∀e∈v_1.take x,¬gH (ic (fL m) v_1) (fK e) (cF e))) (λx=>v_1.length - x) 0 (lU (Tryz.f23.body.getD .skip) 17) [oB xD,oC (dM aaf (x:=.sl v_1) (y:=.fn (.func 44)) ⟨bR,rfl⟩),oB FB] ⟨Nat.zero_le _,λe he=>by simp at he⟩ (λx hok=> ?_);obtain⟨qg,uH⟩:∃y,y=x:=⟨x,rfl⟩;subst uH;replace hok:(qg<=v_1.length)/\(∀e∈v_1.take qg,¬gH (ic (fL m) v_1) (fK e) (cF e)):=hok;obtain⟨Ef,Lx⟩:=hok;rcases bg (decide (((qg:Nat):Int)<((v_1.length:Nat):Int))) with A3|A3
     ·have VX:=of_decide_eq_true A3;obtain⟨e14,o5⟩:=fR v_1 qg;have GQ:=(gC e14 (cg o5));obtain⟨qL,wP,kW,Xe,ab1,ab2,ab3,ab4,VY,Xf,rfl,YP,YQ,agF,I7,agG,agH,agI,agJ,agK,agL⟩:=T.bw GQ;have tY:=(ae5 (.sl v_1) (.sl kW) ⟨⟨bR,hrow⟩,⟨(.bn _ bJ I7),hrow.2 _ (cg o5)⟩⟩).2;have akl:=tY.2;have ae8:=(Lb (.sl (VV (.sl v_1) (.sl kW))) (.agg [.str qL,.str wP]) ⟨(.bn _ bJ tY.1),(.au _ _ bJ bJ)⟩).2;rcases bg ((La (.sl (VV (.sl v_1) (.sl kW))) (.agg [.str qL,.str wP]))) with tV|tV
      ·refine kx ah [oB A3,oE o5,oC (dM ae6 (x:=.sl v_1) (y:=.sl kW) ⟨⟨bR,hrow⟩,⟨(.bn _ bJ I7),hrow.2 _ (cg o5)⟩⟩),oC (dM En (x:=.sl (VV (.sl v_1) (.sl kW))) (y:=.agg [.str qL,.str wP]) ⟨(.bn _ bJ tY.1),(.au _ _ bJ bJ)⟩),oB tV] ?_;refine⟨⟨12, ?_⟩,kf ah []⟩;exact mq.cycle (by show List.length v_1<=64;omega) (nI (l:=v_1) (by omega) cL) (Classical.byContradiction (λg=>absurd ((show KN _ v_1 from(by have h9:=gF;rw[List.take_of_length_le (by omega)] at h9;exact h9)).lt.2 g) (by omega))) (VW.1 (vz FB)) ⟨_,cg o5,(tY.2.2.1 _).1 (ae8.1 tV)⟩
      ·exact⟨.inl ⟨qg+1,⟨⟨(by show(qg+1)<=v_1.length;omega),(VU o5 Lx (λh=>absurd (ae8.2 ((tY.2.2.1 _).2 h)) (by rw[tV];decide)))⟩,(by show(v_1.length - (qg+1))<(v_1.length - qg);omega)⟩⟩,kr ah 54 0 [] [0,40,41,42] [oB A3,oE o5,oC (dM ae6 (x:=.sl v_1) (y:=.sl kW) ⟨⟨bR,hrow⟩,⟨(.bn _ bJ I7),hrow.2 _ (cg o5)⟩⟩),oC (dM En (x:=.sl (VV (.sl v_1) (.sl kW))) (y:=.agg [.str qL,.str wP]) ⟨(.bn _ bJ tY.1),(.au _ _ bJ bJ)⟩),oB tV,oI (qg) (by omega)]⟩
     ·have VX:=of_decide_eq_false A3;refine kx ah [oB A3] ?_;refine⟨⟨0, ?_⟩,kf ah []⟩;exact mq.ok (by show List.length v_1<=64;omega) (nI (l:=v_1) (by omega) cL) (Classical.byContradiction (λg=>absurd ((show KN _ v_1 from(by have h9:=gF;rw[List.take_of_length_le (by omega)] at h9;exact h9)).lt.2 g) (by omega))) (VW.1 (vz FB)) (nI (l:=v_1) (by omega) Lx)
def j4 (m:Int):Tree->Int:=Classical.choose (sw m)
theorem Ez (m:Int):∃F:Tree->Int,∀x,(T .ai x)->R1 (cf m) 23 x (.int .i64 (F x))/\((mq m (gM x) (F x))/\F x=j4 m x):=⟨j4 m,λx h=>⟨(Classical.choose_spec (sw m) x h).1,(Classical.choose_spec (sw m) x h).2,rfl⟩⟩
theorem ab5 {e:Tree}(h:T .aU e):∃s t,cF e=.agg [.str s,.str t]:=by
 obtain⟨a,b,ps,k,b2,n,s,t,ns,l,rfl,_⟩:=T.bw h;exact⟨a,b,rfl⟩
theorem mq.zero {m:Int}{l:List Tree}{r:Int}(h:mq m l r)(h0:r=0):l.length<=64/\(∀x∈l,IW m x=0)/\(l.map cF).Nodup/\yg l/\∀e∈l,¬gH (ic (fL m) l) (fK e) (cF e):=by
 cases h with
 |many=>exact absurd h0 (by decide)
 |bad _ _ _ _ h=>exact absurd h0 h
 |PA=>exact absurd h0 (by decide)
 |order=>exact absurd h0 (by decide)
 |cycle=>exact absurd h0 (by decide)
 |ok a b c d e=>exact⟨a,b,c,d,e⟩
theorem wQ (m:Int){l:List Tree}(h:T .ai (.sl l)):mq m l (j4 m (.sl l)):=(Classical.choose_spec (sw m) _ h).2
theorem I8 (m:Int){l:List Tree}(h:T .ai (.sl l))(h0:j4 m (.sl l)=0):(∀x∈l,IW m x=0)/\ov l/\∀e∈l,¬gH (ic (fL m) l) (fK e) (cF e):=by
 obtain⟨h1,h2,h3,h4,h5⟩:=(wQ m h).zero h0;obtain⟨l',e,_,hl⟩:=T.cQ h;cases e;exact⟨h2,h4.ah1 h3 (λe he=>ab5 (hl e he)),h5⟩
end
end Go.Proofs.YtnfnihgmankidaaGreatDoor.w.e
namespace Go.Proofs.YtnfnihgmankidaaGreatDoor.w.e
open Go Go.Abs
set_option maxRecDepth 100000
set_option maxHeartbeats 2000000
noncomputable section
open Classical in
def pcU (P:Tree->Tree->Prop)(F:Tree->Tree->List Tree):List TV->List aK->Option bB:=λvb os=>match vb,os with
 | [.t x,.t y],[]=>if P x y then some (upR (.loc [0]) (F x y)) else none
 |_,_=>none
theorem ab6 {C:cE}{g:FuncId}{P:Tree->Tree->Prop}{F:Tree->Tree->List Tree}(h:∀x y,P x y->aq C g [.t x,.t y] [] (upR (.loc [0]) (F x y))):ku C g (pcU P F):=λa o q hq=>by
 unfold pcU at hq;split at hq
 ·split at hq
  ·rename_i hp;cases hq;exact h _ _ hp
  ·cases hq
 ·cases hq
theorem ae9 {ev:aT}{g:FuncId}{P:Tree->Tree->Prop}{F:Tree->Tree->List Tree}(h:Has ev g (pcU P F)){x y:Tree}(hp:P x y):ev g [.t x,.t y] []=some (upR (.loc [0]) (F x y)):=h _ _ _ (if_pos hp)
def UpP (x y:Tree):Prop:=(T .ai x/\Ew x)/\(T .bn y/\(gM y).length<=16)/\gM y≠ []
theorem VZ (m:Int):∃F:Tree->Tree->List Tree,∀x y,UpP x y->aq (cf m) 35 [.t x,.t y] [] (upR (.loc [0]) (F x y))/\((∀u∈F x y,T .au u)/\(F x y).length<=1040/\(∀v,v∈F x y↔gH (ic (fL m) (gM x)) (gM y) v)/\(F x y).Nodup):=by
 obtain⟨F,hF⟩:=cD (α:=Tree×Tree) (P:=λp=>UpP p.1 p.2) (Q:=λp (r:List Tree)=>aq (cf m) 35 [.t p.1,.t p.2] [] (upR (.loc [0]) r)/\((∀u∈r,T .au u)/\r.length<=1040/\(∀v,v∈r↔gH (ic (fL m) (gM p.1)) (gM p.2) v)/\r.Nodup)) λp hp=>by
  obtain⟨x,y⟩:=p;obtain⟨⟨hx,hr⟩,⟨hy,hs⟩,hne⟩:=hp;obtain⟨l,rfl,hl,hl2⟩:=T.cQ hx;obtain⟨sm,rfl,Hl,hs2⟩:=T.k4 hy;have aiy:sm.length<=16:=hs;have hU:(sm++l.flatMap fK).length<=1040:=by
   have:=Lu (l:=l) hr.2;have aix:l.length<=64:=hr.1;rw[List.length_append];omega
  obtain⟨⟨r,h1,h2,h4⟩,h3⟩:=aiz m l sm (sm++l.flatMap fK) hl hl2 Hl hs2 hne (λy hy=>List.mem_append_left _ hy) (λe he y hy=>List.mem_append_right _ (List.mem_flatMap.2 ⟨e,he,hy⟩)) (by omega);exact⟨r,h3,h1,by omega,h4⟩
 exact⟨λx y=>F (x,y),λx y h=>hF (x,y) h⟩
theorem NP {l:List Tree}{x:Tree}(h:x∈l):x∈mh l:=by
 obtain⟨i,hi,rfl⟩:=List.getElem_of_mem h;exact List.mem_map.2 ⟨i,(tW l).mem_iff.2 (List.mem_range.2 hi),by simp[List.getElem?_eq_getElem hi]⟩
def ES (L:List Tree):List TV×List aK:=([.ref (.arg 0) 0 L.length,.t (.fn (.func 37))],[.arr (24,true) 2 false ((flat L).map .t)])
def GS (L:List Tree):Prop:=(∀y∈L,T .au y)/\L≠ []/\L.length<=4194304
def V0 (L:List Tree):bB:=.ret (.t (.cT [])) [.arr (24,true) 2 false ((flat (mh L)).map .t)] []
theorem YR:∀x y,GS x->GS y->ES x=ES y->x=y:=λx y h1 h2 h=>iI (by decide) (aO h1.1) (aO h2.1) (congrArg (DU 0) h)
theorem ab7 (m:Int)(L:List Tree)(h:GS L):aq (cf m) 36 (ES L).1 (ES L).2 (V0 L):=VQ m L h.2.2 h.2.1 λe he=>by
 obtain⟨a,b,rfl,_⟩:=T.aR (h.1 e he);exact⟨a,b,rfl⟩
theorem V1 (m:Int):aq (cf m) 36 [.t (.sl []),.t (.fn (.func 37))] [] (.ret (.t (.cT [])) [] []):=by
 intro G w vs hw hg had hH hv;obtain⟨x,y,rfl,hx,hy⟩:=hv.two;have es:∀args w,(callFunc 36 args).run Tryz.prog w=.ok (.enter 36 args) w:=enters_of Tryz.func36 (by kernel_rfl) rfl;have hx':∃a cap,x=.slice a 0 cap:=by
  cases hx with|t _ _ hx=>
  generalize hz':([]:List Tree)=l at hx;cases hx with
  |Al a cap=>exact⟨a,cap,rfl⟩
  |sl bx es b o cap vals hne hc hu hF Oz=>exact absurd hz'.symm hne
 obtain⟨a,cap,rfl⟩:=hx';refine .inl ⟨es _ _,Calls.mono (AnyF.slices_SortFunc_none Tryz.sortf36 a cap y w) ?_⟩;rintro e w' ⟨rfl,rfl⟩;exact⟨_,G,rfl,Step.refl hw _ _,rfl,λi o ho=>by simp at ho,λ_ _ h=>by simp at h,.t _ _ (.cT [] [] rfl (by simp))⟩
theorem RB:∀x o r,px [.t (.sl []),.t (.fn (.func 37))] [] (.ret (.t (.cT [])) [] []) x o=some r->iZ ES GS V0 x o=none:=λx o r hr=>by
 unfold px at hr;split at hr
 ·rename_i hp;unfold iZ;refine dif_neg λ⟨z,_,hz⟩=> ?_
  rw[hp.2] at hz;exact absurd (congrArg (λp=>p.2.length) hz) (by simp[ES])
 ·cases hr
theorem aiD {e:Tree}(h:T .au e):AtF e:=by
 obtain⟨a,b,rfl,_⟩:=T.aR h;exact⟨a,b,rfl⟩
theorem V2 (m:Int){l:List Tree}(h:T .ai (.sl l))(h0:j4 m (.sl l)=0):Ew (.sl l):=by
 obtain⟨h1,h2,_⟩:=(wQ m h).zero h0;obtain⟨l',e,_,hl⟩:=T.cQ h;cases e;exact⟨h1,λe he=>(IY m (hl e he) (h2 e he)).1⟩
def YS (m:Int)(l:List Tree)(u:Tree)(r:List Tree×Int):Prop:=(r.2=0/\j4 m (.sl l)=0/\BJ m u=0/\r.1.Nodup/\(r.1.Pairwise λa b=>mA a b<0)/\∀v,v∈r.1↔gH (ic (fL m) l) [u] v)\/(r.2≠0/\r.1=[]/\¬(j4 m (.sl l)=0/\BJ m u=0))
theorem V3 (m:Int)(l:List Tree)(hl:l.length<=4194304)(hl2:∀y∈l,T .aU y)(a b:List UInt8)(ha:a.length<=4194304)(hb:b.length<=4194304):∃r:{r:List Tree×Int //(∀y∈r.1,T .au y)/\r.1.length<=4194304/\YS m l (.agg [.str a,.str b]) r},aq (cf m) 13 [.t (.sl l),.t (.agg [.str a,.str b])] [] (.ret (.t (.cT [.sl r.1.1,.int .i64 r.1.2])) [] []):=by
 obtain⟨yz,EU⟩:=Ez m;obtain⟨Fx,K4⟩:=D5 m;obtain⟨uoF,aag⟩:=VZ m;obtain⟨ev,aC,vY,Nk,aah,aai⟩:∃ev,aF (cf m) ev/\Has ev 23 (BD (λx=>T .ai x) (λx=>.int .i64 (yz x)))/\Has ev 34 (BD (λx=>T .au x) (λx=>.int .i64 (Fx x)))/\Has ev 35 (pcU UpP uoF)/\Has ev 36 (Fu (iZ ES GS V0) (px [.t (.sl []),.t (.fn (.func 37))] [] (.ret (.t (.cT [])) [] []))):=⟨_,(aB (gA (λx h=>(EU x h).1)) (aB (gA (λx h=>(K4 x h).1)) (aB (ab6 (λx y h=>(aag x y h).1)) (aB (Cr (dP (ab7 m)) (D8 (V1 m))) aM)))),aD,(aA rfl aD),(aA rfl (aA rfl aD)),(aA rfl (aA rfl (aA rfl aD)))⟩;refine AX.start 26 2 Tryz.func13 rfl (by decide) rfl rfl (by decide) ?_;refine AX.frames ?_;have hp1:=(EU (.sl l) (.ai _ bJ hl2)).2;rcases bg (((yz (.sl l)) != 0)) with eE|eE
 ·have qY:=dS eE;refine⟨⟨([],(yz (.sl l))),λy hy=>(by cases hy),Nat.zero_le _,(.inr ⟨bne_iff_ne.1 eE,rfl,λh=>absurd (hp1.2.trans h.1) (bne_iff_ne.1 eE)⟩)⟩,ye ah 33554432 [] [oC (iA vY (x:=.sl l) (.ai _ bJ hl2)),oB eE]⟩
 ·have qY:=bp eE;have C6:=(K4 (.agg [.str a,.str b]) (.au _ _ bJ bJ)).2;rcases bg (((Fx (.agg [.str a,.str b])) != 0)) with gK|gK
  ·have vG:=dS gK;refine⟨⟨([],(Fx (.agg [.str a,.str b]))),λy hy=>(by cases hy),Nat.zero_le _,(.inr ⟨bne_iff_ne.1 gK,rfl,λh=>absurd (C6.2.trans h.2) (bne_iff_ne.1 gK)⟩)⟩,ye ah 33554432 [] [oC (iA vY (x:=.sl l) (.ai _ bJ hl2)),oB eE,oC (iA Nk (x:=.agg [.str a,.str b]) (.au _ _ bJ bJ)),oB gK]⟩
  ·have vG:=bp gK;have hrow:Ew (.sl l):=V2 m (.ai _ bJ hl2) (hp1.2.symm.trans (bp eE));have V4:UpP (.sl l) (.sl [.agg [.str a,.str b]]):=⟨⟨(.ai _ bJ hl2),hrow⟩,⟨(.bn _ bJ (gl (.au _ _ bJ bJ) (λ_ h=>absurd h (by simp)))),(by show(1:Nat)<=16;omega)⟩,by simp[gM]⟩;have uy:=(aag _ _ V4).2;rcases YT:(uoF (.sl l) (.sl [.agg [.str a,.str b]])) with _|⟨B5,B6⟩
   ·refine⟨⟨([],0),λy hy=>(by cases hy),Nat.zero_le _,(.inl ⟨rfl,(hp1.2.symm.trans (bp eE)),(C6.2.symm.trans (bp gK)),List.nodup_nil,.nil,λv=>by have h:=uy.2.2.1 v;rw[YT] at h;exact h⟩)⟩,ye ah 33554432 [] [oC (iA vY (x:=.sl l) (.ai _ bJ hl2)),oB eE,oC (iA Nk (x:=.agg [.str a,.str b]) (.au _ _ bJ bJ)),oB gK,zl 35 [.t (.sl l),.t (.sl [.agg [.str a,.str b]])] (.sl []) ((ae9 aah V4).trans (congrArg (λz=>some (upR (.loc [0]) z)) YT)),oC (KW (Cs aai RB))]⟩
   ·rw[YT] at uy;have ab8:GS (B5::B6):=⟨uy.1,by simp,by have:=uy.2.1;omega⟩;have aj4:(mh (B5::B6)).length=(B5::B6).length:=mo _;refine⟨⟨((mh (B5::B6)),0),(λy hy=>uy.1 y (pn hy)),(by show(mh _).length<=_;have:=uy.2.1;omega),(.inl ⟨rfl,(hp1.2.symm.trans (bp eE)),(C6.2.symm.trans (bp gK)),(Ey _).nodup_iff.2 uy.2.2.2,I6 uy.2.2.2 (λe he=>aiD (uy.1 e he)),λv=>⟨λh=>(uy.2.2.1 v).1 (pn h),λh=>NP ((uy.2.2.1 v).2 h)⟩⟩)⟩,ye ah 33554432 [] [oC (iA vY (x:=.sl l) (.ai _ bJ hl2)),oB eE,oC (iA Nk (x:=.agg [.str a,.str b]) (.au _ _ bJ bJ)),oB gK,oC (show ev 35 [.t (.sl l),.t (.sl [.agg [.str a,.str b]])] []=some (bB.ret (.ref (.loc [0]) 0 (B5::B6).length) [] [(.loc [0],.arr (24,true) 2 false ((flat (B5::B6)).map .t))]) from(ae9 aah V4).trans (congrArg (λz=>some (upR (.loc [0]) z)) YT)),cz 24 2 (B5::B6),cz 24 2 (B5::B6),oC (fU (wD aai) YR (B5::B6) ab8 rfl rfl),cz 24 2 (mh (B5::B6)),oX true 2 (mh (B5::B6)) ((B5::B6).length) j9 (aO (λy hy=>uy.1 y (pn hy)))]⟩
theorem LA (m:Int):∃F:Tree->Tree->List Tree×Int,∀x y,(T .ai x/\T .au y)->R2 (cf m) 13 x y (.cT [.sl (F x y).1,.int .i64 (F x y).2])/\((∀z∈(F x y).1,T .au z)/\(F x y).1.length<=4194304/\YS m (gM x) y (F x y)):=by
 refine wU (P:=λx y=>T .ai x/\T .au y) (mk:=λ(r:List Tree×Int)=>.cT [.sl r.1,.int .i64 r.2]) (Post:=λx y r=>(∀z∈r.1,T .au z)/\r.1.length<=4194304/\YS m (gM x) y r) λx y h=> ?_
 obtain⟨l,rfl,hl,hl2⟩:=T.cQ h.1;obtain⟨a,b,rfl,ha,hb⟩:=T.aR h.2;exact V3 m l hl hl2 a b ha hb
end
end Go.Proofs.YtnfnihgmankidaaGreatDoor.w.e
namespace Go.Proofs.YtnfnihgmankidaaGreatDoor.w.e
open Go Go.Abs
set_option maxRecDepth 100000
set_option maxHeartbeats 2000000
noncomputable section
abbrev aiE:TI:={size:=1,bytes:=24,agg:=false,zero:=some (.bX),desc:=.slice 32}
theorem V5 {m:Int}:(cf m).P.ty 22=some aiE:=by kernel_rfl
abbrev aiF:TI:={size:=1,bytes:=24,agg:=false,zero:=some (.bX),desc:=.slice 30}
theorem EV {m:Int}:(cf m).P.ty 28=some aiF:=by kernel_rfl
abbrev afa:TI:={size:=7,bytes:=96,agg:=true,zero:=some (.agg [.t (.int .u8 0),.t (.bool false),.t (.int .i64 0),.t (.str []),.t (.str []),.bX,.bX]),desc:=descOf 30}
theorem ab9 {m:Int}:(cf m).P.ty 30=some afa:=by kernel_rfl
abbrev afb:TI:={size:=10,bytes:=152,agg:=true,zero:=some (.agg [.t (.str []),.t (.str []),.bX,.t (.int .u8 0),.t (.bool false),.t (.int .i64 0),.t (.str []),.t (.str []),.bX,.bX]),desc:=descOf 32}
theorem acd {m:Int}:(cf m).P.ty 32=some afb:=by kernel_rfl
theorem aaj {m:Int}:Bw (cf m).P 22 32 afb:=⟨⟨_,V5,rfl⟩,acd,_,rfl,by decide,rfl,by decide⟩
theorem aak {m:Int}:Bw (cf m).P 28 30 afa:=⟨⟨_,EV,rfl⟩,ab9,_,rfl,by decide,rfl,by decide⟩
theorem A4 {m:Int}:lN (cf m).P 30 5=some 5:=by kernel_rfl
theorem A5 {m:Int}:lN (cf m).P 30 6=some 6:=by kernel_rfl
theorem tZ {l:List Tree}(h:∀y∈l,T .string y):ey false 1 l:=λy hy=>by
 obtain⟨v,rfl,_⟩:=T.iz (h y hy);exact⟨rfl,rfl,rfl⟩
theorem dB {l:List Tree}(h:∀y∈l,T .aY y):ey true 7 l:=λy hy=>by
 obtain⟨kind,b_,n,s,t_,names,list,rfl,_,_,_,_,_,_⟩:=T.dL (h y hy);exact⟨rfl,rfl,rfl⟩
theorem PB {m:Int}{ev:aT}(aC:aF (cf m) ev):aq (cf m) 111 [.t (.sl [])] [] (.ret (.t (.sl [])) [] []):=by
 refine jT 8 1 Tryz.func111 rfl (by decide) rfl rfl (by decide) ?_;refine AW.seq ?_;refine AW.region ?_;refine dY.go (f:=0) aC (by first|exact dD rfl|exact az rfl) ?_;refine dY.nil ?_;refine AW.seq ?_;refine AW.seq ?_;refine AW.region ?_;refine dY.go (f:=0) aC (by first|exact iB rfl|exact av rfl) ?_;refine dY.J4 rfl rfl qW rfl (λb hb=> ?_);refine dY.nil ?_;refine AW.cond rfl (λh4=> ?_) (λh4=> ?_)
 ·refine AW.seq ?_;refine AW.region ?_;refine dY.go (f:=0) aC (by first|exact dD rfl|exact az rfl) ?_;refine dY.nil ?_;refine AW.ret ?_;exact .inl rfl
 ·refine AW.skip ?_;refine AW.seq ?_;refine AW.region ?_;refine dY.go (f:=0) aC (vk rfl qW rfl nN rfl rfl) ?_;refine dY.go (f:=0) aC (by first|exact iB rfl|exact av rfl) ?_;refine dY.go (f:=0) aC (H7 ZL rfl rfl (.inl (.inl rfl)) (.inr (.inr ⟨_,rfl⟩))) ?_;refine dY.go (f:=0) aC (by first|exact dD rfl|exact az rfl) ?_;refine dY.nil ?_;refine AW.ret ?_;exact .inl rfl
theorem YU {m:Int}{ev:aT}(aC:aF (cf m) ev)(es:List Tree)(hne:es≠ [])(hu:ey false 1 es)(hl:es.length<=4194304):
 aq (cf m) 111 [.t (.sl es)] [] (.ret (.ref (.loc [5]) 0 es.length) [] [(.loc [5],.arr (9,false) 1 false ((flat es).map .t))]):=by
 refine jT 8 1 Tryz.func111 rfl (by decide) rfl rfl (by decide) ?_
 refine AW.seq ?_
 refine AW.region ?_
 refine dY.go (f:=0) aC (by first|exact dD rfl|exact az rfl) ?_
 refine dY.nil ?_
 refine AW.seq ?_
 refine AW.seq ?_
 refine AW.region ?_
 refine dY.go (f:=0) aC (by first|exact iB rfl|exact av rfl) ?_
 refine dY.J4 rfl rfl qW rfl (λb hb=> ?_)
 have hb:=hb hne
 subst hb
 refine dY.nil ?_
 refine AW.cond rfl (λh=>absurd h (by decide)) (λh=> ?_)
 refine AW.skip ?_
 refine AW.seq ?_
 refine AW.region ?_
 refine dY.go (f:=0) aC (vk rfl qW rfl nN rfl rfl) ?_
 refine dY.go (f:=0) aC (by first|exact iB rfl|exact av rfl) ?_
 refine dY.go (f:=0) aC (H6 ZL rfl rfl (.inl rfl) hu hne (by show es.length*16<=70368744177664;omega)) ?_
 refine dY.go (f:=0) aC (by first|exact dD rfl|exact az rfl) ?_
 refine dY.nil ?_
 refine AW.ret ?_
 exact .inr (Ci rfl rfl rfl)
def qM:List TV->List aK->Option bB:=λas' os=>match as',os with
 | [.t (.sl [])],[]=>some (.ret (.t (.sl [])) [] [])
 | [.t (.sl (e::es))],[]=> @ite _ (ey false 1 (e::es)/\(e::es).length<=4194304) (Classical.propDecidable _) (some (.ret (.ref (.loc [5]) 0 (e::es).length) [] [(.loc [5],.arr (9,false) 1 false ((flat (e::es)).map .t))])) none
 |_,_=>none
theorem ua (m:Int):ku (cf m) 111 qM:=λargs aQ r h=>by
 unfold qM at h;split at h
 ·cases h;exact PB aM
 ·split at h
  ·rename_i hc;cases h;exact YU aM _ (by simp) hc.1 hc.2
  ·cases h
 ·cases h
theorem EW {ev:aT}(h:Has ev 111 qM){es:List Tree}(hne:es≠ [])(hu:ey false 1 es)(hl:es.length<=4194304):ev 111 [.t (.sl es)] []=some (.ret (.ref (.loc [5]) 0 es.length) [] [(.loc [5],.arr (9,false) 1 false ((flat es).map .t))]):=by
 cases es with
 |nil=>exact absurd rfl hne
 |cons e es=>exact h _ _ _ (by unfold qM;exact if_pos ⟨hu,hl⟩)
theorem LB {m:Int}{ev:aT}(aC:aF (cf m) ev):aq (cf m) 112 [.t (.sl [])] [] (.ret (.t (.sl [])) [] []):=by
 refine jT 8 1 Tryz.func112 rfl (by decide) rfl rfl (by decide) ?_;refine AW.seq ?_;refine AW.region ?_;refine dY.go (f:=0) aC (by first|exact dD rfl|exact az rfl) ?_;refine dY.nil ?_;refine AW.seq ?_;refine AW.seq ?_;refine AW.region ?_;refine dY.go (f:=0) aC (by first|exact iB rfl|exact av rfl) ?_;refine dY.J4 rfl rfl EV rfl (λb hb=> ?_);refine dY.nil ?_;refine AW.cond rfl (λh4=> ?_) (λh4=> ?_)
 ·refine AW.seq ?_;refine AW.region ?_;refine dY.go (f:=0) aC (by first|exact dD rfl|exact az rfl) ?_;refine dY.nil ?_;refine AW.ret ?_;exact .inl rfl
 ·refine AW.skip ?_;refine AW.seq ?_;refine AW.region ?_;refine dY.go (f:=0) aC (vk rfl EV rfl ab9 rfl rfl) ?_;refine dY.go (f:=0) aC (by first|exact iB rfl|exact av rfl) ?_;refine dY.go (f:=0) aC (H7 aak rfl rfl (.inl (.inl rfl)) (.inr (.inr ⟨_,rfl⟩))) ?_;refine dY.go (f:=0) aC (by first|exact dD rfl|exact az rfl) ?_;refine dY.nil ?_;refine AW.ret ?_;exact .inl rfl
theorem V6 {m:Int}{ev:aT}(aC:aF (cf m) ev)(es:List Tree)(hne:es≠ [])(hu:ey true 7 es)(hl:es.length<=4194304):
 aq (cf m) 112 [.t (.sl es)] [] (.ret (.ref (.loc [5]) 0 es.length) [] [(.loc [5],.arr (30,true) 7 false ((flat es).map .t))]):=by
 refine jT 8 1 Tryz.func112 rfl (by decide) rfl rfl (by decide) ?_
 refine AW.seq ?_
 refine AW.region ?_
 refine dY.go (f:=0) aC (by first|exact dD rfl|exact az rfl) ?_
 refine dY.nil ?_
 refine AW.seq ?_
 refine AW.seq ?_
 refine AW.region ?_
 refine dY.go (f:=0) aC (by first|exact iB rfl|exact av rfl) ?_
 refine dY.J4 rfl rfl EV rfl (λb hb=> ?_)
 have hb:=hb hne
 subst hb
 refine dY.nil ?_
 refine AW.cond rfl (λh=>absurd h (by decide)) (λh=> ?_)
 refine AW.skip ?_
 refine AW.seq ?_
 refine AW.region ?_
 refine dY.go (f:=0) aC (vk rfl EV rfl ab9 rfl rfl) ?_
 refine dY.go (f:=0) aC (by first|exact iB rfl|exact av rfl) ?_
 refine dY.go (f:=0) aC (H6 aak rfl rfl (.inl rfl) hu hne (by show es.length*96<=70368744177664;omega)) ?_
 refine dY.go (f:=0) aC (by first|exact dD rfl|exact az rfl) ?_
 refine dY.nil ?_
 refine AW.ret ?_
 exact .inr (Ci rfl rfl rfl)
def nM:List TV->List aK->Option bB:=λas' os=>match as',os with
 | [.t (.sl [])],[]=>some (.ret (.t (.sl [])) [] [])
 | [.t (.sl (e::es))],[]=> @ite _ (ey true 7 (e::es)/\(e::es).length<=4194304) (Classical.propDecidable _) (some (.ret (.ref (.loc [5]) 0 (e::es).length) [] [(.loc [5],.arr (30,true) 7 false ((flat (e::es)).map .t))])) none
 |_,_=>none
theorem qN (m:Int):ku (cf m) 112 nM:=λargs aQ r h=>by
 unfold nM at h;split at h
 ·cases h;exact LB aM
 ·split at h
  ·rename_i hc;cases h;exact V6 aM _ (by simp) hc.1 hc.2
  ·cases h
 ·cases h
theorem BP {ev:aT}(h:Has ev 112 nM){es:List Tree}(hne:es≠ [])(hu:ey true 7 es)(hl:es.length<=4194304):ev 112 [.t (.sl es)] []=some (.ret (.ref (.loc [5]) 0 es.length) [] [(.loc [5],.arr (30,true) 7 false ((flat es).map .t))]):=by
 cases es with
 |nil=>exact absurd rfl hne
 |cons e es=>exact h _ _ _ (by unfold nM;exact if_pos ⟨hu,hl⟩)
theorem LC {m:Int}{ev:aT}(aC:aF (cf m) ev):aq (cf m) 70 [.t (.sl [])] [] (.ret (.t (.sl [])) [] []):=by
 refine jT 8 1 Tryz.func70 rfl (by decide) rfl rfl (by decide) ?_;refine AW.seq ?_;refine AW.region ?_;refine dY.go (f:=0) aC (by first|exact dD rfl|exact az rfl) ?_;refine dY.nil ?_;refine AW.seq ?_;refine AW.seq ?_;refine AW.region ?_;refine dY.go (f:=0) aC (by first|exact iB rfl|exact av rfl) ?_;refine dY.J4 rfl rfl V5 rfl (λb hb=> ?_);refine dY.nil ?_;refine AW.cond rfl (λh4=> ?_) (λh4=> ?_)
 ·refine AW.seq ?_;refine AW.region ?_;refine dY.go (f:=0) aC (by first|exact dD rfl|exact az rfl) ?_;refine dY.nil ?_;refine AW.ret ?_;exact .inl rfl
 ·refine AW.skip ?_;refine AW.seq ?_;refine AW.region ?_;refine dY.go (f:=0) aC (vk rfl V5 rfl acd rfl rfl) ?_;refine dY.go (f:=0) aC (by first|exact iB rfl|exact av rfl) ?_;refine dY.go (f:=0) aC (H7 aaj rfl rfl (.inl (.inl rfl)) (.inr (.inr ⟨_,rfl⟩))) ?_;refine dY.go (f:=0) aC (by first|exact dD rfl|exact az rfl) ?_;refine dY.nil ?_;refine AW.ret ?_;exact .inl rfl
theorem V7 {m:Int}{ev:aT}(aC:aF (cf m) ev)(es:List Tree)(hne:es≠ [])(hu:ey true 10 es)(hl:es.length<=4194304):
 aq (cf m) 70 [.t (.sl es)] [] (.ret (.ref (.loc [5]) 0 es.length) [] [(.loc [5],.arr (32,true) 10 false ((flat es).map .t))]):=by
 refine jT 8 1 Tryz.func70 rfl (by decide) rfl rfl (by decide) ?_
 refine AW.seq ?_
 refine AW.region ?_
 refine dY.go (f:=0) aC (by first|exact dD rfl|exact az rfl) ?_
 refine dY.nil ?_
 refine AW.seq ?_
 refine AW.seq ?_
 refine AW.region ?_
 refine dY.go (f:=0) aC (by first|exact iB rfl|exact av rfl) ?_
 refine dY.J4 rfl rfl V5 rfl (λb hb=> ?_)
 have hb:=hb hne
 subst hb
 refine dY.nil ?_
 refine AW.cond rfl (λh=>absurd h (by decide)) (λh=> ?_)
 refine AW.skip ?_
 refine AW.seq ?_
 refine AW.region ?_
 refine dY.go (f:=0) aC (vk rfl V5 rfl acd rfl rfl) ?_
 refine dY.go (f:=0) aC (by first|exact iB rfl|exact av rfl) ?_
 refine dY.go (f:=0) aC (H6 aaj rfl rfl (.inl rfl) hu hne (by show es.length*152<=70368744177664;omega)) ?_
 refine dY.go (f:=0) aC (by first|exact dD rfl|exact az rfl) ?_
 refine dY.nil ?_
 refine AW.ret ?_
 exact .inr (Ci rfl rfl rfl)
def sx:List TV->List aK->Option bB:=λas' os=>match as',os with
 | [.t (.sl [])],[]=>some (.ret (.t (.sl [])) [] [])
 | [.t (.sl (e::es))],[]=> @ite _ (ey true 10 (e::es)/\(e::es).length<=4194304) (Classical.propDecidable _) (some (.ret (.ref (.loc [5]) 0 (e::es).length) [] [(.loc [5],.arr (32,true) 10 false ((flat (e::es)).map .t))])) none
 |_,_=>none
theorem BQ (m:Int):ku (cf m) 70 sx:=λargs aQ r h=>by
 unfold sx at h;split at h
 ·cases h;exact LC aM
 ·split at h
  ·rename_i hc;cases h;exact V7 aM _ (by simp) hc.1 hc.2
  ·cases h
 ·cases h
theorem LD {ev:aT}(h:Has ev 70 sx){es:List Tree}(hne:es≠ [])(hu:ey true 10 es)(hl:es.length<=4194304):ev 70 [.t (.sl es)] []=some (.ret (.ref (.loc [5]) 0 es.length) [] [(.loc [5],.arr (32,true) 10 false ((flat es).map .t))]):=by
 cases es with
 |nil=>exact absurd rfl hne
 |cons e es=>exact h _ _ _ (by unfold sx;exact if_pos ⟨hu,hl⟩)
theorem YV (m:Int)(k:Int)(b:Bool)(n:Int)(s t:List UInt8)(hO:∀x,x∈([]:List Tree)->R1 (cf m) 71 x x):R1 (cf m) 71 (bW k b n s t [] []) (bW k b n s t [] []):=by
 obtain⟨ev,aC,qh,mX⟩:∃ev,aF (cf m) ev/\Has ev 111 qM/\Has ev 112 nM:=⟨_,(aB (ua m) (aB (qN m) aM)),aD,(aA rfl aD)⟩;refine aq.um ?_;refine AX.start 30 1 Tryz.func71 rfl (by decide) rfl rfl (by decide) ?_;refine AX.frames ?_;exact⟨(),ye ah 0 [3] [zl 111 [.t (.sl [])] (.sl []) (qh _ _ _ rfl),zl 112 [.t (.sl [])] (.sl []) (mX _ _ _ rfl),oF]⟩
theorem YW (m:Int)(k:Int)(b:Bool)(n:Int)(s t:List UInt8)(ls:List Tree)(V8:ls≠ [])(ll:ls.length<=4194304)(hl:∀y∈ls,T .aY y)(hO:∀x,x∈ls->R1 (cf m) 71 x x):R1 (cf m) 71 (bW k b n s t [] ls) (bW k b n s t [] ls):=by
 obtain⟨ev,aC,qh,mX,V9⟩:∃ev,aF (cf m) ev/\Has ev 111 qM/\Has ev 112 nM/\Has ev 71 (BD (λx=>x∈ls) (λx=>x)):=⟨_,(aB (ua m) (aB (qN m) (aB (gA hO) aM))),aD,(aA rfl aD),(aA rfl (aA rfl aD))⟩;refine aq.um ?_;refine AX.start 30 1 Tryz.func71 rfl (by decide) rfl rfl (by decide) ?_;refine AX.frames ?_;refine kAt (f:=0) (n:=3000) (once:=[]) (k:=30) (T:=2) (S:=[.loc [0],.loc [1]]) (ks:=[.loc [0],.loc [1]]) (live:=[1,2]) ah aC (Tryz.f71.body.getD .skip) 1 rfl (⟨dU 30 [(1,.ptr (.loc [0]) 0),(2,.ptr (.loc [1]) 0)],[(.loc [0],.cells 30 (fI k b n s t [] ls)),(.loc [1],.cells 30 [.t (.int .u8 0),.t (.bool false),.t (.int .i64 0),.t (.str []),.t (.str []),.bX,.bX])],2⟩) [] (by kernel_rfl) ?_;refine AX.draw (f:=0) ah aC ?_;refine aJ.go rfl (cG rfl A4 rfl) ?_;refine aJ.go rfl (j8 rfl (ld qW rfl rfl)) ?_;refine aJ.go rfl (fe (Fs rfl) (qh _ _ _ rfl)) ?_;refine aJ.go rfl (cG rfl A5 rfl) ?_;refine aJ.go rfl (j8 rfl (ld EV rfl rfl)) ?_;refine aJ.go rfl (yZ (Fs rfl) (BP mX V8 (dB hl) (by assumption)) rfl vn) ?_;refine aJ.go rfl (cG rfl A4 rfl) ?_;refine aJ.LY rfl (lM rfl rfl (S8 qW rfl rfl)) ?_;refine aJ.go rfl (cG rfl A5 rfl) ?_;refine aJ.LY rfl (lM rfl rfl (S8 EV rfl rfl)) ?_;refine aJ.nil (eF rfl rfl ?_);refine kl (α:=Nat) ah 0 [] 30 3 [.loc [0],.loc [1],.loc [7,5]] [.loc [0],.loc [1],.loc [7,5]] [1,2,14,15] (λx=>⟨dU 30 [(1,.ptr (.loc [0]) 0),(2,.ptr (.loc [1]) 0),(14,.t (.int .i64 ((ls.length:Nat):Int))),(15,.t (.int .i64 ((x:Nat):Int)))],[(.loc [0],.cells 30 [.t (.int .u8 k),.t (.bool b),.t (.int .i64 n),.t (.str s),.t (.str t),.t (.sl []),.ref (.loc [2]) 0 ls.length]),(.loc [1],.cells 30 [.t (.int .u8 0),.t (.bool false),.t (.int .i64 0),.t (.str []),.t (.str []),.bX,.bX]),(.loc [2],.arr (30,true) 7 false ((flat ls).map .t))],3⟩) (λx=>(x<=ls.length)) (λx=>ls.length - x) 0 (lU (Tryz.f71.body.getD .skip) 3) [cz 30 7 ls] (by show(0<=ls.length);first|trivial|omega|(refine⟨?_, ?_⟩<;>first|omega|exact SM.nil)|simp) (λx hok=> ?_);obtain⟨i_1,uH⟩:∃y,y=x:=⟨x,rfl⟩;subst uH;replace hok:(i_1<=ls.length):=hok;have dh:=hok;rcases bg (decide (((i_1:Nat):Int)<((ls.length:Nat):Int))) with eE|eE
 ·have qY:=of_decide_eq_true eE;obtain⟨e3,kQ⟩:=fR ls i_1;have qZ:=(hl e3 (cg kQ));obtain⟨vK,KY,ZV,ZW,KZ,qG,vL,rfl,vM,vN,IC,D9,ID,IE⟩:=T.dL qZ;exact⟨.inl ⟨i_1+1,⟨(by show(i_1+1)<=ls.length;omega),(by show(ls.length - (i_1+1))<(ls.length - i_1);omega)⟩⟩,kr ah 30 3 [.loc [0],.loc [1],.loc [2]] [1,2,14,15] [oB eE,oW true 7 ls (dB hl),oH kQ,oQ ls,oO (nC (m:=7) (i:=i_1) (j:=0) (ey.lens (dB hl)) kQ (by decide)),oC (iA V9 (x:=(bW vK KY ZV ZW KZ qG vL)) (cg kQ)),oW true 7 ls (dB hl),oH kQ,oQ ls,oR _ _ (Gy (j:=0) (m:=7) (ey.lens (dB hl)) kQ (by decide)),oK (Ch (j:=0) (m:=7) (ey.lens (dB hl)) kQ (by decide)),oI (i_1) (by omega),cz 30 7 ls]⟩
 ·have qY:=of_decide_eq_false eE;refine kx ah [oB eE] ?_;exact⟨(),kf ah [oW true 7 ls (dB hl)]⟩
theorem YX (m:Int)(k:Int)(b:Bool)(n:Int)(s t:List UInt8)(ns:List Tree)(ace:ns≠ [])(ln:ns.length<=4194304)(hn:∀y∈ns,T .string y)(hO:∀x,x∈([]:List Tree)->R1 (cf m) 71 x x):R1 (cf m) 71 (bW k b n s t ns []) (bW k b n s t ns []):=by
 obtain⟨ev,aC,qh,mX⟩:∃ev,aF (cf m) ev/\Has ev 111 qM/\Has ev 112 nM:=⟨_,(aB (ua m) (aB (qN m) aM)),aD,(aA rfl aD)⟩;refine aq.um ?_;refine AX.start 30 1 Tryz.func71 rfl (by decide) rfl rfl (by decide) ?_;refine AX.frames ?_;refine kAt (f:=0) (n:=3000) (once:=[]) (k:=30) (T:=2) (S:=[.loc [0],.loc [1]]) (ks:=[.loc [0],.loc [1]]) (live:=[1,2]) ah aC (Tryz.f71.body.getD .skip) 1 rfl (⟨dU 30 [(1,.ptr (.loc [0]) 0),(2,.ptr (.loc [1]) 0)],[(.loc [0],.cells 30 (fI k b n s t ns [])),(.loc [1],.cells 30 [.t (.int .u8 0),.t (.bool false),.t (.int .i64 0),.t (.str []),.t (.str []),.bX,.bX])],2⟩) [] (by kernel_rfl) ?_;refine AX.draw (f:=0) ah aC ?_;refine aJ.go rfl (cG rfl A4 rfl) ?_;refine aJ.go rfl (j8 rfl (ld qW rfl rfl)) ?_;refine aJ.go rfl (yZ (Fs rfl) (EW qh ace (tZ hn) (by assumption)) rfl vn) ?_;refine aJ.go rfl (cG rfl A5 rfl) ?_;refine aJ.go rfl (j8 rfl (ld EV rfl rfl)) ?_;refine aJ.go rfl (fe (Fs rfl) (mX _ _ _ rfl)) ?_;refine aJ.go rfl (cG rfl A4 rfl) ?_;refine aJ.LY rfl (lM rfl rfl (S8 qW rfl rfl)) ?_;refine aJ.go rfl (cG rfl A5 rfl) ?_;refine aJ.LY rfl (lM rfl rfl (S8 EV rfl rfl)) ?_;refine aJ.nil (eF rfl rfl ?_);exact⟨(),ye ah 0 [3] [oF,oW false 1 ns (tZ hn)]⟩
theorem YY (m:Int)(k:Int)(b:Bool)(n:Int)(s t:List UInt8)(ns:List Tree)(ace:ns≠ [])(ln:ns.length<=4194304)(hn:∀y∈ns,T .string y)(ls:List Tree)(V8:ls≠ [])(ll:ls.length<=4194304)(hl:∀y∈ls,T .aY y)(hO:∀x,x∈ls->R1 (cf m) 71 x x):R1 (cf m) 71 (bW k b n s t ns ls) (bW k b n s t ns ls):=by
 obtain⟨ev,aC,qh,mX,V9⟩:∃ev,aF (cf m) ev/\Has ev 111 qM/\Has ev 112 nM/\Has ev 71 (BD (λx=>x∈ls) (λx=>x)):=⟨_,(aB (ua m) (aB (qN m) (aB (gA hO) aM))),aD,(aA rfl aD),(aA rfl (aA rfl aD))⟩;refine aq.um ?_;refine AX.start 30 1 Tryz.func71 rfl (by decide) rfl rfl (by decide) ?_;refine AX.frames ?_;refine kAt (f:=0) (n:=3000) (once:=[]) (k:=30) (T:=2) (S:=[.loc [0],.loc [1]]) (ks:=[.loc [0],.loc [1]]) (live:=[1,2]) ah aC (Tryz.f71.body.getD .skip) 1 rfl (⟨dU 30 [(1,.ptr (.loc [0]) 0),(2,.ptr (.loc [1]) 0)],[(.loc [0],.cells 30 (fI k b n s t ns ls)),(.loc [1],.cells 30 [.t (.int .u8 0),.t (.bool false),.t (.int .i64 0),.t (.str []),.t (.str []),.bX,.bX])],2⟩) [] (by kernel_rfl) ?_;refine AX.draw (f:=0) ah aC ?_;refine aJ.go rfl (cG rfl A4 rfl) ?_;refine aJ.go rfl (j8 rfl (ld qW rfl rfl)) ?_;refine aJ.go rfl (yZ (Fs rfl) (EW qh ace (tZ hn) (by assumption)) rfl vn) ?_;refine aJ.go rfl (cG rfl A5 rfl) ?_;refine aJ.go rfl (j8 rfl (ld EV rfl rfl)) ?_;refine aJ.go rfl (yZ (Fs rfl) (BP mX V8 (dB hl) (by assumption)) rfl vn) ?_;refine aJ.go rfl (cG rfl A4 rfl) ?_;refine aJ.LY rfl (lM rfl rfl (S8 qW rfl rfl)) ?_;refine aJ.go rfl (cG rfl A5 rfl) ?_;refine aJ.LY rfl (lM rfl rfl (S8 EV rfl rfl)) ?_;refine aJ.nil (eF rfl rfl ?_);refine kl (α:=Nat) ah 0 [] 30 4 [.loc [0],.loc [1],.loc [4,5],.loc [7,5]] [.loc [0],.loc [1],.loc [4,5],.loc [7,5]] [1,2,14,15] (λx=>⟨dU 30 [(1,.ptr (.loc [0]) 0),(2,.ptr (.loc [1]) 0),(14,.t (.int .i64 ((ls.length:Nat):Int))),(15,.t (.int .i64 ((x:Nat):Int)))],[(.loc [0],.cells 30 [.t (.int .u8 k),.t (.bool b),.t (.int .i64 n),.t (.str s),.t (.str t),.ref (.loc [2]) 0 ns.length,.ref (.loc [3]) 0 ls.length]),(.loc [1],.cells 30 [.t (.int .u8 0),.t (.bool false),.t (.int .i64 0),.t (.str []),.t (.str []),.bX,.bX]),(.loc [2],.arr (9,false) 1 false ((flat ns).map .t)),(.loc [3],.arr (30,true) 7 false ((flat ls).map .t))],4⟩) (λx=>(x<=ls.length)) (λx=>ls.length - x) 0 (lU (Tryz.f71.body.getD .skip) 3) [oN (o:=.arr (9,false) 1 false ((flat ns).map .t)) (λ_=>MD),cz 30 7 ls] (by show(0<=ls.length);first|trivial|omega|(refine⟨?_, ?_⟩<;>first|omega|exact SM.nil)|simp) (λx hok=> ?_);obtain⟨i_1,uH⟩:∃y,y=x:=⟨x,rfl⟩;subst uH;replace hok:(i_1<=ls.length):=hok;have dh:=hok;rcases bg (decide (((i_1:Nat):Int)<((ls.length:Nat):Int))) with eE|eE
 ·have qY:=of_decide_eq_true eE;obtain⟨e3,kQ⟩:=fR ls i_1;have qZ:=(hl e3 (cg kQ));obtain⟨vK,KY,ZV,ZW,KZ,qG,vL,rfl,vM,vN,IC,D9,ID,IE⟩:=T.dL qZ;exact⟨.inl ⟨i_1+1,⟨(by show(i_1+1)<=ls.length;omega),(by show(ls.length - (i_1+1))<(ls.length - i_1);omega)⟩⟩,kr ah 30 4 [.loc [0],.loc [1],.loc [2],.loc [3]] [1,2,14,15] [oB eE,oW true 7 ls (dB hl),oH kQ,oQ ls,oO (nC (m:=7) (i:=i_1) (j:=0) (ey.lens (dB hl)) kQ (by decide)),oC (iA V9 (x:=(bW vK KY ZV ZW KZ qG vL)) (cg kQ)),oW true 7 ls (dB hl),oH kQ,oQ ls,oR _ _ (Gy (j:=0) (m:=7) (ey.lens (dB hl)) kQ (by decide)),oK (Ch (j:=0) (m:=7) (ey.lens (dB hl)) kQ (by decide)),oI (i_1) (by omega),oN (o:=.arr (9,false) 1 false ((flat ns).map .t)) (λ_=>MD),cz 30 7 ls]⟩
 ·have qY:=of_decide_eq_false eE;refine kx ah [oB eE] ?_;exact⟨(),kf ah [oW false 1 ns (tZ hn),oW true 7 ls (dB hl)]⟩
theorem YZ (m:Int):∀x,T .aY x->R1 (cf m) 71 x x:=by
 have key:∀(k:K) (x:Tree),T k x->k=.aY->R1 (cf m) 71 x x:=by
  intro k x h;induction h with
  |aY k1 b1 n1 s1 t1 N1 L1 hs ht h0 h1 h2 h3 _ ih=>
   intro _
   have hO:∀x,x∈L1->R1 (cf m) 71 x x:=λx hx=>ih x hx rfl
   rcases N1 with _|⟨a,N⟩<;>rcases L1 with _|⟨c,L⟩
   · exact YV m k1 b1 n1 s1 t1 hO
   · exact YW m k1 b1 n1 s1 t1 _ (by simp) h2 h3 hO
   · exact YX m k1 b1 n1 s1 t1 _ (by simp) h0 h1 hO
   · exact YY m k1 b1 n1 s1 t1 _ (by simp) h0 h1 _ (by simp) h2 h3 hO
  |_=>exactλe=>(by cases e)
 exactλx h=>key _ x h rfl
abbrev aiG:TI:={size:=1,bytes:=24,agg:=false,zero:=some (.bX),desc:=.slice 24}
theorem Wa {m:Int}:(cf m).P.ty 25=some aiG:=by kernel_rfl
theorem aal {m:Int}:Bw (cf m).P 25 24 aeM:=⟨⟨_,Wa,rfl⟩,yq,_,rfl,by decide,rfl,by decide⟩
theorem dI {l:List Tree}(h:∀y∈l,T .aU y):ey true 10 l:=λy hy=>by
 obtain⟨nH,vE,parents,mR,wG,wH,qC,qD,gp,iy,rfl,_,_,_,_,_,_,_,_,_,_⟩:=T.bw (h y hy);exact⟨rfl,rfl,rfl⟩
theorem PD {m:Int}{ev:aT}(aC:aF (cf m) ev):aq (cf m) 62 [.t (.sl [])] [] (.ret (.t (.sl [])) [] []):=by
 refine jT 8 1 Tryz.func62 rfl (by decide) rfl rfl (by decide) ?_;refine AW.seq ?_;refine AW.region ?_;refine dY.go (f:=0) aC (by first|exact dD rfl|exact az rfl) ?_;refine dY.nil ?_;refine AW.seq ?_;refine AW.seq ?_;refine AW.region ?_;refine dY.go (f:=0) aC (by first|exact iB rfl|exact av rfl) ?_;refine dY.J4 rfl rfl Wa rfl (λb hb=> ?_);refine dY.nil ?_;refine AW.cond rfl (λh4=> ?_) (λh4=> ?_)
 ·refine AW.seq ?_;refine AW.region ?_;refine dY.go (f:=0) aC (by first|exact dD rfl|exact az rfl) ?_;refine dY.nil ?_;refine AW.ret ?_;exact .inl rfl
 ·refine AW.skip ?_;refine AW.seq ?_;refine AW.region ?_;refine dY.go (f:=0) aC (vk rfl Wa rfl yq rfl rfl) ?_;refine dY.go (f:=0) aC (by first|exact iB rfl|exact av rfl) ?_;refine dY.go (f:=0) aC (H7 aal rfl rfl (.inl (.inl rfl)) (.inr (.inr ⟨_,rfl⟩))) ?_;refine dY.go (f:=0) aC (by first|exact dD rfl|exact az rfl) ?_;refine dY.nil ?_;refine AW.ret ?_;exact .inl rfl
theorem Y0 {m:Int}{ev:aT}(aC:aF (cf m) ev)(es:List Tree)(hne:es≠ [])(hu:ey true 2 es)(hl:es.length<=4194304):
 aq (cf m) 62 [.t (.sl es)] [] (.ret (.t (.sl es)) [] []):=by
 refine jT 8 1 Tryz.func62 rfl (by decide) rfl rfl (by decide) ?_
 refine AW.seq ?_
 refine AW.region ?_
 refine dY.go (f:=0) aC (by first|exact dD rfl|exact az rfl) ?_
 refine dY.nil ?_
 refine AW.seq ?_
 refine AW.seq ?_
 refine AW.region ?_
 refine dY.go (f:=0) aC (by first|exact iB rfl|exact av rfl) ?_
 refine dY.J4 rfl rfl Wa rfl (λb hb=> ?_)
 have hb:=hb hne
 subst hb
 refine dY.nil ?_
 refine AW.cond rfl (λh=>absurd h (by decide)) (λh=> ?_)
 refine AW.skip ?_
 refine AW.seq ?_
 refine AW.region ?_
 refine dY.go (f:=0) aC (vk rfl Wa rfl yq rfl rfl) ?_
 refine dY.go (f:=0) aC (by first|exact iB rfl|exact av rfl) ?_
 refine dY.go (f:=0) aC (H6 aal rfl rfl (.inl rfl) hu hne (by show es.length*32<=70368744177664;omega)) ?_
 refine dY.go (f:=0) aC (by first|exact dD rfl|exact az rfl) ?_
 refine dY.nil ?_
 refine AW.ret ?_
 exact .inl (Tf rfl (Tg rfl hu (by decide) rfl rfl))
theorem acf (m:Int):∀x,T .bn x->R1 (cf m) 62 x x:=λx hx=>by
 obtain⟨l,rfl,hl,h2⟩:=T.k4 hx;by_cases h:l=[]
 ·subst h;exact PD aM
 ·exact Y0 aM l h (aO h2) hl
theorem Y1 (m:Int):R1 (cf m) 29 (.sl []) (.sl []):=by
 obtain⟨ev,aC,A6⟩:∃ev,aF (cf m) ev/\Has ev 70 sx:=⟨_,(aB (BQ m) aM),aD⟩;refine aq.um ?_;refine AX.start 33 1 Tryz.func29 rfl (by decide) rfl rfl (by decide) ?_;refine AX.frames ?_;exact⟨(),ye ah 64 [3] [zl 70 [.t (.sl [])] (.sl []) (A6 _ _ _ rfl),oF]⟩
theorem Y2 (m:Int)(ls:List Tree)(V8:ls≠ [])(ll:ls.length<=4194304)(hl:∀y∈ls,T .aU y):R1 (cf m) 29 (.sl ls) (.sl ls):=by
 obtain⟨ev,aC,A6,afc,acg⟩:∃ev,aF (cf m) ev/\Has ev 70 sx/\Has ev 62 (BD (T .bn) (λx=>x))/\Has ev 71 (BD (λx=>T .aY x) (λx=>x)):=⟨_,(aB (BQ m) (aB (gA (acf m)) (aB (gA (YZ m)) aM))),aD,(aA rfl aD),(aA rfl (aA rfl aD))⟩;refine aq.um ?_;refine AX.start 33 1 Tryz.func29 rfl (by decide) rfl rfl (by decide) ?_;refine AX.frames ?_;refine kAt (f:=64) (n:=3000) (once:=[]) (k:=33) (T:=0) (S:=[]) (ks:=[]) (live:=[0,2]) ah aC (Tryz.f29.body.getD .skip) 1 rfl (⟨dU 33 [(0,.t (.sl ls)),(2,.bX)],[],0⟩) [] (by kernel_rfl) ?_;refine AX.region ?_;refine aG.go (f:=0) aC (av rfl) ?_;refine aG.go (f:=0) aC (yZ (Fs rfl) (LD A6 V8 (dI hl) (by assumption)) rfl vn) ?_;refine aG.go (f:=0) aC (az rfl) ?_;refine aG.nil ?_;refine kl (α:=Nat) ah 64 [] 33 1 [.loc [1,5]] [.loc [1,5]] [0,7,8] (λx=>⟨dU 33 [(0,.ref (.loc [0]) 0 ls.length),(7,.t (.int .i64 ((ls.length:Nat):Int))),(8,.t (.int .i64 ((x:Nat):Int)))],[(.loc [0],.arr (32,true) 10 false ((flat ls).map .t))],1⟩) (λx=>(x<=ls.length)) (λx=>ls.length - x) 0 (lU (Tryz.f29.body.getD .skip) 3) [cz 32 10 ls] (by show(0<=ls.length);first|trivial|omega|(refine⟨?_, ?_⟩<;>first|omega|exact SM.nil)|simp) (λx hok=> ?_);obtain⟨i_1,uH⟩:∃y,y=x:=⟨x,rfl⟩;subst uH;replace hok:(i_1<=ls.length):=hok;have dh:=hok;rcases bg (decide (((i_1:Nat):Int)<((ls.length:Nat):Int))) with eE|eE
 ·have qY:=of_decide_eq_true eE;obtain⟨e3,kQ⟩:=fR ls i_1;have qZ:=(hl e3 (cg kQ));obtain⟨tT,zY,r7,l8,r8,r9,sg,si,kG,l9,rfl,vM,vN,IC,D9,ID,IE,abS,VE,abT,VG⟩:=T.bw qZ;exact⟨.inl ⟨i_1+1,⟨(by show(i_1+1)<=ls.length;omega),(by show(ls.length - (i_1+1))<(ls.length - i_1);omega)⟩⟩,Cv ah 64 [] 33 1 [.loc [0]] [.loc [0]] [0,7,8] [oB eE,oW true 10 ls (dI hl),oH kQ,oQ ls,oQ ls,oO (QK (i:=i_1) (j:=2) (ey.lens (dI hl)) kQ rfl),oC (iA afc (x:=.sl r7) (.bn _ bJ D9)),oW true 10 ls (dI hl),oH kQ,oQ ls,oQ ls,oO (nC (m:=7) (i:=i_1) (j:=3) (ey.lens (dI hl)) kQ (by decide)),oC (iA acg (x:=(bW l8 r8 r9 sg si kG l9)) (.aY _ _ _ _ _ _ _ bJ bJ bJ VE bJ VG)),oW true 10 ls (dI hl),oH kQ,oQ ls,oQ ls,oR _ _ (Gy (j:=2) (m:=1) (ey.lens (dI hl)) kQ (by decide)),oK (Ch (j:=2) (m:=1) (ey.lens (dI hl)) kQ (by decide)),oW true 10 ls (dI hl),oH kQ,oQ ls,oQ ls,oR _ _ (Gy (j:=3) (m:=7) (ey.lens (dI hl)) kQ (by decide)),oK (Ch (j:=3) (m:=7) (ey.lens (dI hl)) kQ (by decide)),oI (i_1) (by omega),cz 32 10 ls]⟩
 ·have qY:=of_decide_eq_false eE;refine O6 ah 64 [] [oB eE] ?_;exact⟨(),ye ah 64 [] [oW true 10 ls (dI hl)]⟩
theorem Wb (m:Int){l:List Tree}(h:T .ai (.sl l)):R1 (cf m) 29 (.sl l) (.sl l):=by
 obtain⟨l',e,hl,h2⟩:=T.cQ h;cases e;rcases l with _|⟨c,L⟩
 ·exact Y1 m
 ·exact Y2 m _ (by simp) hl h2
def A7:Tree:=.agg [.str [],.str [],.sl [],.int .u8 0,.bool false,.int .i64 0,.str [],.str [],.sl [],.sl []]
theorem LF:T .aU A7:=.aU _ _ _ _ _ _ _ _ _ _ (by decide) (by decide) (by decide) (λ_ h=>by cases h) (by decide) (by decide) (by decide) (λ_ h=>by cases h) (by decide) (λ_ h=>by cases h)
theorem EX (m:Int){l:List Tree}{u:Tree}(h:T .ai (.sl l))(hu:T .au u):mS l u (fL m (.sl l) u):=(Classical.choose_spec (zX m) _ _ ⟨h,hu⟩).2
def PE (m:Int)(l:List Tree)(u:Tree)(r:Tree×Int):Prop:=(j4 m (.sl l)≠0/\r=(A7,j4 m (.sl l)))\/(j4 m (.sl l)=0/\(((fL m (.sl l) u).2=false/\r=(A7,9))\/∃(k:Nat) (e:Tree),fL m (.sl l) u=((k:Int),true)/\l[k]?=some e/\r=(e,0)))
theorem Y3 (m:Int)(l:List Tree)(hl:l.length<=4194304)(hl2:∀y∈l,T .aU y)(a b:List UInt8)(ha:a.length<=4194304)(hb:b.length<=4194304):∃r:{r:Tree×Int // T .aU r.1/\PE m l (.agg [.str a,.str b]) r},aq (cf m) 16 [.t (.sl l),.t (.agg [.str a,.str b])] [] (.ret (.t (.cT [r.1.1,.int .i64 r.1.2])) [] []):=by
 obtain⟨yz,EU⟩:=Ez m;obtain⟨sj,xG⟩:=AZ m;obtain⟨ev,aC,vY,ux,Y4⟩:∃ev,aF (cf m) ev/\Has ev 23 (BD (λx=>T .ai x) (λx=>.int .i64 (yz x)))/\Has ev 30 (zf (λx y=>T .ai x/\T .au y) (λx y=>.cT [.int .i64 (sj x y).1,.bool (sj x y).2]))/\Has ev 29 (BD (λx=>∃l:List Tree,x=.sl l/\T .ai (.sl l)) (λx=>x)):=⟨_,(aB (gA (λx h=>(EU x h).1)) (aB (fB (λx y h=>(xG x y h).1)) (aB (gA (λx h=>by obtain⟨l,rfl,h1⟩:=h;exact Wb m h1)) aM))),aD,(aA rfl aD),(aA rfl (aA rfl aD))⟩;refine AX.start 32 2 Tryz.func16 rfl (by decide) rfl rfl (by decide) ?_;refine AX.frames ?_;have hp1:=(EU (.sl l) (.ai _ bJ hl2)).2;rcases bg (((yz (.sl l)) != 0)) with eE|eE
 ·have qY:=dS eE;refine⟨⟨(A7,(yz (.sl l))),LF,.inl ⟨λh=>absurd (hp1.2.trans h) (bne_iff_ne.1 eE),Prod.ext rfl hp1.2⟩⟩,kf ah [oC (iA vY (x:=.sl l) (.ai _ bJ hl2)),oB eE]⟩
 ·have qY:=bp eE;have aam:=(xG (.sl l) (.agg [.str a,.str b]) ⟨(.ai _ bJ hl2),(.au _ _ bJ bJ)⟩).2;obtain⟨k_3,b_3,ach,akm,aiH⟩:∃(k8:Nat) (b8:Bool),sj (.sl l) (.agg [.str a,.str b])=((k8:Int),b8)/\k8<=(l:List Tree).length/\(b8=true->k8<(l:List Tree).length):=by
   obtain⟨k,e,h0,h,_⟩:=aam.1;exact⟨k,_,Prod.ext e rfl,h0,λh8=>(by obtain⟨_,h7,_⟩:=h.1 h8;exact(List.getElem?_eq_some_iff.1 h7).1)⟩
  have afd:fL m (.sl l) (.agg [.str a,.str b])=((k_3:Int),b_3):=aam.2.symm.trans ach;have aan:T .ai (.sl l)/\T .au (.agg [.str a,.str b]):=⟨(.ai _ bJ hl2),(.au _ _ bJ bJ)⟩;rcases b_3 with _|_
  ·refine⟨⟨(A7,9),LF,.inr ⟨(hp1.2.symm.trans (bp eE)),.inl ⟨by rw[afd],rfl⟩⟩⟩,kf ah [oC (iA vY (x:=.sl l) (.ai _ bJ hl2)),oB eE,zl 30 [.t (.sl l),.t (.agg [.str a,.str b])] (.cT [.int .i64 ((k_3:Nat):Int),.bool false]) ((dM ux (x:=(.sl l)) (y:=(.agg [.str a,.str b])) (aan)).trans (congrArg (λz:Int×Bool=>some (bB.ret (.t (.cT [.int .i64 z.1,.bool z.2])) [] [])) ach)),oT]⟩
  ·have aj5:=aiH rfl;obtain⟨e4,gG⟩:=fR l k_3;have ja:=(hl2 e4 (cg gG));obtain⟨mY,sy,pq,jZ,pz,pE,pF,pG,js,j3,rfl,Ni,U6,aiI,aiJ,aiK,aiL,aiM,aiN,aiO,aiP⟩:=T.bw ja;refine⟨⟨(.agg [.str mY,.str sy,.sl pq,.int .u8 jZ,.bool pz,.int .i64 pE,.str pF,.str pG,.sl js,.sl j3],0),ja,.inr ⟨(hp1.2.symm.trans (bp eE)),.inr ⟨_,_,afd,gG,rfl⟩⟩⟩,kf ah [oC (iA vY (x:=.sl l) (.ai _ bJ hl2)),oB eE,zl 30 [.t (.sl l),.t (.agg [.str a,.str b])] (.cT [.int .i64 ((k_3:Nat):Int),.bool true]) ((dM ux (x:=(.sl l)) (y:=(.agg [.str a,.str b])) (aan)).trans (congrArg (λz:Int×Bool=>some (bB.ret (.t (.cT [.int .i64 z.1,.bool z.2])) [] [])) ach)),oF,oE gG,zl 29 [.t (.sl [.agg [.str mY,.str sy,.sl pq,.int .u8 jZ,.bool pz,.int .i64 pE,.str pF,.str pG,.sl js,.sl j3]])] (.sl [.agg [.str mY,.str sy,.sl pq,.int .u8 jZ,.bool pz,.int .i64 pE,.str pF,.str pG,.sl js,.sl j3]]) (iA Y4 (x:=.sl [.agg [.str mY,.str sy,.sl pq,.int .u8 jZ,.bool pz,.int .i64 pE,.str pF,.str pG,.sl js,.sl j3]]) ⟨_,rfl,(.ai _ bJ (gl ja (λ_ h=>absurd h (by simp))))⟩),oE (show([.agg [.str mY,.str sy,.sl pq,.int .u8 jZ,.bool pz,.int .i64 pE,.str pF,.str pG,.sl js,.sl j3]]:List Tree)[0]?=some (.agg [.str mY,.str sy,.sl pq,.int .u8 jZ,.bool pz,.int .i64 pE,.str pF,.str pG,.sl js,.sl j3]) from rfl)]⟩
theorem RC (m:Int):∃F:Tree->Tree->Tree×Int,∀x y,(T .ai x/\T .au y)->R2 (cf m) 16 x y (.cT [(F x y).1,.int .i64 (F x y).2])/\(T .aU (F x y).1/\PE m (gM x) y (F x y)):=by
 refine wU (P:=λx y=>T .ai x/\T .au y) (mk:=λ(r:Tree×Int)=>.cT [r.1,.int .i64 r.2]) (Post:=λx y r=>T .aU r.1/\PE m (gM x) y r) λx y h=> ?_
 obtain⟨l,rfl,hl,hl2⟩:=T.cQ h.1;obtain⟨a,b,rfl,ha,hb⟩:=T.aR h.2;exact Y3 m l hl hl2 a b ha hb
theorem Y5 (m:Int):∃F:Tree->Tree->Bool,∀x y,(T .bn x/\T .au y)->R2 (cf m) 15 x y (.bool (F x y))/\(((F x y)=true↔y∈gM x)):=by
 refine wU (P:=λx y=>T .bn x/\T .au y) (mk:=λ(r:Bool)=>.bool r) (Post:=λx y r=>(r=true↔y∈gM x)) λx y hx=> ?_
 obtain⟨hx,hy⟩:=hx;show ∃r:{r:Bool //(r=true↔y∈gM x)},aq (cf m) 15 [.t x,.t y] [] (.ret (.t (.bool r.1)) [] []);have bR:=hx;obtain⟨v_1,rfl,jQ,gC⟩:=T.k4 bR;have fF:=hy;obtain⟨bE,cu,rfl,lV,mT⟩:=T.aR fF;obtain⟨ev,aC⟩:∃ev,aF (cf m) ev:=⟨_,aM⟩;refine AX.start 17 2 Tryz.func15 rfl (by decide) rfl rfl (by decide) ?_;refine AX.frames ?_;refine kl (α:=Nat) ah 0 [] 17 1 [.loc [0]] [.loc [0]] [3,7,8,9] (λx=>⟨dU 17 [(3,.ptr (.loc [0]) 0),(7,.t (.sl v_1)),(8,.t (.int .i64 ((v_1.length:Nat):Int))),(9,.t (.int .i64 ((x:Nat):Int)))],[(.loc [0],.cells 24 [.t (.str bE),.t (.str cu)])],1⟩) (λx=>(x<=v_1.length)/\(Tree.agg [.str bE,.str cu]∉v_1.take x)) (λx=>v_1.length - x) 0 (lU (Tryz.f15.body.getD .skip) 2) [] ⟨Nat.zero_le _,by simp⟩ (λx hok=> ?_);obtain⟨xE,uH⟩:∃y,y=x:=⟨x,rfl⟩;subst uH;replace hok:(xE<=v_1.length)/\(Tree.agg [.str bE,.str cu]∉v_1.take xE):=hok;obtain⟨ia,cL⟩:=hok;rcases bg (decide (((xE:Nat):Int)<((v_1.length:Nat):Int))) with gK|gK
 ·have vG:=of_decide_eq_true gK;obtain⟨e5,rW⟩:=fR v_1 xE;have vO:=(gC e5 (cg rW));obtain⟨El,K8,rfl,Ea,Eb⟩:=T.aR vO;have afe:=BK (m:=m) (.tmp 13) (.tmp 14) El K8 bE cu;rcases bg (((El==bE)&&(K8==cu))) with jB|jB
  ·refine kx ah [oB gK,oE rW,oO afe.1,oB jB] ?_;refine⟨⟨true, ?_⟩,kf ah []⟩;exact⟨λ_=>by rw[← vH jB];exact cg rW,λ_=>rfl⟩
  ·exact⟨.inl ⟨xE+1,⟨⟨(by show(xE+1)<=v_1.length;omega),(D6 rW cL (λe=>vI jB e.symm))⟩,(by show(v_1.length - (xE+1))<(v_1.length - xE);omega)⟩⟩,kr ah 17 1 [.loc [0]] [3,7,8,9] [oB gK,oE rW,oO afe.1,oB jB,oI (xE) (by omega)]⟩
 ·have vG:=of_decide_eq_false gK;refine kx ah [oB gK] ?_;refine⟨⟨false, ?_⟩,kf ah []⟩;exact⟨λh=>absurd h (by decide),λhy=>absurd hy (by have h9:=cL;rw[List.take_of_length_le (by omega)] at h9;exact h9)⟩
theorem A8 {a b c d:List UInt8}:mA (.agg [.str a,.str b]) (.agg [.str c,.str d])<0↔(bK a c||(a==c&&bK b d))=true:=by
 rw[AK,UA,UA];show a<c\/(a=c/\b<d)↔_;simp
theorem Y6 (m:Int):∃F:Tree->Tree->Bool,∀x y,(T .au x/\T .au y)->R2 (cf m) 14 x y (.bool (F x y))/\(((F x y)=true↔mA x y<0)):=by
 refine wU (P:=λx y=>T .au x/\T .au y) (mk:=λ(r:Bool)=>.bool r) (Post:=λx y r=>(r=true↔mA x y<0)) λx y hx=> ?_
 obtain⟨hx,hy⟩:=hx;show ∃r:{r:Bool //(r=true↔mA x y<0)},aq (cf m) 14 [.t x,.t y] [] (.ret (.t (.bool r.1)) [] []);have bR:=hx;obtain⟨type_1,uq,rfl,jQ,gC⟩:=T.aR bR;have fF:=hy;obtain⟨bE,cu,rfl,lV,mT⟩:=T.aR fF;obtain⟨ev,aC⟩:∃ev,aF (cf m) ev:=⟨_,aM⟩;refine AX.start 24 2 Tryz.func14 rfl (by decide) rfl rfl (by decide) ?_;refine AX.frames ?_;rcases bg ((bK type_1 bE)) with hg3|hg3
 ·refine⟨⟨true, ?_⟩,kf ah (rq 8 (oB hg3) ([]))⟩;show(true=true↔_);rw[A8];simp[hg3]
 ·rcases bg ((type_1==bE)) with hg4|hg4
  ·have aiQ:=eq_of_beq hg4;refine⟨⟨(bK uq cu), ?_⟩,kf ah (rq 6 (oB hg3) (rq 5 (oB hg4) ([oB hg3,oB hg4,oB hg3])))⟩;show((bK uq cu)=true↔_);rw[A8];simp[hg3,hg4]
  ·have aiQ:=ne_of_beq_false hg4;refine⟨⟨false, ?_⟩,kf ah (rq 6 (oB hg3) (rq 5 (oB hg4) ([oB hg3,oB hg4,oB hg3])))⟩;show(false=true↔_);rw[A8];simp[hg3,hg4]
theorem Wc {F:Tree->Tree->Int×Bool}{l:List Tree}{u v:Tree}(h:v∈ic F l u):∃e∈l,v∈fK e:=by
 unfold ic at h;split at h
 ·cases he:l[(F (.sl l) u).1.toNat]? with
  |none=>rw[he] at h;exact absurd h (by simp[fK])
  |some e=>rw[he] at h;exact⟨e,cg he,h⟩
 ·cases h
theorem PF (m:Int){l:List Tree}{u:Tree}(h:T .ai (.sl l))(hu:T .au u)(hne:ic (fL m) l u≠ []):∃e∈l,cF e=u/\ic (fL m) l u=fK e:=by
 obtain⟨k,h1,_,h3,_⟩:=EX m h hu;cases hb:(fL m (.sl l) u).2 with
 |false=>exact absurd (wM (k:=(fL m (.sl l) u).1) (Prod.ext rfl hb)) hne
 |true=>
  obtain⟨e,he,hE⟩:=h3.1 hb
  exact⟨e,cg he,hE,tO (k:=k) (Prod.ext h1 hb) he⟩
theorem Aa (m:Int){l:List Tree}{u v:Tree}(h:T .ai (.sl l))(h0:j4 m (.sl l)=0)(hu:BJ m u=0)(hv:gH (ic (fL m) l) [u] v):BJ m v=0:=by
 have ho:=I8 m h h0;obtain⟨l',e,_,hl⟩:=T.cQ h;cases e;cases hv with
 |base hm=>rw[List.mem_singleton.1 hm];exact hu
 |step _ hm=>
  obtain⟨e,he,hp⟩:=Wc hm
  exact(IY m (hl e he) (ho.1 e he)).2 _ (List.mem_cons_of_mem _ hp)
theorem I9 {m:Int}{l:List Tree}{u:Tree}{r:List Tree×Int}(h:YS m l u r)(h0:j4 m (.sl l)=0)(hu:BJ m u=0):r.2=0/\r.1.Nodup/\(r.1.Pairwise λa b=>mA a b<0)/\∀v,v∈r.1↔gH (ic (fL m) l) [u] v:=by
 rcases h with ⟨h1,_,_,h2⟩|⟨_,_,h3⟩
 ·exact⟨h1,h2⟩
 ·exact absurd ⟨h0,hu⟩ h3
theorem CB {m:Int}{l:List Tree}{u:Tree}{r:Tree×Int}(h:PE m l u r)(h0:j4 m (.sl l)=0):r=(A7,9)\/∃e,r=(e,0)/\ic (fL m) l u=fK e:=by
 rcases h with ⟨h1,_⟩|⟨_,⟨_,h2⟩|⟨k,e,h2,h3,h4⟩⟩
 ·exact absurd h0 h1
 ·exact .inl h2
 ·exact .inr ⟨e,h4,tO h2 h3⟩
open Classical in
def Ja (A:List Tree)(U:Tree)(i v:Nat):Prop:=v=if U∈A.take i then 1 else 0
theorem Ja.zero {A:List Tree}{U:Tree}:Ja A U 0 0:=by unfold Ja;simp
theorem Ja.le {A:List Tree}{U:Tree}{i v:Nat}(h:Ja A U i v):v<=1:=by
 unfold Ja at h;subst h;split<;>omega
theorem Ja.hit {A:List Tree}{U x:Tree}{i v:Nat}(h:Ja A U i v)(hn:A.Nodup)(he:A[i]?=some x)(hx:x=U):Ja A U (i+1) (v+1):=by
 subst hx;have hno:x∉A.take i:=λhm=>by
  obtain⟨j,hj⟩:=List.getElem?_of_mem hm;rw[List.getElem?_take] at hj;split at hj
  ·obtain⟨h1,e1⟩:=List.getElem?_eq_some_iff.1 hj;obtain⟨h2,e2⟩:=List.getElem?_eq_some_iff.1 he;exact List.pairwise_iff_getElem.1 hn j i h1 h2 (by assumption) (e1.trans e2.symm)
  ·cases hj
 unfold Ja at h ⊢;rw[if_neg hno] at h;rw[jU he,if_pos (by simp),h]
theorem Ja.Y7 {A:List Tree}{U x:Tree}{i v:Nat}(h:Ja A U i v)(he:A[i]?=some x)(hx:x≠U):Ja A U (i+1) v:=by
 unfold Ja at h ⊢;rw[jU he,h];have:U∈A.take i++[x]↔U∈A.take i:=by
  rw[List.mem_append,List.mem_singleton];exact⟨λq=>q.elim id λq=>absurd q.symm hx,.inl⟩
 by_cases hm:U∈A.take i
 ·rw[if_pos hm,if_pos (this.2 hm)]
 ·rw[if_neg hm,if_neg λq=>hm (this.1 q)]
theorem Ja.one {A:List Tree}{U:Tree}{i v:Nat}(h:Ja A U i v)(hi:A.length<=i)(hU:U∈A):v=1:=by
 unfold Ja at h;rw[List.take_of_length_le hi,if_pos hU] at h;exact h
theorem PG {A:List Tree}(h:A.Pairwise λa b=>mA a b<0){i:Nat}{x y:Tree}(hi:0<i)(hx:A[i - 1]?=some x)(hy:A[i]?=some y):mA x y<0:=by
 obtain⟨h1,rfl⟩:=List.getElem?_eq_some_iff.1 hx;obtain⟨h2,rfl⟩:=List.getElem?_eq_some_iff.1 hy;exact List.pairwise_iff_getElem.1 h (i - 1) i h1 h2 (by omega)
end
end Go.Proofs.YtnfnihgmankidaaGreatDoor.w.e
