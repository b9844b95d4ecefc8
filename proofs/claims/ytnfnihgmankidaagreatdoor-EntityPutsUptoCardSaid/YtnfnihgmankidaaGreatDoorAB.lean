/- slices.SortFunc of Uids, in their order. -/
import Derived.WalkKit
import Derived.OwnWalkIn
import Derived.TacticsInMore
import Derived.Shelf.Abstract
import Derived.Shelf.SlSortCmp.WholeK
import Derived.Shelf.SlSortCmp.NoneTotal
import Derived.Sort.LotA
import Derived.StillTailTactics
import Derived.Test.YtnfnihgmankidaaGreatDoorSrt
import Derived.Test.YtnfnihgmankidaaGreatDoorShelf
import Derived.Test.YtnfnihgmankidaaGreatDoorN
import Derived.Test.YtnfnihgmankidaaGreatDoorY
import Derived.Test.YtnfnihgmankidaaGreatDoorAA
import Derived.Test.YtnfnihgmankidaaGreatDoorR
set_option linter.unusedVariables false
set_option linter.unusedSimpArgs false
namespace Go.Proofs.YtnfnihgmankidaaGreatDoor.w
open Go Go.Abs Go.RowKit Go.Sort Go.Shelf
attribute [local go_sem] Oper.semAt_some
def Xr (l:List Tree)(i j:Nat):Int:=pI (l[i]?.getD .bT) (l[j]?.getD .bT)
def permA (l:List Tree):Array Nat:=pdq (ltOf (Xr l)) (Array.range l.length) 0 l.length (Lib.bitLen l.length) true true
def mQ (l:List Tree):List Tree:=(permA l).toList.map λi=>l[i]?.getD .bT
def AtF (e:Tree):Prop:=∃n s,e=.agg [.str n,.str s]
theorem E6 (l:List Tree)(i j:Nat):ltOf (Xr l) i j=decide (Bk (l[i]?.getD .bT)<Bk (l[j]?.getD .bT)\/(Bk (l[i]?.getD .bT)=Bk (l[j]?.getD .bT)/\Rm (l[i]?.getD .bT)<Rm (l[j]?.getD .bT))):=by
 unfold ltOf Xr;exact decide_eq_decide.2 Ei
theorem acm (l:List Tree):SWO (ltOf (Xr l)) where
 irrefl x:=by
  rw[E6];exact decide_eq_false λh=>h.elim (List.lt_irrefl _) λh=>List.lt_irrefl _ h.2
 trans x y z h1 h2:=by
  rw[E6] at*;have h1:=of_decide_eq_true h1;have h2:=of_decide_eq_true h2;refine decide_eq_true ?_;rcases h1 with h1|⟨e1,h1⟩<;>rcases h2 with h2|⟨e2,h2⟩
  ·exact .inl (List.lt_trans h1 h2)
  ·exact .inl (e2▸h1)
  ·exact .inl (e1▸h2)
  ·exact .inr ⟨e1.trans e2,List.lt_trans h1 h2⟩
 ntrans x y z h1 h2:=by
  rw[E6] at*;have h1:=of_decide_eq_false h1;have h2:=of_decide_eq_false h2;refine decide_eq_false λh=> ?_
  generalize Bk (l[x]?.getD .bT)=a at*;generalize Bk (l[y]?.getD .bT)=b at*;generalize Bk (l[z]?.getD .bT)=c at*;generalize Rm (l[x]?.getD .bT)=a' at*;generalize Rm (l[y]?.getD .bT)=b' at*;generalize Rm (l[z]?.getD .bT)=c' at*;have n1:¬a<b:=λq=>h1 (.inl q)
  have n2:¬b<c:=λq=>h2 (.inl q)
  have l1:b<=a:=List.not_lt.1 n1;have l2:c<=b:=List.not_lt.1 n2;rcases h with h|⟨rfl,h⟩
  ·exact List.not_lt.2 (List.le_trans l2 l1) h
  ·have e:a=b:=List.le_antisymm l2 l1;subst e;have m1:¬a'<b':=λq=>h1 (.inr ⟨rfl,q⟩)
   have m2:¬b'<c':=λq=>h2 (.inr ⟨rfl,q⟩)
   exact List.not_lt.2 (List.le_trans (List.not_lt.1 m2) (List.not_lt.1 m1)) h
theorem uV (l:List Tree):(permA l).toList.Perm (List.range l.length):=by
 have h:=(pdq_sorts (ltOf (Xr l)) (acm l) (Array.range l.length) 0 (Array.range l.length).size (Lib.bitLen l.length) true true (Nat.zero_le _) (Nat.le_refl _) (Or.inl rfl)).1;have h3:=h.2.2;have hs:=h.1;simp only[Array.size_range] at h3 hs;have e1:(permA l).extract 0 l.length=permA l:=by
  have:(permA l).size=l.length:=hs;rw[← this];exact Array.extract_size
 have e2:(Array.range l.length).extract 0 l.length=Array.range l.length:=by
  have:=Array.extract_size (xs:=Array.range l.length);rwa [Array.size_range] at this
 have h4:((permA l).extract 0 l.length).toList.Perm ((Array.range l.length).extract 0 l.length).toList:=h3;rw[e1,e2] at h4;simpa using h4
theorem uW (l:List Tree):(permA l).size=l.length:=by
 have:=(uV l).length_eq;simpa using this
theorem mR (l:List Tree):(mQ l).length=l.length:=by simp[mQ,uW]
theorem LW {l:List Tree}{j:Nat}(hj:j<l.length):(permA l)[j]! <l.length:=by
 have hj':j<(permA l).size:=by rw[uW];exact hj
 rw[getElem!_pos _ j hj'];have:(permA l)[j]∈(permA l).toList:=by simp
 have:=(uV l).mem_iff.1 this;simpa using this
theorem AH {l:List Tree}{j:Nat}(hj:j<l.length):(mQ l)[j]?=l[(permA l)[j]!]?:=by
 have hj':j<(permA l).size:=by rw[uW];exact hj
 have h:=LW hj;rw[getElem!_pos _ j hj'] at h ⊢;simp only[mQ,List.getElem?_map,Array.getElem?_toList,Array.getElem?_eq_getElem hj',Option.map_some,List.getElem?_eq_getElem h,Option.getD_some]
theorem qg {l:List Tree}{x:Tree}(h:x∈mQ l):x∈l:=by
 obtain⟨j,hj,e⟩:=List.getElem_of_mem h;rw[mR] at hj;have h1:=AH hj;rw[List.getElem?_eq_getElem (by rw[mR];exact hj),e] at h1;exact List.mem_of_getElem? h1.symm
theorem E7 (l:List Tree):(mQ l).Perm l:=by
 have h:=(uV l).map λi=>l[i]?.getD .bT
 have e:(List.range l.length).map (λi=>l[i]?.getD .bT)=l:=by
  apply List.ext_getElem
  ·simp
  ·intro i h1 h2;simp[List.getElem?_eq_getElem h2]
 exact h.trans (List.Perm.of_eq e)
theorem N5 (l:List Tree):(mQ l).Pairwise λa b=>¬pI b a<0:=by
 have h:=(pdq_sorts (ltOf (Xr l)) (acm l) (Array.range l.length) 0 (Array.range l.length).size (Lib.bitLen l.length) true true (Nat.zero_le _) (Nat.le_refl _) (Or.inl rfl)).2;simp only[Array.size_range] at h;rw[List.pairwise_iff_getElem];intro i j hi hj hij;have hi2:=hi;have hj2:=hj;rw[mR] at hi2 hj2;have h1:ltOf (Xr l) (permA l)[j]! (permA l)[i]! =false:=h i j (Nat.zero_le _) hij hj2;have gi:=AH hi2;have gj:=AH hj2;rw[List.getElem?_eq_getElem hi] at gi;rw[List.getElem?_eq_getElem hj] at gj;unfold ltOf Xr at h1;rw[← gi,← gj] at h1;exact of_decide_eq_false h1
theorem Js {l:List Tree}(hn:l.Nodup)(hl:∀e∈l,AtF e):(mQ l).Pairwise λa b=>pI a b<0:=by
 have h2:(mQ l).Nodup:=(E7 l).nodup_iff.2 hn;refine List.Pairwise.imp_of_mem (R:=λa b=>¬pI b a<0/\a≠b) ?_ ((N5 l).and h2);rintro a b ha hb ⟨h3,h4⟩;obtain⟨s,t,rfl⟩:=hl a (qg ha);obtain⟨s2,t2,rfl⟩:=hl b (qg hb);exact Decidable.byContradiction λg=>h4 (I1.1 (Pg g h3))
theorem xN:∀(L:List Tree) (hu:∀e∈L,e.cells.length=2) (j:Nat),(flat L)[j]?=(L[j / 2]?).bind λe=>e.cells[j % 2]?
 | [],_,j=>by simp[flat]
 | a ::L,hu,j=>by
   have ha:a.cells.length=2:=hu a List.mem_cons_self
   have ih:=xN L (λe he=>hu e (List.mem_cons_of_mem _ he))
   have e:flat (a::L)=a.cells++flat L:=rfl
   rw[e]
   by_cases h:j<2
   · rw[List.getElem?_append_left (by omega),Nat.div_eq_of_lt h,Nat.mod_eq_of_lt h];rfl
   · obtain⟨k,rfl⟩:∃k,j=k+2:=⟨j - 2,by omega⟩
     rw[List.getElem?_append_right (by omega),ha,Nat.add_sub_cancel,ih,Nat.add_div_right _ (by decide),Nat.add_mod_right]
     rfl
theorem Y5 (x:ByteArray)(w:World):Calls Tryz.prog 130 #[.string x] w λe w'=>e=.returned (.bool false)/\w'=w:=by
 go_enter Tryz.func130,Tryz.ntmps130;go_wp2;go_ret;exact⟨by simp,rfl⟩
theorem bytesLess_eq:∀(x y:List UInt8),Op.bytesLess x y=decide (x<y)
 | [],[]=>by simp[Op.bytesLess]
 |_::_,[]=>by simp[Op.bytesLess]
 | [],_::_=>by simp[Op.bytesLess]
 |a::x,b::y=>by
  rw[Op.bytesLess,bytesLess_eq x y]
  simp only[List.cons_lt_cons_iff]
  by_cases h1:a<b<;>by_cases h2:a=b<;>by_cases h3:x<y<;>simp[h1,h2,h3]
theorem afv (x y:List UInt8)(w:World):Sem.run Tryz.prog (binOp .gtr 9 (.string ⟨x.toArray⟩) (.string ⟨y.toArray⟩)) w=.ok (.bool (!(Op.bytesLess x y||x==y))) w:=by
 simp[binOp,Op.stringOp,Lib.toList_data]
theorem afw {x y:List UInt8}(h1:¬x<y)(h2:x≠y):y<x:=by
 by_cases h:y<x
 ·exact h
 ·exact absurd (List.le_antisymm (List.not_lt.1 h) (List.not_lt.1 h1)) h2
set_option maxHeartbeats 1000000 in
theorem GX (x y:List UInt8)(w:World):Calls Tryz.prog 84 #[.string ⟨x.toArray⟩,.string ⟨y.toArray⟩] w λe w'=>e=.returned (.int .i64 (sw x y))/\w'=w:=by
 go_enter Tryz.func84,Tryz.ntmps84;go_wp2_with (go_at_call 130;refine(Y5 _ _).mono ?_;rintro e w' ⟨rfl,rfl⟩)
 ·rename_i h;have h:=of_decide_eq_true ((bytesLess_eq x y).symm.trans h);rw[show sw x y=-1 from if_pos h];go_ret;exact⟨rfl,rfl⟩
 ·rename_i h _ _ _ _ _ _;have hx:¬x<y:=of_decide_eq_false ((bytesLess_eq x y).symm.trans h);rw[afv,h,Bool.false_or];simp only[Result.andThen_ok];obtain⟨b,hb⟩:∃b,b=(x==y):=⟨_,rfl⟩;have hc:sw x y=if b=true then 0 else 1:=by
   unfold sw;rw[if_neg hx];by_cases e:x=y
   ·subst e;simp[hb,hx]
   ·have:(x==y)=false:=by simpa using e
    rw[if_pos (afw hx e),hb,this];rfl
  rw[← hb];clear hb;cases b
  ·go_wp2;go_ret;exact⟨by first|rfl|(rw[hc];rfl),rfl⟩
  ·go_wp2;go_ret;exact⟨by first|rfl|(rw[hc];rfl),rfl⟩
def rz (us:Array Value)(n i:Nat):List Value:=if i<n then(us.toList.drop (i*2)).take 2 else [.string ⟨#[]⟩,.string ⟨#[]⟩]
set_option maxHeartbeats 1000000 in
theorem ahY (b off cap:Nat)(x y:Int)(W:World)(h0:W.cell? ⟨b,off,none⟩=some (.int .i64 x))(h1:W.cell? ⟨b,off+1,none⟩=some (.int .i64 y)):
 Calls Tryz.prog 83 #[.slice (some ⟨b,off,none⟩) 2 cap] W λe w'=>e=.returned (.int .i64 (Yv x y))/\w'=W:=by
 go_enter Tryz.func83,Tryz.ntmps83
 go_wp2
 go_loopw [8] (λi wr=>wr=W/\(i=.int .i64 0\/(i=.int .i64 1/\x=0)\/(i=.int .i64 2/\x=0/\y=0))) (λi _=>2 - (intOf i).toNat)
 case atStart=>exact⟨rfl,.inl rfl⟩
 case round=>
  obtain⟨rfl,rfl|⟨rfl,rfl⟩|⟨rfl,rfl,rfl⟩⟩:=hrel
  ·go_wp2
   ·rename_i h;have hx:x≠0:=by simpa using h
    have e:Yv x y=x:=if_pos hx;go_ret;exact⟨by rw[e];rfl,rfl⟩
   ·rename_i h;have hx:x=0:=by simpa using h
    exact⟨⟨trivial,.inr (.inl ⟨rfl,hx⟩)⟩,by decide⟩
  ·have e:Yv 0 y=y:=by simp[Yv]
   go_wp2
   ·go_ret;exact⟨by rw[e];rfl,rfl⟩
   ·rename_i h;have hy:y=0:=by simpa using h
    exact⟨⟨trivial,.inr (.inr ⟨rfl,trivial,hy⟩)⟩,by decide⟩
  ·go_wp2;go_ret;exact⟨rfl,rfl⟩
set_option maxRecDepth 100000 in
set_option maxHeartbeats 2000000 in
theorem VO (a b a' b':List UInt8)(W:World):
 Calls Tryz.prog 37 #[.agg #[.string ⟨a.toArray⟩,.string ⟨b.toArray⟩],.agg #[.string ⟨a'.toArray⟩,.string ⟨b'.toArray⟩]] W λe w'=>e=.returned (.int .i64 (Yv (sw a a') (sw b b')))/\∃q os',w'=grow (W.drewN q) os':=by
 have hc1:=λW'=>GX a a' W'
 have cW:=λW'=>GX b b' W'
 generalize sw a a'=r1 at hc1 ⊢
 generalize sw b b'=r2 at cW ⊢
 go_enter Tryz.func37,Tryz.ntmps37
 go_wp2
 refine wp_region_still_tail 10 (by kernel_rfl) (by kernel_rfl) ?_
 obtain⟨U,hU⟩:∃U,U=(W.alloc (.cells #[.string ⟨a.toArray⟩,.string ⟨b.toArray⟩] 24)).alloc (.cells #[.string ⟨a'.toArray⟩,.string ⟨b'.toArray⟩] 24):=⟨_,rfl⟩
 rw[← hU]
 generalize hV:({U with drawn:=U.drawn+1}:World)=V
 have c1:V.cell? ⟨W.heap.size,0,none⟩=some (.string ⟨a.toArray⟩):=by rw[← hV];show U.cell? _=_;rw[hU];simp[go_sem]
 have c2:V.cell? ⟨W.heap.size,1,none⟩=some (.string ⟨b.toArray⟩):=by rw[← hV];show U.cell? _=_;rw[hU];simp[go_sem]
 have c3:V.cell? ⟨W.heap.size+1,0,none⟩=some (.string ⟨a'.toArray⟩):=by rw[← hV];show U.cell? _=_;rw[hU];simp[go_sem]
 have c4:V.cell? ⟨W.heap.size+1,1,none⟩=some (.string ⟨b'.toArray⟩):=by rw[← hV];show U.cell? _=_;rw[hU];simp[go_sem]
 simp only[List.take_succ_cons,List.take_zero,List.drop_succ_cons,List.drop_zero]
 iterate 4 still_step
 still_call (hc1 _)
 iterate 4 still_step
 still_call (cW _)
 refine wpStill_nil ?_
 go_wp2_with (go_at_call 83;refine(ahY _ _ _ r1 r2 _ (by simp[go_sem]) (by simp[go_sem])).mono ?_;rintro e w' ⟨rfl,rfl⟩)
 go_ret
 refine⟨rfl,1,(#[.cells #[.string ⟨a.toArray⟩,.string ⟨b.toArray⟩] 24]++ #[.cells #[.string ⟨a'.toArray⟩,.string ⟨b'.toArray⟩] 24])++ #[.cells #[.int .i64 r1,.int .i64 r2] 3], ?_⟩
 rw[← hV,hU,alloc_eq_grow,alloc_eq_grow,alloc_eq_grow,grow_grow]
 exact grow_grow (W.drewN 1) _ _
set_option maxHeartbeats 1000000 in
theorem VP (m:Int)(l:List Tree)(hl:l.length<=4194304)(hne:l≠ [])(hf:∀e∈l,AtF e):
 aq (cf m) 36 [.ref (.arg 0) 0 l.length,.t (.fn (.func 37))] [.arr (24,true) 2 false ((flat l).map .t)] (.ret (.t (.cv [])) [.arr (24,true) 2 false ((flat (mQ l)).map .t)] []):=by
 intro G w vs hw hg had hH hv
 obtain⟨x,vs1,rfl,hx,hv⟩:=hv.fQ
 obtain⟨y,rfl,hy⟩:=hv.only
 obtain⟨hd,ho⟩:=hH (.arg 0) _ rfl
 obtain⟨_,cap,us,ty,fr,ha,hh,⟨mX,hty⟩,hsz,hcl,ko,hF⟩:=ho
 have hu:∀e∈l,e.cells.length=2:=λe he=>by obtain⟨n,s,rfl⟩:=hf e he;rfl
 have hu2:∀e∈mQ l,e.cells.length=2:=λe he=>hu e (qg he)
 have hn:((flat l).map TV.t).length=l.length*2:=by rw[List.length_map,ff hu]
 have hn2:((flat (mQ l)).map TV.t).length=l.length*2:=by rw[List.length_map,ff hu2,mR]
 rw[hn] at ha hcl ko
 have hpos:0<l.length:=by cases l with|nil=>exact absurd rfl hne|cons=>simp
 obtain rfl:y=.func (.func 37) #[] #[]:=by
  cases hy with|t _ _ hy=>cases hy;rfl
 obtain rfl:x=.slice (some ⟨G.mu (.arg 0),0,none⟩) l.length cap:=by
  cases hx with
  | ref k off len n bD cap' v hd' og hle' ho' vz=>
    rw[ha] at og;cases og
    obtain⟨a,rfl,h2⟩:=vz (by omega)
    have:=h2 (by omega)
    subst this;rfl
 have hcell:∀q c,(flat l)[q]?=some c->∃v,us[q]?=some v/\VT G.F c v:=λq c hc=>by
  have hq:q<l.length*2:=by rw[← ff hu];exact(List.getElem?_eq_some_iff.1 hc).1
  obtain⟨v,Xk,XN⟩:=ko.at (j:=q) (c:=.t c) (by rw[List.getElem?_map,hc];rfl);rw[List.getElem?_take_of_lt hq,Array.getElem?_toList] at Xk;cases XN with|t _ _ h=>exact⟨v,Xk,h⟩
 have Y6:∀i,rz us l.length i=[.string ⟨(Bk (l[i]?.getD .bT)).toArray⟩,.string ⟨(Rm (l[i]?.getD .bT)).toArray⟩]:=λi=>by
  by_cases hi:i<l.length
  ·obtain⟨n,s,he⟩:=hf l[i] (List.getElem_mem hi);have hat:∀r,r<2->(flat l)[i*2+r]?=(Tree.agg [.str n,.str s]).cells[r]?:=λr hr=>by
    rw[xN l hu,show(i*2+r)/ 2=i by omega,show(i*2+r) % 2=r by omega,List.getElem?_eq_getElem hi,he];rfl
   obtain⟨v0,h0,w0⟩:=hcell _ _ (hat 0 (by decide));obtain⟨v1,h1,w1⟩:=hcell _ _ (hat 1 (by decide));have hnm:Bk (l[i]?.getD .bT)=n:=by rw[List.getElem?_eq_getElem hi,Option.getD_some,he];rfl
   have ahZ:Rm (l[i]?.getD .bT)=s:=by rw[List.getElem?_eq_getElem hi,Option.getD_some,he];rfl
   have wL:rz us l.length i=[v0,v1]:=by
    unfold rz;rw[if_pos hi];apply List.ext_getElem?;intro r;by_cases hr:r<2
    ·rw[List.getElem?_take_of_lt hr,List.getElem?_drop,Array.getElem?_toList];match r,hr with
     |0,_=>exact h0
     |1,_=>exact h1
    ·rw[List.getElem?_eq_none (by simp;omega),List.getElem?_eq_none (by simp;omega)]
   rw[wL,hnm,ahZ];cases w0;cases w1;rfl
  ·unfold rz;rw[if_neg hi,List.getElem?_eq_none (by omega)];rfl
 have hk:∀i,(rz us l.length i).length=2:=λi=>by rw[Y6 i];rfl
 have h1:∀i,∀v∈rz us l.length i,v.oneCell'=true:=λi v hv=>by
  rw[Y6 i] at hv;simp only[List.mem_cons,List.not_mem_nil,or_false] at hv;rcases hv with rfl|rfl<;>rfl
 have hcmp:CmpLays Tryz.prog 37 #[] (rz us l.length) 2 (Xr l) (G.mu (.arg 0)) 0 (Array.range l.length).size w:=λmm os dk _ i j=>by
  have e:=Y6 i;have e':=Y6 j;generalize sortWorldK (rz us l.length) 2 w (G.mu (.arg 0)) 0 mm dk os=W;rw[e,e'];exact VO _ _ _ _ W
 have hrd:∀i,i<l.length->(Array.range l.length)[i]! =i:=λi hi=>by simp[hi]
 have afx:∀(D:Array Nat),D.size=l.length->(∀q,q<l.length->D[q]! <l.length)->∀j,j<l.length*2->us[D[j / 2]! *2+j % 2]?=some (flatK (rz us l.length) 2 D)[j]!:=λD hD hlt j hj=>by
  have hj5:j / 2<l.length:=by omega
  have hq:=hlt _ hj5;rw[get_flatK _ _ _ _ (by rw[hD];exact hj)];have hlen:D[j / 2]! *2+j % 2<us.size:=by omega
  have:(rz us l.length D[j / 2]!)[j % 2]?=us[D[j / 2]! *2+j % 2]?:=by
   unfold rz;rw[if_pos hq,List.getElem?_take_of_lt (by omega),List.getElem?_drop,Array.getElem?_toList]
  rw[← this];have h5:j % 2<(rz us l.length D[j / 2]!).length:=by rw[hk];omega
  rw[List.getElem?_eq_getElem h5,getElem!_pos (rz us l.length D[j / 2]!) (j % 2) h5]
 have afy:HoldsK (rz us l.length) 2 w (G.mu (.arg 0)) 0 (Array.range l.length):=λj hj=>by
  have hj':j<l.length*2:=by simpa using hj
  have hju:j<us.size:=by omega
  refine⟨?_,by rw[Nat.zero_add];exact nW hh mX hju⟩;have:=afx (Array.range l.length) (by simp) (λq hq=>by rw[hrd q hq];exact hq) j hj';rw[hrd _ (by omega),show j / 2*2+j % 2=j by omega] at this;simp only[World.cell?,hh,Nat.zero_add];exact this
 have eg:∀args w,(callFunc 37 args).run Tryz.prog w=.ok (.enter 37 args) w:=enters_of Tryz.func37 (by kernel_rfl) rfl
 have es:∀args w,(callFunc 36 args).run Tryz.prog w=.ok (.enter 36 args) w:=enters_of Tryz.func36 (by kernel_rfl) rfl
 have afz:=AnyQ.slices_SortFunc_eq Tryz.sortf36 2 Tryz.isAgg24 Tryz.sizeOf24 (rz us l.length) hk h1 (Xr l) (acm l) 37 #[] (G.mu (.arg 0)) 0 cap (Array.range l.length) w eg hcmp afy (hw.lt _ hd) (by simp;omega)
 rw[Array.size_range] at afz
 refine .inl ⟨es _ _,Calls.mono afz ?_⟩
 rintro e w' ⟨rfl,q,os,rfl⟩
 have hps:=uW l
 obtain⟨D,hD⟩:∃D,D=permA l:=⟨_,rfl⟩
 have hDs:D.size=l.length:=by rw[hD];exact hps
 have hDl:∀q,q<l.length->D[q]! <l.length:=λq hq=>by rw[hD];exact LW hq
 change sL G w 1 _ _ (sortWorldK (rz us l.length) 2 w (G.mu (.arg 0)) 0 q (permA l) os)
 rw[← hD]
 obtain⟨w',hw'⟩:∃w',w'=sortWorldK (rz us l.length) 2 w (G.mu (.arg 0)) 0 q D os:=⟨_,rfl⟩
 rw[← hw']
 have gB:w.grownBy w' (some (G.mu (.arg 0))):=by
  rw[hw'];unfold sortWorldK putRowK;refine⟨rfl,rfl,rfl,by simp,λk hk hne=> ?_⟩;rw[heap_grow_old _ _ (by simpa using hk)];have:G.mu (.arg 0)≠k:=λe=>hne (by rw[e])
  simp[putRow,mapBlock,Sort.ahead,Array.getElem?_modify,this]
 have hblk:w'.heap[G.mu (.arg 0)]?=some (.cells (putCells id 0 (flatK (rz us l.length) 2 D) us) ty fr):=by
  rw[hw'];unfold sortWorldK putRowK;rw[heap_grow_old _ _ (by simpa using hw.lt _ hd)];simp only[putRow,mapBlock,Sort.ahead,Array.getElem?_modify,if_true,hh,Option.map_some,onCells]
 have hcs:(putCells id 0 (flatK (rz us l.length) 2 D) us).size=us.size:=by simp[putCells]
 refine⟨_,G,rfl,⟨.refl G,⟨λb o v hf=> ?_,hw.inj,λk d=>Nat.lt_of_lt_of_le (hw.lt k d) gB.size⟩,λ_ _ h=>absurd trivial h,λb hlt hn=>⟨gB.block b hlt λe=>hn _ trivial hd (Gh.fW ha (by decide)) (Option.some.inj e).symm,λ_=>rfl⟩,λ_ d=>.inl d,λk d=>.inl ⟨k,d,rfl,.inl rfl⟩,gB.size,gB.os,gB.tape,gB.output⟩,rfl,λi o ho=> ?_,λ_ _ h=>by simp at h, ?_⟩
 ·obtain⟨us',t',f',h1,h2⟩:=hw.F b o v hf;have hb:b≠G.mu (.arg 0):=λe=>by
   subst e;rw[hF o (.inl rfl)] at hf;cases hf
  exact⟨us',t',f',by rw[gB.block b (Array.getElem?_eq_some_iff.1 h1).1 λe=>hb (Option.some.inj e)];exact h1,h2⟩
 ·match i,ho with
  | 0,ho=>
    simp at ho;subst ho
    refine⟨hd,by decide,cap,_,ty,fr,by rw[hn2];exact ha,hblk,⟨λo ho=>mX o (by rw[hcs] at ho;exact ho),hty⟩,by rw[hcs];exact hsz,by rw[hn2,hcs];exact hcl, ?_,λo _=>hF o (.inl rfl)⟩
    rw[hn2]
    have hlq:(putCells id 0 (flatK (rz us l.length) 2 D) us).toList.length=us.size:=(Array.length_toList (xs:=putCells id 0 (flatK (rz us l.length) 2 D) us)).trans hcs
    refine⟨by rw[List.length_take,hlq,hn2];omega,λj c v hc hv=> ?_⟩
    rw[List.getElem?_map,Option.map_eq_some_iff] at hc
    obtain⟨c,hc,rfl⟩:=hc
    have hj:j<l.length*2:=by rw[← hn2,List.length_map];exact(List.getElem?_eq_some_iff.1 hc).1
    rw[List.getElem?_take_of_lt hj,Array.getElem?_toList] at hv
    have hju:j<us.size:=by omega
    have XN:v=(flatK (rz us l.length) 2 D)[j]!:=by
      simp only[putCells,Array.getElem?_mapIdx,Array.getElem?_eq_getElem hju,Option.map_some,size_flatK,hDs,Nat.zero_le,true_and,Nat.zero_add,if_pos hj,Option.some.injEq,Nat.sub_zero,id] at hv
      exact hv.symm
    have h3:=afx D hDs hDl j hj
    rw[xN _ hu2,AH (by omega),← hD] at hc
    have cW:(flat l)[D[j / 2]! *2+j % 2]?=some c:=by
      rw[xN l hu,show(D[j / 2]! *2+j % 2)/ 2=D[j / 2]! by omega,show(D[j / 2]! *2+j % 2) % 2=j % 2 by omega]
      exact hc
    obtain⟨v',h4,h5⟩:=hcell _ _ cW
    rw[h3] at h4
    cases h4
    rw[XN]
    exact .t _ _ h5
 ·exact .t _ _ (.cv [] [] rfl (by simp))
end Go.Proofs.YtnfnihgmankidaaGreatDoor.w
namespace Go.Proofs.YtnfnihgmankidaaGreatDoor.w.e
open Go Go.Abs
set_option maxRecDepth 100000
set_option maxHeartbeats 2000000
noncomputable section
theorem VQ {l:List Tree}{i:Nat}{p:Tree->List Tree}{x:Tree}(he:l[i]?=some x)(h:∀e∈l.take i,¬vE p (gT e) (cm e))(hx:¬vE p (gT x) (cm x)):∀e∈l.take (i+1),¬vE p (gT e) (cm e):=λe hm=>by
 rw[nv he] at hm;rcases List.mem_append.1 hm with hm|hm
 ·exact h e hm
 ·rw[List.mem_singleton.1 hm];exact hx
theorem LX {x:Tree}:∀{es:List (TV×TV×Nat)} {i:Nat},gl es x i=none->∀e∈es,e.1≠ .t x
 | [],_,_=>λe he=>by cases he
 | (k,v,b)::r,i,h=>λe he=>by
   unfold gl at h
   split at h
   · cases h
   · rename_i hk
     rcases List.mem_cons.1 he with rfl|he
     · exact hk
     · exact LX h e he
def KN (es:List (TV×TV×Nat))(L:List Tree):Prop:=∃ks:List Tree,es.map (λe=>e.1)=ks.map TV.t/\ks.Nodup/\∀y,y∈ks↔y∈L.map cm
theorem KN.nil:KN [] []:=⟨[],rfl,List.nodup_nil,λy=>by simp⟩
theorem KN.step {es:List (TV×TV×Nat)}{l:List Tree}{i c:Nat}{e x:Tree}{v:Int}(h:KN es (l.take i))(hk:KM bl es)(he:l[i]?=some e)(hx:cm e=x):KN (k6 es c x v) (l.take (i+1)):=by
 obtain⟨ks,h1,h2,h3⟩:=h;have hm:∀y,y∈(l.take (i+1)).map cm↔y∈(l.take i).map cm\/y=x:=λy=>by
  rw[nv he,List.map_append,List.mem_append,List.map_singleton,List.mem_singleton,hx]
 unfold k6;split
 ·rename_i j w b hf;obtain⟨_,h4,_⟩:=uG hk 0 j w b hf;rw[Nat.sub_zero] at h4;have h5:(es.map λe=>e.1)[j]?=some (.t x):=by rw[List.getElem?_map,h4];rfl
  have hxk:x∈ks:=by
   rw[h1,List.getElem?_map] at h5;obtain⟨z,hz,e2⟩:=Option.map_eq_some_iff.1 h5;cases e2;exact kQ hz
  refine⟨ks, ?_,h2,λy=> ?_⟩
  ·rw[ List.map_set,← h1];apply List.ext_getElem?;intro q;rw[List.getElem?_set];split
   ·rename_i e3;subst e3;split
    ·exact h5.symm
    ·rename_i h6;exact absurd (List.getElem?_eq_some_iff.1 h5).1 h6
   ·rfl
  ·rw[hm,← h3];exact⟨.inl,λq=>q.elim id λq=>q▸hxk⟩
 ·rename_i hf;have hxk:x∉ks:=λq=>by
   have h6:TV.t x∈es.map λe=>e.1:=by rw[h1];exact List.mem_map_of_mem q
   obtain⟨z,hz,e2⟩:=List.mem_map.1 h6;exact LX hf z hz e2
  refine⟨ks++[x], ?_, ?_,λy=> ?_⟩
  ·rw[List.map_append,List.map_append,h1];rfl
  ·rw[List.nodup_append];exact⟨h2,by simp,λa ha b hb=>by rw[List.mem_singleton.1 hb];exactλq=>hxk (q▸ha)⟩
  ·rw[hm,← h3,List.mem_append,List.mem_singleton]
theorem KN.lt {es:List (TV×TV×Nat)}{l:List Tree}(h:KN es l):es.length<l.length↔¬(l.map cm).Nodup:=by
 obtain⟨ks,h1,h2,h3⟩:=h;have h4:es.length=ks.length:=by simpa using congrArg List.length h1
 have h5:=Nr h2 h3;rw[List.length_map] at h5;rw[h4];exact h5
inductive mS (m:Int)(l:List Tree):Int->Prop
 |many:64<l.length->mS m l 2
 |bad {i:Nat} {e:Tree} {r:Int}:l.length<=64->l[i]?=some e->(∀x∈l.take i,CT m x=0)->CT m e=r->r≠0->mS m l r
 |PL:l.length<=64->(∀x∈l,CT m x=0)->¬(l.map cm).Nodup->mS m l 10
 |order:l.length<=64->(∀x∈l,CT m x=0)->(l.map cm).Nodup->¬yT l->mS m l 5
 |cycle:l.length<=64->(∀x∈l,CT m x=0)->(l.map cm).Nodup->yT l->(∃e∈l,vE (iY (eV m) l) (gT e) (cm e))->mS m l 12
 |ok:l.length<=64->(∀x∈l,CT m x=0)->(l.map cm).Nodup->yT l->(∀e∈l,¬vE (iY (eV m) l) (gT e) (cm e))->mS m l 0
theorem tH (m:Int):∃F:Tree->Int,∀x,(T .ah x)->R1 (cf m) 23 x (.int .i64 (F x))/\(mS m (gR x) (F x)):=by
 refine Iv (P:=λx=>T .ah x) (mk:=λ(r:Int)=>.int .i64 r) (Post:=λx r=>mS m (gR x) r) λx hx=> ?_
 show ∃r:{r:Int // mS m (gR x) r},aq (cf m) 23 [.t x] [] (.ret (.t (.int .i64 r.1)) [] []);have dB:=hx;obtain⟨v_1,rfl,lp,iX⟩:=T.bU dB;obtain⟨E8,LY⟩:=EX m;obtain⟨aaB,aaC⟩:=VG m;obtain⟨VU,afA⟩:=Y4 m;obtain⟨Lx,LA⟩:=Lw m;obtain⟨ev,aC,E9,aaD,afB,EW⟩:∃ev,aI (cf m) ev/\Has ev 28 (xU (λx=>T .aB x) (λx=>.int .i64 (E8 x)))/\Has ev 43 (wB (λx y=>T .ah x/\y=.fn (.func 44)) (λx y=>.bool (aaB x y)))/\Has ev 35 (wB (λx y=>(T .ah x/\E5 x)/\(T .cz y/\(gR y).length<=16)) (λx y=>.sl (VU x y)))/\Has ev 45 (wB (λx y=>T .cz x/\T .av y) (λx y=>.bool (Lx x y))):=⟨_,(aA (eD (λx h=>(LY x h).1)) (aA (ec (λx y h=>(aaC x y h).1)) (aA (ec (λx y h=>(afA x y h).1)) (aA (ec (λx y h=>(LA x y h).1)) aN)))),aF,(au rfl aF),(au rfl (au rfl aF)),(au rfl (au rfl (au rfl aF)))⟩;refine AX.start 54 1 Tryz.func23 rfl (by decide) rfl rfl (by decide) ?_;refine AX.frames ?_;rcases bw (decide (((v_1.length:Nat):Int)>64)) with cW|cW
 ·have mI:=of_decide_eq_true cW;refine⟨⟨2, ?_⟩,kf ai [oB cW]⟩;exact mS.many (by show 64<List.length v_1;omega)
 ·have mI:=of_decide_eq_false cW;refine kl (α:=Nat×List (TV×TV×Nat)×Nat) ai 0 [] 54 1 [.loc [4]] [.loc [4]] [0,3,13,14,15] (λx=>⟨ei 54 [(0,.t (.sl v_1)),(3,.map (.loc [0])),(13,.t (.sl v_1)),(14,.t (.int .i64 ((v_1.length:Nat):Int))),(15,.t (.int .i64 ((x.1:Nat):Int)))],[(.loc [0],.map x.2.1 x.2.2)],1⟩) (λx=>(x.1<=v_1.length)/\(∀e∈v_1.take x.1,CT m e=0)/\(KN x.2.1 (v_1.take x.1))/\(KM bl x.2.1/\KB x.2.1 x.2.2)) (λx=>v_1.length - x.1) (⟨0,[],0⟩) (qD (Tryz.f23.body.getD .skip) 5) [oB cW,fU bl [] 0 KM.nil] ⟨Nat.zero_le _,λe he=>(by cases he),(by rw[List.take_zero];exact .nil),KM.nil,KB.nil⟩ (λx hok=> ?_);obtain⟨Fu,bB,bJ⟩:=x;replace hok:(Fu<=v_1.length)/\(∀e∈v_1.take Fu,CT m e=0)/\(KN bB (v_1.take Fu))/\(KM bl bB/\KB bB bJ):=hok;obtain⟨iQ,dm,gQ,eX⟩:=hok;rcases bw (decide (((Fu:Nat):Int)<((v_1.length:Nat):Int))) with gh|gh
  ·have uH:=of_decide_eq_true gh;obtain⟨e5,wL⟩:=iO v_1 Fu;have yV:=(iX e5 (kQ wL));obtain⟨b9,dF,hM,eu,ia,ic,ig,ij,dL,ew,rfl,I9,Ja,Nu,Nv,Nw,Nx,VA,VB,VC,VD⟩:=T.bg yV;have Rq:=(LY (.agg [.str b9,.str dF,.sl hM,.int .u8 eu,.bool ia,.int .i64 ic,.str ig,.str ij,.sl dL,.sl ew]) yV).2;have afC:=dM E9 (x:=.agg [.str b9,.str dF,.sl hM,.int .u8 eu,.bool ia,.int .i64 ic,.str ig,.str ij,.sl dL,.sl ew]) yV;rcases bw (((E8 (.agg [.str b9,.str dF,.sl hM,.int .u8 eu,.bool ia,.int .i64 ic,.str ig,.str ij,.sl dL,.sl ew])) != 0)) with jB|jB
   ·have wN:=bQ jB;refine kx ai [oB gh,oE wL,oC afC,oB jB] ?_;refine⟨⟨(E8 (.agg [.str b9,.str dF,.sl hM,.int .u8 eu,.bool ia,.int .i64 ic,.str ig,.str ij,.sl dL,.sl ew])), ?_⟩,kf ai []⟩;exact mS.bad (by show List.length v_1<=64;omega) wL dm Rq.2.symm (bne_iff_ne.1 jB)
   ·have wN:=aM jB;exact⟨.inl ⟨⟨Fu+1,(k6 bB bJ (.agg [.str b9,.str dF]) (IntKind.wrap .i64 ((iG bB (.agg [.str b9,.str dF]))+1))),(s7 bB bJ (.agg [.str b9,.str dF]))⟩,⟨⟨(by show(Fu+1)<=v_1.length;omega),(Bl wL (Rq.2.symm.trans (aM jB)) dm),(gQ.step eX.1 wL rfl),⟨(iL eX.1 ⟨_,_,rfl⟩ _ _),(KB.up eX.2 eX.1 _ _)⟩⟩,(by show(v_1.length - (Fu+1))<(v_1.length - Fu);omega)⟩⟩,kr ai 54 1 [.loc [0]] [0,3,13,14,15] [oB gh,oE wL,oC afC,oB jB,oO (wE (P:=(cf m).P) (es:=bB) (x:=(.agg [.str b9,.str dF])) Cw rfl y7 Sd rfl vu eX.1 ⟨_,_,rfl⟩),oZ,oJ (CP (P:=(cf m).P) (es:=bB) (x:=(.agg [.str b9,.str dF])) Cw rfl y7 Sd rfl vu eX.1 ⟨_,_,rfl⟩ bJ),oM (CQ (x:=(.agg [.str b9,.str dF])) eX.1 eX.2 (iG bB (.agg [.str b9,.str dF])) (IntKind.wrap .i64 ((iG bB (.agg [.str b9,.str dF]))+1))),oP (xB (P:=(cf m).P) (es:=bB) (x:=(.agg [.str b9,.str dF])) Cw rfl y7 Sd rfl vu eX.1 ⟨_,_,rfl⟩ bJ),oI (Fu) (by omega),fU bl (k6 bB bJ (.agg [.str b9,.str dF]) (IntKind.wrap .i64 ((iG bB (.agg [.str b9,.str dF]))+1))) (s7 bB bJ (.agg [.str b9,.str dF])) (iL eX.1 ⟨_,_,rfl⟩ _ _)]⟩
  ·have uH:=of_decide_eq_false gh;refine kx ai [oB gh] ?_;rcases bw (decide (((bB.length:Nat):Int)<((v_1.length:Nat):Int))) with yf|yf
   ·have abZ:=of_decide_eq_true yf;refine⟨⟨10, ?_⟩,kf ai [oB yf]⟩;exact mS.PL (by show List.length v_1<=64;omega) (o4 (l:=v_1) (by omega) dm) ((show KN _ v_1 from(by have h9:=gQ;rw[List.take_of_length_le (by omega)] at h9;exact h9)).lt.1 (by omega))
   ·have abZ:=of_decide_eq_false yf;have acn:=(aaC (.sl v_1) (.fn (.func 44)) ⟨dB,rfl⟩).2;rcases bw ((!(aaB (.sl v_1) (.fn (.func 44))))) with FU|FU
    ·refine⟨⟨5, ?_⟩,kf ai [oB yf,oC (ey aaD (x:=.sl v_1) (y:=.fn (.func 44)) ⟨dB,rfl⟩),oB FU]⟩;exact mS.order (by show List.length v_1<=64;omega) (o4 (l:=v_1) (by omega) dm) (Classical.byContradiction (λg=>absurd ((show KN _ v_1 from(by have h9:=gQ;rw[List.take_of_length_le (by omega)] at h9;exact h9)).lt.2 g) (by omega))) (λh=>absurd (acn.2 h) (by rw[(ow FU)];decide))
    ·have hall:=o4 (by omega) dm;have hrow:E5 (.sl v_1):=⟨by show List.length v_1<=64;omega,λe he=>(Pr m (iX e he) (hall e he)).1⟩;refine kl (α:=Nat) ai 0 [] 54 0 [] [] [0,40,41,42] (λx=>⟨ei 54 [(0,.t (.sl v_1)),(40,.t (.sl v_1)),(41,.t (.int .i64 ((v_1.length:Nat):Int))),(42,.t (.int .i64 ((x:Nat):Int)))],[],0⟩) (λx=>(x<=v_1.length)/\(∀e∈v_1.take x,¬vE (iY (eV m) v_1) (gT e) (cm e))) (λx=>v_1.length - x) 0 (qD (Tryz.f23.body.getD .skip) 17) [oB yf,oC (ey aaD (x:=.sl v_1) (y:=.fn (.func 44)) ⟨dB,rfl⟩),oB FU] ⟨Nat.zero_le _,λe he=>by simp at he⟩ (λx hok=> ?_);obtain⟨Jt,Bo⟩:∃y,y=x:=⟨x,rfl⟩;subst Bo;replace hok:(Jt<=v_1.length)/\(∀e∈v_1.take Jt,¬vE (iY (eV m) v_1) (gT e) (cm e)):=hok;obtain⟨Lt,LZ⟩:=hok;rcases bw (decide (((Jt:Nat):Int)<((v_1.length:Nat):Int))) with RC|RC
     ·have afD:=of_decide_eq_true RC;obtain⟨e14,L3⟩:=iO v_1 Jt;have afE:=(iX e14 (kQ L3));obtain⟨rZ,xO,lu,Xs,aco,acp,acq,acr,VV,Xt,rfl,agN,agO,agP,Ju,agQ,agR,agS,agT,agU,agV⟩:=T.bg afE;have RD:=(afA (.sl v_1) (.sl lu) ⟨⟨dB,hrow⟩,⟨(.cz _ bh Ju),hrow.2 _ (kQ L3)⟩⟩).2;have ajx:=RD.2;have afF:=(LA (.sl (VU (.sl v_1) (.sl lu))) (.agg [.str rZ,.str xO]) ⟨(.cz _ bh RD.1),(.av _ _ bh bh)⟩).2;rcases bw ((Lx (.sl (VU (.sl v_1) (.sl lu))) (.agg [.str rZ,.str xO]))) with uU|uU
      ·refine kx ai [oB RC,oE L3,oC (ey afB (x:=.sl v_1) (y:=.sl lu) ⟨⟨dB,hrow⟩,⟨(.cz _ bh Ju),hrow.2 _ (kQ L3)⟩⟩),oC (ey EW (x:=.sl (VU (.sl v_1) (.sl lu))) (y:=.agg [.str rZ,.str xO]) ⟨(.cz _ bh RD.1),(.av _ _ bh bh)⟩),oB uU] ?_;refine⟨⟨12, ?_⟩,kf ai []⟩;exact mS.cycle (by show List.length v_1<=64;omega) (o4 (l:=v_1) (by omega) dm) (Classical.byContradiction (λg=>absurd ((show KN _ v_1 from(by have h9:=gQ;rw[List.take_of_length_le (by omega)] at h9;exact h9)).lt.2 g) (by omega))) (acn.1 (mH FU)) ⟨_,kQ L3,(RD.2.2.1 _).1 (afF.1 uU)⟩
      ·exact⟨.inl ⟨Jt+1,⟨⟨(by show(Jt+1)<=v_1.length;omega),(VQ L3 LZ (λh=>absurd (afF.2 ((RD.2.2.1 _).2 h)) (by rw[uU];decide)))⟩,(by show(v_1.length - (Jt+1))<(v_1.length - Jt);omega)⟩⟩,kr ai 54 0 [] [0,40,41,42] [oB RC,oE L3,oC (ey afB (x:=.sl v_1) (y:=.sl lu) ⟨⟨dB,hrow⟩,⟨(.cz _ bh Ju),hrow.2 _ (kQ L3)⟩⟩),oC (ey EW (x:=.sl (VU (.sl v_1) (.sl lu))) (y:=.agg [.str rZ,.str xO]) ⟨(.cz _ bh RD.1),(.av _ _ bh bh)⟩),oB uU,oI (Jt) (by omega)]⟩
     ·have afD:=of_decide_eq_false RC;refine kx ai [oB RC] ?_;refine⟨⟨0, ?_⟩,kf ai []⟩;exact mS.ok (by show List.length v_1<=64;omega) (o4 (l:=v_1) (by omega) dm) (Classical.byContradiction (λg=>absurd ((show KN _ v_1 from(by have h9:=gQ;rw[List.take_of_length_le (by omega)] at h9;exact h9)).lt.2 g) (by omega))) (acn.1 (mH FU)) (o4 (l:=v_1) (by omega) LZ)
def dN (m:Int):Tree->Int:=Classical.choose (tH m)
theorem qW (m:Int):∃F:Tree->Int,∀x,(T .ah x)->R1 (cf m) 23 x (.int .i64 (F x))/\((mS m (gR x) (F x))/\F x=dN m x):=⟨dN m,λx h=>⟨(Classical.choose_spec (tH m) x h).1,(Classical.choose_spec (tH m) x h).2,rfl⟩⟩
theorem acs {e:Tree}(h:T .aB e):∃s t,cm e=.agg [.str s,.str t]:=by
 obtain⟨a,b,ps,k,b2,n,s,t,ns,l,rfl,_⟩:=T.bg h;exact⟨a,b,rfl⟩
theorem mS.zero {m:Int}{l:List Tree}{r:Int}(h:mS m l r)(h0:r=0):l.length<=64/\(∀x∈l,CT m x=0)/\(l.map cm).Nodup/\yT l/\∀e∈l,¬vE (iY (eV m) l) (gT e) (cm e):=by
 cases h with
 |many=>exact absurd h0 (by decide)
 |bad _ _ _ _ h=>exact absurd h0 h
 |PL=>exact absurd h0 (by decide)
 |order=>exact absurd h0 (by decide)
 |cycle=>exact absurd h0 (by decide)
 |ok a b c d e=>exact⟨a,b,c,d,e⟩
theorem lH (m:Int){l:List Tree}(h:T .ah (.sl l)):mS m l (dN m (.sl l)):=(Classical.choose_spec (tH m) _ h).2
theorem AI (m:Int){l:List Tree}(h:T .ah (.sl l))(h0:dN m (.sl l)=0):(∀x∈l,CT m x=0)/\nF l/\∀e∈l,¬vE (iY (eV m) l) (gT e) (cm e):=by
 obtain⟨h1,h2,h3,h4,h5⟩:=(lH m h).zero h0;obtain⟨l',e,_,hl⟩:=T.bU h;cases e;exact⟨h2,h4.aho h3 (λe he=>acs (hl e he)),h5⟩
end
end Go.Proofs.YtnfnihgmankidaaGreatDoor.w.e
namespace Go.Proofs.YtnfnihgmankidaaGreatDoor.w.e
open Go Go.Abs
set_option maxRecDepth 100000
set_option maxHeartbeats 2000000
noncomputable section
open Classical in
def pcU (P:Tree->Tree->Prop)(F:Tree->Tree->List Tree):List TV->List aO->Option bk:=λvb os=>match vb,os with
 | [.t x,.t y],[]=>if P x y then some (upR (.loc [0]) (F x y)) else none
 |_,_=>none
theorem acu {C:cE}{g:FuncId}{P:Tree->Tree->Prop}{F:Tree->Tree->List Tree}(h:∀x y,P x y->aq C g [.t x,.t y] [] (upR (.loc [0]) (F x y))):kJ C g (pcU P F):=λa o q hq=>by
 unfold pcU at hq;split at hq
 ·split at hq
  ·rename_i hp;cases hq;exact h _ _ hp
  ·cases hq
 ·cases hq
theorem afG {ev:aW}{g:FuncId}{P:Tree->Tree->Prop}{F:Tree->Tree->List Tree}(h:Has ev g (pcU P F)){x y:Tree}(hp:P x y):ev g [.t x,.t y] []=some (upR (.loc [0]) (F x y)):=h _ _ _ (if_pos hp)
def UpP (x y:Tree):Prop:=(T .ah x/\E5 x)/\(T .cz y/\(gR y).length<=16)/\gR y≠ []
theorem VW (m:Int):∃F:Tree->Tree->List Tree,∀x y,UpP x y->aq (cf m) 35 [.t x,.t y] [] (upR (.loc [0]) (F x y))/\((∀u∈F x y,T .av u)/\(F x y).length<=1040/\(∀v,v∈F x y↔vE (iY (eV m) (gR x)) (gR y) v)/\(F x y).Nodup):=by
 obtain⟨F,hF⟩:=cI (α:=Tree×Tree) (P:=λp=>UpP p.1 p.2) (Q:=λp (r:List Tree)=>aq (cf m) 35 [.t p.1,.t p.2] [] (upR (.loc [0]) r)/\((∀u∈r,T .av u)/\r.length<=1040/\(∀v,v∈r↔vE (iY (eV m) (gR p.1)) (gR p.2) v)/\r.Nodup)) λp hp=>by
  obtain⟨x,y⟩:=p;obtain⟨⟨hx,hr⟩,⟨hy,hs⟩,hne⟩:=hp;obtain⟨l,rfl,hl,hl2⟩:=T.bU hx;obtain⟨sm,rfl,HA,hs2⟩:=T.lF hy;have ahW:sm.length<=16:=hs;have hU:(sm++l.flatMap gT).length<=1040:=by
   have:=LV (l:=l) hr.2;have ahV:l.length<=64:=hr.1;rw[List.length_append];omega
  obtain⟨⟨r,h1,h2,h4⟩,h3⟩:=ahX m l sm (sm++l.flatMap gT) hl hl2 HA hs2 hne (λy hy=>List.mem_append_left _ hy) (λe he y hy=>List.mem_append_right _ (List.mem_flatMap.2 ⟨e,he,hy⟩)) (by omega);exact⟨r,h3,h1,by omega,h4⟩
 exact⟨λx y=>F (x,y),λx y h=>hF (x,y) h⟩
theorem N6 {l:List Tree}{x:Tree}(h:x∈l):x∈mQ l:=by
 obtain⟨i,hi,rfl⟩:=List.getElem_of_mem h;exact List.mem_map.2 ⟨i,(uV l).mem_iff.2 (List.mem_range.2 hi),by simp[List.getElem?_eq_getElem hi]⟩
def Fa (L:List Tree):List TV×List aO:=([.ref (.arg 0) 0 L.length,.t (.fn (.func 37))],[.arr (24,true) 2 false ((flat L).map .t)])
def GY (L:List Tree):Prop:=(∀y∈L,T .av y)/\L≠ []/\L.length<=4194304
def VX (L:List Tree):bk:=.ret (.t (.cv [])) [.arr (24,true) 2 false ((flat (mQ L)).map .t)] []
theorem Y7:∀x y,GY x->GY y->Fa x=Fa y->x=y:=λx y h1 h2 h=>fJ (by decide) (aR h1.1) (aR h2.1) (congrArg (yP 0) h)
theorem acv (m:Int)(L:List Tree)(h:GY L):aq (cf m) 36 (Fa L).1 (Fa L).2 (VX L):=VP m L h.2.2 h.2.1 λe he=>by
 obtain⟨a,b,rfl,_⟩:=T.bx (h.1 e he);exact⟨a,b,rfl⟩
theorem VY (m:Int):aq (cf m) 36 [.t (.sl []),.t (.fn (.func 37))] [] (.ret (.t (.cv [])) [] []):=by
 intro G w vs hw hg had hH hv;obtain⟨x,y,rfl,hx,hy⟩:=hv.two;have es:∀args w,(callFunc 36 args).run Tryz.prog w=.ok (.enter 36 args) w:=enters_of Tryz.func36 (by kernel_rfl) rfl;have hx':∃a cap,x=.slice a 0 cap:=by
  cases hx with|t _ _ hx=>
  generalize hz':([]:List Tree)=l at hx;cases hx with
  |AO a cap=>exact⟨a,cap,rfl⟩
  |sl bD es b o cap vals hne hc hu hF OI=>exact absurd hz'.symm hne
 obtain⟨a,cap,rfl⟩:=hx';refine .inl ⟨es _ _,Calls.mono (AnyF.slices_SortFunc_none Tryz.sortf36 a cap y w) ?_⟩;rintro e w' ⟨rfl,rfl⟩;exact⟨_,G,rfl,Step.refl hw _ _,rfl,λi o ho=>by simp at ho,λ_ _ h=>by simp at h,.t _ _ (.cv [] [] rfl (by simp))⟩
theorem RE:∀x o r,px [.t (.sl []),.t (.fn (.func 37))] [] (.ret (.t (.cv [])) [] []) x o=some r->iK Fa GY VX x o=none:=λx o r hr=>by
 unfold px at hr;split at hr
 ·rename_i hp;unfold iK;refine dif_neg λ⟨z,_,hz⟩=> ?_
  rw[hp.2] at hz;exact absurd (congrArg (λp=>p.2.length) hz) (by simp[Fa])
 ·cases hr
theorem ah0 {e:Tree}(h:T .av e):AtF e:=by
 obtain⟨a,b,rfl,_⟩:=T.bx h;exact⟨a,b,rfl⟩
theorem VZ (m:Int){l:List Tree}(h:T .ah (.sl l))(h0:dN m (.sl l)=0):E5 (.sl l):=by
 obtain⟨h1,h2,_⟩:=(lH m h).zero h0;obtain⟨l',e,_,hl⟩:=T.bU h;cases e;exact⟨h1,λe he=>(Pr m (hl e he) (h2 e he)).1⟩
def acw (m:Int)(l:List Tree)(u:Tree)(r:List Tree×Int):Prop:=(r.2=0/\dN m (.sl l)=0/\El m u=0/\r.1.Nodup/\(r.1.Pairwise λa b=>pI a b<0)/\∀v,v∈r.1↔vE (iY (eV m) l) [u] v)\/(r.2≠0/\r.1=[]/\¬(dN m (.sl l)=0/\El m u=0))
theorem V0 (m:Int)(l:List Tree)(hl:l.length<=4194304)(hl2:∀y∈l,T .aB y)(a b:List UInt8)(ha:a.length<=4194304)(hb:b.length<=4194304):∃r:{r:List Tree×Int //(∀y∈r.1,T .av y)/\r.1.length<=4194304/\acw m l (.agg [.str a,.str b]) r},aq (cf m) 13 [.t (.sl l),.t (.agg [.str a,.str b])] [] (.ret (.t (.cv [.sl r.1.1,.int .i64 r.1.2])) [] []):=by
 obtain⟨gO,jK⟩:=qW m;obtain⟨FO,Lr⟩:=Em m;obtain⟨uoF,aaE⟩:=VW m;obtain⟨ev,aC,eY,ND,aaF,aaG⟩:∃ev,aI (cf m) ev/\Has ev 23 (xU (λx=>T .ah x) (λx=>.int .i64 (gO x)))/\Has ev 34 (xU (λx=>T .av x) (λx=>.int .i64 (FO x)))/\Has ev 35 (pcU UpP uoF)/\Has ev 36 (FK (iK Fa GY VX) (px [.t (.sl []),.t (.fn (.func 37))] [] (.ret (.t (.cv [])) [] []))):=⟨_,(aA (eD (λx h=>(jK x h).1)) (aA (eD (λx h=>(Lr x h).1)) (aA (acu (λx y h=>(aaE x y h).1)) (aA (CN (dh (acv m)) (Ag (VY m))) aN)))),aF,(au rfl aF),(au rfl (au rfl aF)),(au rfl (au rfl (au rfl aF)))⟩;refine AX.start 26 2 Tryz.func13 rfl (by decide) rfl rfl (by decide) ?_;refine AX.frames ?_;have hp1:=(jK (.sl l) (.ah _ bh hl2)).2;rcases bw (((gO (.sl l)) != 0)) with cW|cW
 ·have mI:=bQ cW;refine⟨⟨([],(gO (.sl l))),λy hy=>(by cases hy),Nat.zero_le _,(.inr ⟨bne_iff_ne.1 cW,rfl,λh=>absurd (hp1.2.trans h.1) (bne_iff_ne.1 cW)⟩)⟩,q4 ai 33554432 [] [oC (dM eY (x:=.sl l) (.ah _ bh hl2)),oB cW]⟩
 ·have mI:=aM cW;have yC:=(Lr (.agg [.str a,.str b]) (.av _ _ bh bh)).2;rcases bw (((FO (.agg [.str a,.str b])) != 0)) with gh|gh
  ·have uH:=bQ gh;refine⟨⟨([],(FO (.agg [.str a,.str b]))),λy hy=>(by cases hy),Nat.zero_le _,(.inr ⟨bne_iff_ne.1 gh,rfl,λh=>absurd (yC.2.trans h.2) (bne_iff_ne.1 gh)⟩)⟩,q4 ai 33554432 [] [oC (dM eY (x:=.sl l) (.ah _ bh hl2)),oB cW,oC (dM ND (x:=.agg [.str a,.str b]) (.av _ _ bh bh)),oB gh]⟩
  ·have uH:=aM gh;have hrow:E5 (.sl l):=VZ m (.ah _ bh hl2) (hp1.2.symm.trans (aM cW));have V1:UpP (.sl l) (.sl [.agg [.str a,.str b]]):=⟨⟨(.ah _ bh hl2),hrow⟩,⟨(.cz _ bh (eC (.av _ _ bh bh) (λ_ h=>absurd h (by simp)))),(by show(1:Nat)<=16;omega)⟩,by simp[gR]⟩;have vv:=(aaE _ _ V1).2;rcases Y8:(uoF (.sl l) (.sl [.agg [.str a,.str b]])) with _|⟨Cx,Cy⟩
   ·refine⟨⟨([],0),λy hy=>(by cases hy),Nat.zero_le _,(.inl ⟨rfl,(hp1.2.symm.trans (aM cW)),(yC.2.symm.trans (aM gh)),List.nodup_nil,.nil,λv=>by have h:=vv.2.2.1 v;rw[Y8] at h;exact h⟩)⟩,q4 ai 33554432 [] [oC (dM eY (x:=.sl l) (.ah _ bh hl2)),oB cW,oC (dM ND (x:=.agg [.str a,.str b]) (.av _ _ bh bh)),oB gh,xC 35 [.t (.sl l),.t (.sl [.agg [.str a,.str b]])] (.sl []) ((afG aaF V1).trans (congrArg (λz=>some (upR (.loc [0]) z)) Y8)),oC (Cs (CO aaG RE))]⟩
   ·rw[Y8] at vv;have acy:GY (Cx::Cy):=⟨vv.1,by simp,by have:=vv.2.1;omega⟩;have aje:(mQ (Cx::Cy)).length=(Cx::Cy).length:=mR _;refine⟨⟨((mQ (Cx::Cy)),0),(λy hy=>vv.1 y (qg hy)),(by show(mQ _).length<=_;have:=vv.2.1;omega),(.inl ⟨rfl,(hp1.2.symm.trans (aM cW)),(yC.2.symm.trans (aM gh)),(E7 _).nodup_iff.2 vv.2.2.2,Js vv.2.2.2 (λe he=>ah0 (vv.1 e he)),λv=>⟨λh=>(vv.2.2.1 v).1 (qg h),λh=>N6 ((vv.2.2.1 v).2 h)⟩⟩)⟩,q4 ai 33554432 [] [oC (dM eY (x:=.sl l) (.ah _ bh hl2)),oB cW,oC (dM ND (x:=.agg [.str a,.str b]) (.av _ _ bh bh)),oB gh,oC (show ev 35 [.t (.sl l),.t (.sl [.agg [.str a,.str b]])] []=some (bk.ret (.ref (.loc [0]) 0 (Cx::Cy).length) [] [(.loc [0],.arr (24,true) 2 false ((flat (Cx::Cy)).map .t))]) from(afG aaF V1).trans (congrArg (λz=>some (upR (.loc [0]) z)) Y8)),bO 24 2 (Cx::Cy),bO 24 2 (Cx::Cy),oC (fI (xA aaG) Y7 (Cx::Cy) acy rfl rfl),bO 24 2 (mQ (Cx::Cy)),oX true 2 (mQ (Cx::Cy)) ((Cx::Cy).length) gW (aR (λy hy=>vv.1 y (qg hy)))]⟩
theorem V2 (m:Int):∃F:Tree->Tree->List Tree×Int,∀x y,(T .ah x/\T .av y)->R2 (cf m) 13 x y (.cv [.sl (F x y).1,.int .i64 (F x y).2])/\((∀z∈(F x y).1,T .av z)/\(F x y).1.length<=4194304/\acw m (gR x) y (F x y)):=by
 refine xV (P:=λx y=>T .ah x/\T .av y) (mk:=λ(r:List Tree×Int)=>.cv [.sl r.1,.int .i64 r.2]) (Post:=λx y r=>(∀z∈r.1,T .av z)/\r.1.length<=4194304/\acw m (gR x) y r) λx y h=> ?_
 obtain⟨l,rfl,hl,hl2⟩:=T.bU h.1;obtain⟨a,b,rfl,ha,hb⟩:=T.bx h.2;exact V0 m l hl hl2 a b ha hb
end
end Go.Proofs.YtnfnihgmankidaaGreatDoor.w.e
namespace Go.Proofs.YtnfnihgmankidaaGreatDoor.w.e
open Go Go.Abs
set_option maxRecDepth 100000
set_option maxHeartbeats 2000000
noncomputable section
abbrev ah1:TI:={size:=1,bytes:=24,agg:=false,zero:=some (.cc),desc:=.slice 32}
theorem N7 {m:Int}:(cf m).P.ty 22=some ah1:=by kernel_rfl
abbrev ah2:TI:={size:=1,bytes:=24,agg:=false,zero:=some (.cc),desc:=.slice 30}
theorem zc {m:Int}:(cf m).P.ty 28=some ah2:=by kernel_rfl
abbrev afH:TI:={size:=7,bytes:=96,agg:=true,zero:=some (.agg [.t (.int .u8 0),.t (.bool false),.t (.int .i64 0),.t (.str []),.t (.str []),.cc,.cc]),desc:=descOf 30}
theorem acz {m:Int}:(cf m).P.ty 30=some afH:=by kernel_rfl
abbrev afI:TI:={size:=10,bytes:=152,agg:=true,zero:=some (.agg [.t (.str []),.t (.str []),.cc,.t (.int .u8 0),.t (.bool false),.t (.int .i64 0),.t (.str []),.t (.str []),.cc,.cc]),desc:=descOf 32}
theorem Y9 {m:Int}:(cf m).P.ty 32=some afI:=by kernel_rfl
theorem V3 {m:Int}:BV (cf m).P 22 32 afI:=⟨⟨_,N7,rfl⟩,Y9,_,rfl,by decide,rfl,by decide⟩
theorem aaH {m:Int}:BV (cf m).P 28 30 afH:=⟨⟨_,zc,rfl⟩,acz,_,rfl,by decide,rfl,by decide⟩
theorem wW {m:Int}:iw (cf m).P 30 5=some 5:=by kernel_rfl
theorem wX {m:Int}:iw (cf m).P 30 6=some 6:=by kernel_rfl
theorem uX {l:List Tree}(h:∀y∈l,T .string y):dU false 1 l:=λy hy=>by
 obtain⟨v,rfl,_⟩:=T.gM (h y hy);exact⟨rfl,rfl,rfl⟩
theorem dG {l:List Tree}(h:∀y∈l,T .aV y):dU true 7 l:=λy hy=>by
 obtain⟨kind,b_,n,s,t_,names,list,rfl,_,_,_,_,_,_⟩:=T.dA (h y hy);exact⟨rfl,rfl,rfl⟩
theorem PN {m:Int}{ev:aW}(aC:aI (cf m) ev):aq (cf m) 111 [.t (.sl [])] [] (.ret (.t (.sl [])) [] []):=by
 refine jy 8 1 Tryz.func111 rfl (by decide) rfl rfl (by decide) ?_;refine AW.seq ?_;refine AW.region ?_;refine dP.go (f:=0) aC (by first|exact cN rfl|exact aD rfl) ?_;refine dP.nil ?_;refine AW.seq ?_;refine AW.seq ?_;refine AW.region ?_;refine dP.go (f:=0) aC (by first|exact gP rfl|exact az rfl) ?_;refine dP.Ij rfl rfl pG rfl (λb hb=> ?_);refine dP.nil ?_;refine AW.cond rfl (λh4=> ?_) (λh4=> ?_)
 ·refine AW.seq ?_;refine AW.region ?_;refine dP.go (f:=0) aC (by first|exact cN rfl|exact aD rfl) ?_;refine dP.nil ?_;refine AW.ret ?_;exact .inl rfl
 ·refine AW.skip ?_;refine AW.seq ?_;refine AW.region ?_;refine dP.go (f:=0) aC (uv rfl pG rfl nh rfl rfl) ?_;refine dP.go (f:=0) aC (by first|exact gP rfl|exact az rfl) ?_;refine dP.go (f:=0) aC (DM aaf rfl rfl (.inl (.inl rfl)) (.inr (.inr ⟨_,rfl⟩))) ?_;refine dP.go (f:=0) aC (by first|exact cN rfl|exact aD rfl) ?_;refine dP.nil ?_;refine AW.ret ?_;exact .inl rfl
theorem Za {m:Int}{ev:aW}(aC:aI (cf m) ev)(es:List Tree)(hne:es≠ [])(hu:dU false 1 es)(hl:es.length<=4194304):
 aq (cf m) 111 [.t (.sl es)] [] (.ret (.ref (.loc [5]) 0 es.length) [] [(.loc [5],.arr (9,false) 1 false ((flat es).map .t))]):=by
 refine jy 8 1 Tryz.func111 rfl (by decide) rfl rfl (by decide) ?_
 refine AW.seq ?_
 refine AW.region ?_
 refine dP.go (f:=0) aC (by first|exact cN rfl|exact aD rfl) ?_
 refine dP.nil ?_
 refine AW.seq ?_
 refine AW.seq ?_
 refine AW.region ?_
 refine dP.go (f:=0) aC (by first|exact gP rfl|exact az rfl) ?_
 refine dP.Ij rfl rfl pG rfl (λb hb=> ?_)
 have hb:=hb hne
 subst hb
 refine dP.nil ?_
 refine AW.cond rfl (λh=>absurd h (by decide)) (λh=> ?_)
 refine AW.skip ?_
 refine AW.seq ?_
 refine AW.region ?_
 refine dP.go (f:=0) aC (uv rfl pG rfl nh rfl rfl) ?_
 refine dP.go (f:=0) aC (by first|exact gP rfl|exact az rfl) ?_
 refine dP.go (f:=0) aC (Il aaf rfl rfl (.inl rfl) hu hne (by show es.length*16<=70368744177664;omega)) ?_
 refine dP.go (f:=0) aC (by first|exact cN rfl|exact aD rfl) ?_
 refine dP.nil ?_
 refine AW.ret ?_
 exact .inr (zJ rfl rfl rfl)
def r5:List TV->List aO->Option bk:=λas' os=>match as',os with
 | [.t (.sl [])],[]=>some (.ret (.t (.sl [])) [] [])
 | [.t (.sl (e::es))],[]=> @ite _ (dU false 1 (e::es)/\(e::es).length<=4194304) (Classical.propDecidable _) (some (.ret (.ref (.loc [5]) 0 (e::es).length) [] [(.loc [5],.arr (9,false) 1 false ((flat (e::es)).map .t))])) none
 |_,_=>none
theorem uY (m:Int):kJ (cf m) 111 r5:=λargs aU r h=>by
 unfold r5 at h;split at h
 ·cases h;exact PN aN
 ·split at h
  ·rename_i hc;cases h;exact Za aN _ (by simp) hc.1 hc.2
  ·cases h
 ·cases h
theorem Fb {ev:aW}(h:Has ev 111 r5){es:List Tree}(hne:es≠ [])(hu:dU false 1 es)(hl:es.length<=4194304):ev 111 [.t (.sl es)] []=some (.ret (.ref (.loc [5]) 0 es.length) [] [(.loc [5],.arr (9,false) 1 false ((flat es).map .t))]):=by
 cases es with
 |nil=>exact absurd rfl hne
 |cons e es=>exact h _ _ _ (by unfold r5;exact if_pos ⟨hu,hl⟩)
theorem L4 {m:Int}{ev:aW}(aC:aI (cf m) ev):aq (cf m) 112 [.t (.sl [])] [] (.ret (.t (.sl [])) [] []):=by
 refine jy 8 1 Tryz.func112 rfl (by decide) rfl rfl (by decide) ?_;refine AW.seq ?_;refine AW.region ?_;refine dP.go (f:=0) aC (by first|exact cN rfl|exact aD rfl) ?_;refine dP.nil ?_;refine AW.seq ?_;refine AW.seq ?_;refine AW.region ?_;refine dP.go (f:=0) aC (by first|exact gP rfl|exact az rfl) ?_;refine dP.Ij rfl rfl zc rfl (λb hb=> ?_);refine dP.nil ?_;refine AW.cond rfl (λh4=> ?_) (λh4=> ?_)
 ·refine AW.seq ?_;refine AW.region ?_;refine dP.go (f:=0) aC (by first|exact cN rfl|exact aD rfl) ?_;refine dP.nil ?_;refine AW.ret ?_;exact .inl rfl
 ·refine AW.skip ?_;refine AW.seq ?_;refine AW.region ?_;refine dP.go (f:=0) aC (uv rfl zc rfl acz rfl rfl) ?_;refine dP.go (f:=0) aC (by first|exact gP rfl|exact az rfl) ?_;refine dP.go (f:=0) aC (DM aaH rfl rfl (.inl (.inl rfl)) (.inr (.inr ⟨_,rfl⟩))) ?_;refine dP.go (f:=0) aC (by first|exact cN rfl|exact aD rfl) ?_;refine dP.nil ?_;refine AW.ret ?_;exact .inl rfl
theorem V4 {m:Int}{ev:aW}(aC:aI (cf m) ev)(es:List Tree)(hne:es≠ [])(hu:dU true 7 es)(hl:es.length<=4194304):
 aq (cf m) 112 [.t (.sl es)] [] (.ret (.ref (.loc [5]) 0 es.length) [] [(.loc [5],.arr (30,true) 7 false ((flat es).map .t))]):=by
 refine jy 8 1 Tryz.func112 rfl (by decide) rfl rfl (by decide) ?_
 refine AW.seq ?_
 refine AW.region ?_
 refine dP.go (f:=0) aC (by first|exact cN rfl|exact aD rfl) ?_
 refine dP.nil ?_
 refine AW.seq ?_
 refine AW.seq ?_
 refine AW.region ?_
 refine dP.go (f:=0) aC (by first|exact gP rfl|exact az rfl) ?_
 refine dP.Ij rfl rfl zc rfl (λb hb=> ?_)
 have hb:=hb hne
 subst hb
 refine dP.nil ?_
 refine AW.cond rfl (λh=>absurd h (by decide)) (λh=> ?_)
 refine AW.skip ?_
 refine AW.seq ?_
 refine AW.region ?_
 refine dP.go (f:=0) aC (uv rfl zc rfl acz rfl rfl) ?_
 refine dP.go (f:=0) aC (by first|exact gP rfl|exact az rfl) ?_
 refine dP.go (f:=0) aC (Il aaH rfl rfl (.inl rfl) hu hne (by show es.length*96<=70368744177664;omega)) ?_
 refine dP.go (f:=0) aC (by first|exact cN rfl|exact aD rfl) ?_
 refine dP.nil ?_
 refine AW.ret ?_
 exact .inr (zJ rfl rfl rfl)
def o8:List TV->List aO->Option bk:=λas' os=>match as',os with
 | [.t (.sl [])],[]=>some (.ret (.t (.sl [])) [] [])
 | [.t (.sl (e::es))],[]=> @ite _ (dU true 7 (e::es)/\(e::es).length<=4194304) (Classical.propDecidable _) (some (.ret (.ref (.loc [5]) 0 (e::es).length) [] [(.loc [5],.arr (30,true) 7 false ((flat (e::es)).map .t))])) none
 |_,_=>none
theorem r6 (m:Int):kJ (cf m) 112 o8:=λargs aU r h=>by
 unfold o8 at h;split at h
 ·cases h;exact L4 aN
 ·split at h
  ·rename_i hc;cases h;exact V4 aN _ (by simp) hc.1 hc.2
  ·cases h
 ·cases h
theorem Cc {ev:aW}(h:Has ev 112 o8){es:List Tree}(hne:es≠ [])(hu:dU true 7 es)(hl:es.length<=4194304):ev 112 [.t (.sl es)] []=some (.ret (.ref (.loc [5]) 0 es.length) [] [(.loc [5],.arr (30,true) 7 false ((flat es).map .t))]):=by
 cases es with
 |nil=>exact absurd rfl hne
 |cons e es=>exact h _ _ _ (by unfold o8;exact if_pos ⟨hu,hl⟩)
theorem L5 {m:Int}{ev:aW}(aC:aI (cf m) ev):aq (cf m) 70 [.t (.sl [])] [] (.ret (.t (.sl [])) [] []):=by
 refine jy 8 1 Tryz.func70 rfl (by decide) rfl rfl (by decide) ?_;refine AW.seq ?_;refine AW.region ?_;refine dP.go (f:=0) aC (by first|exact cN rfl|exact aD rfl) ?_;refine dP.nil ?_;refine AW.seq ?_;refine AW.seq ?_;refine AW.region ?_;refine dP.go (f:=0) aC (by first|exact gP rfl|exact az rfl) ?_;refine dP.Ij rfl rfl N7 rfl (λb hb=> ?_);refine dP.nil ?_;refine AW.cond rfl (λh4=> ?_) (λh4=> ?_)
 ·refine AW.seq ?_;refine AW.region ?_;refine dP.go (f:=0) aC (by first|exact cN rfl|exact aD rfl) ?_;refine dP.nil ?_;refine AW.ret ?_;exact .inl rfl
 ·refine AW.skip ?_;refine AW.seq ?_;refine AW.region ?_;refine dP.go (f:=0) aC (uv rfl N7 rfl Y9 rfl rfl) ?_;refine dP.go (f:=0) aC (by first|exact gP rfl|exact az rfl) ?_;refine dP.go (f:=0) aC (DM V3 rfl rfl (.inl (.inl rfl)) (.inr (.inr ⟨_,rfl⟩))) ?_;refine dP.go (f:=0) aC (by first|exact cN rfl|exact aD rfl) ?_;refine dP.nil ?_;refine AW.ret ?_;exact .inl rfl
theorem V5 {m:Int}{ev:aW}(aC:aI (cf m) ev)(es:List Tree)(hne:es≠ [])(hu:dU true 10 es)(hl:es.length<=4194304):
 aq (cf m) 70 [.t (.sl es)] [] (.ret (.ref (.loc [5]) 0 es.length) [] [(.loc [5],.arr (32,true) 10 false ((flat es).map .t))]):=by
 refine jy 8 1 Tryz.func70 rfl (by decide) rfl rfl (by decide) ?_
 refine AW.seq ?_
 refine AW.region ?_
 refine dP.go (f:=0) aC (by first|exact cN rfl|exact aD rfl) ?_
 refine dP.nil ?_
 refine AW.seq ?_
 refine AW.seq ?_
 refine AW.region ?_
 refine dP.go (f:=0) aC (by first|exact gP rfl|exact az rfl) ?_
 refine dP.Ij rfl rfl N7 rfl (λb hb=> ?_)
 have hb:=hb hne
 subst hb
 refine dP.nil ?_
 refine AW.cond rfl (λh=>absurd h (by decide)) (λh=> ?_)
 refine AW.skip ?_
 refine AW.seq ?_
 refine AW.region ?_
 refine dP.go (f:=0) aC (uv rfl N7 rfl Y9 rfl rfl) ?_
 refine dP.go (f:=0) aC (by first|exact gP rfl|exact az rfl) ?_
 refine dP.go (f:=0) aC (Il V3 rfl rfl (.inl rfl) hu hne (by show es.length*152<=70368744177664;omega)) ?_
 refine dP.go (f:=0) aC (by first|exact cN rfl|exact aD rfl) ?_
 refine dP.nil ?_
 refine AW.ret ?_
 exact .inr (zJ rfl rfl rfl)
def qX:List TV->List aO->Option bk:=λas' os=>match as',os with
 | [.t (.sl [])],[]=>some (.ret (.t (.sl [])) [] [])
 | [.t (.sl (e::es))],[]=> @ite _ (dU true 10 (e::es)/\(e::es).length<=4194304) (Classical.propDecidable _) (some (.ret (.ref (.loc [5]) 0 (e::es).length) [] [(.loc [5],.arr (32,true) 10 false ((flat (e::es)).map .t))])) none
 |_,_=>none
theorem wY (m:Int):kJ (cf m) 70 qX:=λargs aU r h=>by
 unfold qX at h;split at h
 ·cases h;exact L5 aN
 ·split at h
  ·rename_i hc;cases h;exact V5 aN _ (by simp) hc.1 hc.2
  ·cases h
 ·cases h
theorem Cd {ev:aW}(h:Has ev 70 qX){es:List Tree}(hne:es≠ [])(hu:dU true 10 es)(hl:es.length<=4194304):ev 70 [.t (.sl es)] []=some (.ret (.ref (.loc [5]) 0 es.length) [] [(.loc [5],.arr (32,true) 10 false ((flat es).map .t))]):=by
 cases es with
 |nil=>exact absurd rfl hne
 |cons e es=>exact h _ _ _ (by unfold qX;exact if_pos ⟨hu,hl⟩)
theorem Zb (m:Int)(k:Int)(b:Bool)(n:Int)(s t:List UInt8)(hO:∀x,x∈([]:List Tree)->R1 (cf m) 71 x x):R1 (cf m) 71 (bM k b n s t [] []) (bM k b n s t [] []):=by
 obtain⟨ev,aC,qY,nP⟩:∃ev,aI (cf m) ev/\Has ev 111 r5/\Has ev 112 o8:=⟨_,(aA (uY m) (aA (r6 m) aN)),aF,(au rfl aF)⟩;refine aq.pR ?_;refine AX.start 30 1 Tryz.func71 rfl (by decide) rfl rfl (by decide) ?_;refine AX.frames ?_;exact⟨(),q4 ai 0 [3] [xC 111 [.t (.sl [])] (.sl []) (qY _ _ _ rfl),xC 112 [.t (.sl [])] (.sl []) (nP _ _ _ rfl),oF]⟩
theorem Zc (m:Int)(k:Int)(b:Bool)(n:Int)(s t:List UInt8)(ls:List Tree)(FY:ls≠ [])(ll:ls.length<=4194304)(hl:∀y∈ls,T .aV y)(hO:∀x,x∈ls->R1 (cf m) 71 x x):R1 (cf m) 71 (bM k b n s t [] ls) (bM k b n s t [] ls):=by
 obtain⟨ev,aC,qY,nP,mT⟩:∃ev,aI (cf m) ev/\Has ev 111 r5/\Has ev 112 o8/\Has ev 71 (xU (λx=>x∈ls) (λx=>x)):=⟨_,(aA (uY m) (aA (r6 m) (aA (eD hO) aN))),aF,(au rfl aF),(au rfl (au rfl aF))⟩;refine aq.pR ?_;refine AX.start 30 1 Tryz.func71 rfl (by decide) rfl rfl (by decide) ?_;refine AX.frames ?_;refine Xl (f:=0) (n:=3000) (once:=[]) (k:=30) (T:=2) (S:=[.loc [0],.loc [1]]) (ks:=[.loc [0],.loc [1]]) (live:=[1,2]) ai aC (Tryz.f71.body.getD .skip) 1 rfl (⟨ei 30 [(1,.ptr (.loc [0]) 0),(2,.ptr (.loc [1]) 0)],[(.loc [0],.cells 30 (eH k b n s t [] ls)),(.loc [1],.cells 30 [.t (.int .u8 0),.t (.bool false),.t (.int .i64 0),.t (.str []),.t (.str []),.cc,.cc])],2⟩) [] (by kernel_rfl) ?_;refine AX.draw (f:=0) ai aC ?_;refine aQ.go rfl (bp rfl wW rfl) ?_;refine aQ.go rfl (iW rfl (ld pG rfl rfl)) ?_;refine aQ.go rfl (fN (Ft rfl) (qY _ _ _ rfl)) ?_;refine aQ.go rfl (bp rfl wX rfl) ?_;refine aQ.go rfl (iW rfl (ld zc rfl rfl)) ?_;refine aQ.go rfl (xq (Ft rfl) (Cc nP FY (dG hl) (by assumption)) rfl sS) ?_;refine aQ.go rfl (bp rfl wW rfl) ?_;refine aQ.Ml rfl (mC rfl rfl (Tf pG rfl rfl)) ?_;refine aQ.go rfl (bp rfl wX rfl) ?_;refine aQ.Ml rfl (mC rfl rfl (Tf zc rfl rfl)) ?_;refine aQ.nil (eT rfl rfl ?_);refine kl (α:=Nat) ai 0 [] 30 3 [.loc [0],.loc [1],.loc [7,5]] [.loc [0],.loc [1],.loc [7,5]] [1,2,14,15] (λx=>⟨ei 30 [(1,.ptr (.loc [0]) 0),(2,.ptr (.loc [1]) 0),(14,.t (.int .i64 ((ls.length:Nat):Int))),(15,.t (.int .i64 ((x:Nat):Int)))],[(.loc [0],.cells 30 [.t (.int .u8 k),.t (.bool b),.t (.int .i64 n),.t (.str s),.t (.str t),.t (.sl []),.ref (.loc [2]) 0 ls.length]),(.loc [1],.cells 30 [.t (.int .u8 0),.t (.bool false),.t (.int .i64 0),.t (.str []),.t (.str []),.cc,.cc]),(.loc [2],.arr (30,true) 7 false ((flat ls).map .t))],3⟩) (λx=>(x<=ls.length)) (λx=>ls.length - x) 0 (qD (Tryz.f71.body.getD .skip) 3) [bO 30 7 ls] (by show(0<=ls.length);first|trivial|omega|(refine⟨?_, ?_⟩<;>first|omega|exact SM.nil)|simp) (λx hok=> ?_);obtain⟨i_1,Bo⟩:∃y,y=x:=⟨x,rfl⟩;subst Bo;replace hok:(i_1<=ls.length):=hok;have cM:=hok;rcases bw (decide (((i_1:Nat):Int)<((ls.length:Nat):Int))) with cW|cW
 ·have mI:=of_decide_eq_true cW;obtain⟨e3,jb⟩:=iO ls i_1;have pK:=(hl e3 (kQ jb));obtain⟨wJ,Ll,n_4,s_4,Lm,rS,wK,rfl,sx,sy,En,yU,Eo,Ep⟩:=T.dA pK;exact⟨.inl ⟨i_1+1,⟨(by show(i_1+1)<=ls.length;omega),(by show(ls.length - (i_1+1))<(ls.length - i_1);omega)⟩⟩,kr ai 30 3 [.loc [0],.loc [1],.loc [2]] [1,2,14,15] [oB cW,oW true 7 ls (dG hl),oH jb,oQ ls,oO (mE (m:=7) (i:=i_1) (j:=0) (dU.lens (dG hl)) jb (by decide)),oC (dM mT (x:=(bM wJ Ll n_4 s_4 Lm rS wK)) (kQ jb)),oW true 7 ls (dG hl),oH jb,oQ ls,oR _ _ (B4 (j:=0) (m:=7) (dU.lens (dG hl)) jb (by decide)),oK (xo (j:=0) (m:=7) (dU.lens (dG hl)) jb (by decide)),oI (i_1) (by omega),bO 30 7 ls]⟩
 ·have mI:=of_decide_eq_false cW;refine kx ai [oB cW] ?_;exact⟨(),kf ai [oW true 7 ls (dG hl)]⟩
theorem Zd (m:Int)(k:Int)(b:Bool)(n:Int)(s t:List UInt8)(ns:List Tree)(acA:ns≠ [])(ln:ns.length<=4194304)(hn:∀y∈ns,T .string y)(hO:∀x,x∈([]:List Tree)->R1 (cf m) 71 x x):R1 (cf m) 71 (bM k b n s t ns []) (bM k b n s t ns []):=by
 obtain⟨ev,aC,qY,nP⟩:∃ev,aI (cf m) ev/\Has ev 111 r5/\Has ev 112 o8:=⟨_,(aA (uY m) (aA (r6 m) aN)),aF,(au rfl aF)⟩;refine aq.pR ?_;refine AX.start 30 1 Tryz.func71 rfl (by decide) rfl rfl (by decide) ?_;refine AX.frames ?_;refine Xl (f:=0) (n:=3000) (once:=[]) (k:=30) (T:=2) (S:=[.loc [0],.loc [1]]) (ks:=[.loc [0],.loc [1]]) (live:=[1,2]) ai aC (Tryz.f71.body.getD .skip) 1 rfl (⟨ei 30 [(1,.ptr (.loc [0]) 0),(2,.ptr (.loc [1]) 0)],[(.loc [0],.cells 30 (eH k b n s t ns [])),(.loc [1],.cells 30 [.t (.int .u8 0),.t (.bool false),.t (.int .i64 0),.t (.str []),.t (.str []),.cc,.cc])],2⟩) [] (by kernel_rfl) ?_;refine AX.draw (f:=0) ai aC ?_;refine aQ.go rfl (bp rfl wW rfl) ?_;refine aQ.go rfl (iW rfl (ld pG rfl rfl)) ?_;refine aQ.go rfl (xq (Ft rfl) (Fb qY acA (uX hn) (by assumption)) rfl sS) ?_;refine aQ.go rfl (bp rfl wX rfl) ?_;refine aQ.go rfl (iW rfl (ld zc rfl rfl)) ?_;refine aQ.go rfl (fN (Ft rfl) (nP _ _ _ rfl)) ?_;refine aQ.go rfl (bp rfl wW rfl) ?_;refine aQ.Ml rfl (mC rfl rfl (Tf pG rfl rfl)) ?_;refine aQ.go rfl (bp rfl wX rfl) ?_;refine aQ.Ml rfl (mC rfl rfl (Tf zc rfl rfl)) ?_;refine aQ.nil (eT rfl rfl ?_);exact⟨(),q4 ai 0 [3] [oF,oW false 1 ns (uX hn)]⟩
theorem Ze (m:Int)(k:Int)(b:Bool)(n:Int)(s t:List UInt8)(ns:List Tree)(acA:ns≠ [])(ln:ns.length<=4194304)(hn:∀y∈ns,T .string y)(ls:List Tree)(FY:ls≠ [])(ll:ls.length<=4194304)(hl:∀y∈ls,T .aV y)(hO:∀x,x∈ls->R1 (cf m) 71 x x):R1 (cf m) 71 (bM k b n s t ns ls) (bM k b n s t ns ls):=by
 obtain⟨ev,aC,qY,nP,mT⟩:∃ev,aI (cf m) ev/\Has ev 111 r5/\Has ev 112 o8/\Has ev 71 (xU (λx=>x∈ls) (λx=>x)):=⟨_,(aA (uY m) (aA (r6 m) (aA (eD hO) aN))),aF,(au rfl aF),(au rfl (au rfl aF))⟩;refine aq.pR ?_;refine AX.start 30 1 Tryz.func71 rfl (by decide) rfl rfl (by decide) ?_;refine AX.frames ?_;refine Xl (f:=0) (n:=3000) (once:=[]) (k:=30) (T:=2) (S:=[.loc [0],.loc [1]]) (ks:=[.loc [0],.loc [1]]) (live:=[1,2]) ai aC (Tryz.f71.body.getD .skip) 1 rfl (⟨ei 30 [(1,.ptr (.loc [0]) 0),(2,.ptr (.loc [1]) 0)],[(.loc [0],.cells 30 (eH k b n s t ns ls)),(.loc [1],.cells 30 [.t (.int .u8 0),.t (.bool false),.t (.int .i64 0),.t (.str []),.t (.str []),.cc,.cc])],2⟩) [] (by kernel_rfl) ?_;refine AX.draw (f:=0) ai aC ?_;refine aQ.go rfl (bp rfl wW rfl) ?_;refine aQ.go rfl (iW rfl (ld pG rfl rfl)) ?_;refine aQ.go rfl (xq (Ft rfl) (Fb qY acA (uX hn) (by assumption)) rfl sS) ?_;refine aQ.go rfl (bp rfl wX rfl) ?_;refine aQ.go rfl (iW rfl (ld zc rfl rfl)) ?_;refine aQ.go rfl (xq (Ft rfl) (Cc nP FY (dG hl) (by assumption)) rfl sS) ?_;refine aQ.go rfl (bp rfl wW rfl) ?_;refine aQ.Ml rfl (mC rfl rfl (Tf pG rfl rfl)) ?_;refine aQ.go rfl (bp rfl wX rfl) ?_;refine aQ.Ml rfl (mC rfl rfl (Tf zc rfl rfl)) ?_;refine aQ.nil (eT rfl rfl ?_);refine kl (α:=Nat) ai 0 [] 30 4 [.loc [0],.loc [1],.loc [4,5],.loc [7,5]] [.loc [0],.loc [1],.loc [4,5],.loc [7,5]] [1,2,14,15] (λx=>⟨ei 30 [(1,.ptr (.loc [0]) 0),(2,.ptr (.loc [1]) 0),(14,.t (.int .i64 ((ls.length:Nat):Int))),(15,.t (.int .i64 ((x:Nat):Int)))],[(.loc [0],.cells 30 [.t (.int .u8 k),.t (.bool b),.t (.int .i64 n),.t (.str s),.t (.str t),.ref (.loc [2]) 0 ns.length,.ref (.loc [3]) 0 ls.length]),(.loc [1],.cells 30 [.t (.int .u8 0),.t (.bool false),.t (.int .i64 0),.t (.str []),.t (.str []),.cc,.cc]),(.loc [2],.arr (9,false) 1 false ((flat ns).map .t)),(.loc [3],.arr (30,true) 7 false ((flat ls).map .t))],4⟩) (λx=>(x<=ls.length)) (λx=>ls.length - x) 0 (qD (Tryz.f71.body.getD .skip) 3) [oN (o:=.arr (9,false) 1 false ((flat ns).map .t)) (λ_=>MV),bO 30 7 ls] (by show(0<=ls.length);first|trivial|omega|(refine⟨?_, ?_⟩<;>first|omega|exact SM.nil)|simp) (λx hok=> ?_);obtain⟨i_1,Bo⟩:∃y,y=x:=⟨x,rfl⟩;subst Bo;replace hok:(i_1<=ls.length):=hok;have cM:=hok;rcases bw (decide (((i_1:Nat):Int)<((ls.length:Nat):Int))) with cW|cW
 ·have mI:=of_decide_eq_true cW;obtain⟨e3,jb⟩:=iO ls i_1;have pK:=(hl e3 (kQ jb));obtain⟨wJ,Ll,n_4,s_4,Lm,rS,wK,rfl,sx,sy,En,yU,Eo,Ep⟩:=T.dA pK;exact⟨.inl ⟨i_1+1,⟨(by show(i_1+1)<=ls.length;omega),(by show(ls.length - (i_1+1))<(ls.length - i_1);omega)⟩⟩,kr ai 30 4 [.loc [0],.loc [1],.loc [2],.loc [3]] [1,2,14,15] [oB cW,oW true 7 ls (dG hl),oH jb,oQ ls,oO (mE (m:=7) (i:=i_1) (j:=0) (dU.lens (dG hl)) jb (by decide)),oC (dM mT (x:=(bM wJ Ll n_4 s_4 Lm rS wK)) (kQ jb)),oW true 7 ls (dG hl),oH jb,oQ ls,oR _ _ (B4 (j:=0) (m:=7) (dU.lens (dG hl)) jb (by decide)),oK (xo (j:=0) (m:=7) (dU.lens (dG hl)) jb (by decide)),oI (i_1) (by omega),oN (o:=.arr (9,false) 1 false ((flat ns).map .t)) (λ_=>MV),bO 30 7 ls]⟩
 ·have mI:=of_decide_eq_false cW;refine kx ai [oB cW] ?_;exact⟨(),kf ai [oW false 1 ns (uX hn),oW true 7 ls (dG hl)]⟩
theorem PO (m:Int):∀x,T .aV x->R1 (cf m) 71 x x:=by
 have key:∀(k:K) (x:Tree),T k x->k=.aV->R1 (cf m) 71 x x:=by
  intro k x h;induction h with
  |aV k1 b1 n1 s1 t1 N1 L1 hs ht h0 h1 h2 h3 _ ih=>
   intro _
   have hO:∀x,x∈L1->R1 (cf m) 71 x x:=λx hx=>ih x hx rfl
   rcases N1 with _|⟨a,N⟩<;>rcases L1 with _|⟨c,L⟩
   · exact Zb m k1 b1 n1 s1 t1 hO
   · exact Zc m k1 b1 n1 s1 t1 _ (by simp) h2 h3 hO
   · exact Zd m k1 b1 n1 s1 t1 _ (by simp) h0 h1 hO
   · exact Ze m k1 b1 n1 s1 t1 _ (by simp) h0 h1 _ (by simp) h2 h3 hO
  |_=>exactλe=>(by cases e)
 exactλx h=>key _ x h rfl
abbrev ah3:TI:={size:=1,bytes:=24,agg:=false,zero:=some (.cc),desc:=.slice 24}
theorem N8 {m:Int}:(cf m).P.ty 25=some ah3:=by kernel_rfl
theorem aaI {m:Int}:BV (cf m).P 25 24 afj:=⟨⟨_,N8,rfl⟩,y7,_,rfl,by decide,rfl,by decide⟩
theorem aJ {l:List Tree}(h:∀y∈l,T .aB y):dU true 10 l:=λy hy=>by
 obtain⟨oz,wG,parents,nD,xE,xF,rN,rO,gD,iM,rfl,_,_,_,_,_,_,_,_,_,_⟩:=T.bg (h y hy);exact⟨rfl,rfl,rfl⟩
theorem PT {m:Int}{ev:aW}(aC:aI (cf m) ev):aq (cf m) 62 [.t (.sl [])] [] (.ret (.t (.sl [])) [] []):=by
 refine jy 8 1 Tryz.func62 rfl (by decide) rfl rfl (by decide) ?_;refine AW.seq ?_;refine AW.region ?_;refine dP.go (f:=0) aC (by first|exact cN rfl|exact aD rfl) ?_;refine dP.nil ?_;refine AW.seq ?_;refine AW.seq ?_;refine AW.region ?_;refine dP.go (f:=0) aC (by first|exact gP rfl|exact az rfl) ?_;refine dP.Ij rfl rfl N8 rfl (λb hb=> ?_);refine dP.nil ?_;refine AW.cond rfl (λh4=> ?_) (λh4=> ?_)
 ·refine AW.seq ?_;refine AW.region ?_;refine dP.go (f:=0) aC (by first|exact cN rfl|exact aD rfl) ?_;refine dP.nil ?_;refine AW.ret ?_;exact .inl rfl
 ·refine AW.skip ?_;refine AW.seq ?_;refine AW.region ?_;refine dP.go (f:=0) aC (uv rfl N8 rfl y7 rfl rfl) ?_;refine dP.go (f:=0) aC (by first|exact gP rfl|exact az rfl) ?_;refine dP.go (f:=0) aC (DM aaI rfl rfl (.inl (.inl rfl)) (.inr (.inr ⟨_,rfl⟩))) ?_;refine dP.go (f:=0) aC (by first|exact cN rfl|exact aD rfl) ?_;refine dP.nil ?_;refine AW.ret ?_;exact .inl rfl
theorem Zf {m:Int}{ev:aW}(aC:aI (cf m) ev)(es:List Tree)(hne:es≠ [])(hu:dU true 2 es)(hl:es.length<=4194304):
 aq (cf m) 62 [.t (.sl es)] [] (.ret (.t (.sl es)) [] []):=by
 refine jy 8 1 Tryz.func62 rfl (by decide) rfl rfl (by decide) ?_
 refine AW.seq ?_
 refine AW.region ?_
 refine dP.go (f:=0) aC (by first|exact cN rfl|exact aD rfl) ?_
 refine dP.nil ?_
 refine AW.seq ?_
 refine AW.seq ?_
 refine AW.region ?_
 refine dP.go (f:=0) aC (by first|exact gP rfl|exact az rfl) ?_
 refine dP.Ij rfl rfl N8 rfl (λb hb=> ?_)
 have hb:=hb hne
 subst hb
 refine dP.nil ?_
 refine AW.cond rfl (λh=>absurd h (by decide)) (λh=> ?_)
 refine AW.skip ?_
 refine AW.seq ?_
 refine AW.region ?_
 refine dP.go (f:=0) aC (uv rfl N8 rfl y7 rfl rfl) ?_
 refine dP.go (f:=0) aC (by first|exact gP rfl|exact az rfl) ?_
 refine dP.go (f:=0) aC (Il aaI rfl rfl (.inl rfl) hu hne (by show es.length*32<=70368744177664;omega)) ?_
 refine dP.go (f:=0) aC (by first|exact cN rfl|exact aD rfl) ?_
 refine dP.nil ?_
 refine AW.ret ?_
 exact .inl (Tm rfl (Ku rfl hu (by decide) rfl rfl))
theorem V6 (m:Int):∀x,T .cz x->R1 (cf m) 62 x x:=λx hx=>by
 obtain⟨l,rfl,hl,h2⟩:=T.lF hx;by_cases h:l=[]
 ·subst h;exact PT aN
 ·exact Zf aN l h (aR h2) hl
theorem Zg (m:Int):R1 (cf m) 29 (.sl []) (.sl []):=by
 obtain⟨ev,aC,tI⟩:∃ev,aI (cf m) ev/\Has ev 70 qX:=⟨_,(aA (wY m) aN),aF⟩;refine aq.pR ?_;refine AX.start 33 1 Tryz.func29 rfl (by decide) rfl rfl (by decide) ?_;refine AX.frames ?_;exact⟨(),q4 ai 64 [3] [xC 70 [.t (.sl [])] (.sl []) (tI _ _ _ rfl),oF]⟩
theorem Zh (m:Int)(ls:List Tree)(FY:ls≠ [])(ll:ls.length<=4194304)(hl:∀y∈ls,T .aB y):R1 (cf m) 29 (.sl ls) (.sl ls):=by
 obtain⟨ev,aC,tI,V7,N9⟩:∃ev,aI (cf m) ev/\Has ev 70 qX/\Has ev 62 (xU (T .cz) (λx=>x))/\Has ev 71 (xU (λx=>T .aV x) (λx=>x)):=⟨_,(aA (wY m) (aA (eD (V6 m)) (aA (eD (PO m)) aN))),aF,(au rfl aF),(au rfl (au rfl aF))⟩;refine aq.pR ?_;refine AX.start 33 1 Tryz.func29 rfl (by decide) rfl rfl (by decide) ?_;refine AX.frames ?_;refine Xl (f:=64) (n:=3000) (once:=[]) (k:=33) (T:=0) (S:=[]) (ks:=[]) (live:=[0,2]) ai aC (Tryz.f29.body.getD .skip) 1 rfl (⟨ei 33 [(0,.t (.sl ls)),(2,.cc)],[],0⟩) [] (by kernel_rfl) ?_;refine AX.region ?_;refine aG.go (f:=0) aC (az rfl) ?_;refine aG.go (f:=0) aC (xq (Ft rfl) (Cd tI FY (aJ hl) (by assumption)) rfl sS) ?_;refine aG.go (f:=0) aC (aD rfl) ?_;refine aG.nil ?_;refine kl (α:=Nat) ai 64 [] 33 1 [.loc [1,5]] [.loc [1,5]] [0,7,8] (λx=>⟨ei 33 [(0,.ref (.loc [0]) 0 ls.length),(7,.t (.int .i64 ((ls.length:Nat):Int))),(8,.t (.int .i64 ((x:Nat):Int)))],[(.loc [0],.arr (32,true) 10 false ((flat ls).map .t))],1⟩) (λx=>(x<=ls.length)) (λx=>ls.length - x) 0 (qD (Tryz.f29.body.getD .skip) 3) [bO 32 10 ls] (by show(0<=ls.length);first|trivial|omega|(refine⟨?_, ?_⟩<;>first|omega|exact SM.nil)|simp) (λx hok=> ?_);obtain⟨i_1,Bo⟩:∃y,y=x:=⟨x,rfl⟩;subst Bo;replace hok:(i_1<=ls.length):=hok;have cM:=hok;rcases bw (decide (((i_1:Nat):Int)<((ls.length:Nat):Int))) with cW|cW
 ·have mI:=of_decide_eq_true cW;obtain⟨e3,jb⟩:=iO ls i_1;have pK:=(hl e3 (kQ jb));obtain⟨qT,wV,nI,jq,nJ,nK,nL,nM,iN,jr,rfl,sx,sy,En,yU,Eo,Ep,VE,Jn,VF,Jo⟩:=T.bg pK;exact⟨.inl ⟨i_1+1,⟨(by show(i_1+1)<=ls.length;omega),(by show(ls.length - (i_1+1))<(ls.length - i_1);omega)⟩⟩,FL ai 64 [] 33 1 [.loc [0]] [.loc [0]] [0,7,8] [oB cW,oW true 10 ls (aJ hl),oH jb,oQ ls,oQ ls,oO (GA (i:=i_1) (j:=2) (dU.lens (aJ hl)) jb rfl),oC (dM V7 (x:=.sl nI) (.cz _ bh yU)),oW true 10 ls (aJ hl),oH jb,oQ ls,oQ ls,oO (mE (m:=7) (i:=i_1) (j:=3) (dU.lens (aJ hl)) jb (by decide)),oC (dM N9 (x:=(bM jq nJ nK nL nM iN jr)) (.aV _ _ _ _ _ _ _ bh bh bh Jn bh Jo)),oW true 10 ls (aJ hl),oH jb,oQ ls,oQ ls,oR _ _ (B4 (j:=2) (m:=1) (dU.lens (aJ hl)) jb (by decide)),oK (xo (j:=2) (m:=1) (dU.lens (aJ hl)) jb (by decide)),oW true 10 ls (aJ hl),oH jb,oQ ls,oQ ls,oR _ _ (B4 (j:=3) (m:=7) (dU.lens (aJ hl)) jb (by decide)),oK (xo (j:=3) (m:=7) (dU.lens (aJ hl)) jb (by decide)),oI (i_1) (by omega),bO 32 10 ls]⟩
 ·have mI:=of_decide_eq_false cW;refine Np ai 64 [] [oB cW] ?_;exact⟨(),q4 ai 64 [] [oW true 10 ls (aJ hl)]⟩
theorem V8 (m:Int){l:List Tree}(h:T .ah (.sl l)):R1 (cf m) 29 (.sl l) (.sl l):=by
 obtain⟨l',e,hl,h2⟩:=T.bU h;cases e;rcases l with _|⟨c,L⟩
 ·exact Zg m
 ·exact Zh m _ (by simp) hl h2
def jL:Tree:=.agg [.str [],.str [],.sl [],.int .u8 0,.bool false,.int .i64 0,.str [],.str [],.sl [],.sl []]
theorem Fc:T .aB jL:=.aB _ _ _ _ _ _ _ _ _ _ (by decide) (by decide) (by decide) (λ_ h=>by cases h) (by decide) (by decide) (by decide) (λ_ h=>by cases h) (by decide) (λ_ h=>by cases h)
theorem o9 (m:Int){l:List Tree}{u:Tree}(h:T .ah (.sl l))(hu:T .av u):nG l u (eV m (.sl l) u):=(Classical.choose_spec (tE m) _ _ ⟨h,hu⟩).2
def tJ (m:Int)(l:List Tree)(u:Tree)(r:Tree×Int):Prop:=(dN m (.sl l)≠0/\r=(jL,dN m (.sl l)))\/(dN m (.sl l)=0/\(((eV m (.sl l) u).2=false/\r=(jL,9))\/∃(k:Nat) (e:Tree),eV m (.sl l) u=((k:Int),true)/\l[k]?=some e/\r=(e,0)))
theorem Zi (m:Int)(l:List Tree)(hl:l.length<=4194304)(hl2:∀y∈l,T .aB y)(a b:List UInt8)(ha:a.length<=4194304)(hb:b.length<=4194304):∃r:{r:Tree×Int // T .aB r.1/\tJ m l (.agg [.str a,.str b]) r},aq (cf m) 16 [.t (.sl l),.t (.agg [.str a,.str b])] [] (.ret (.t (.cv [r.1.1,.int .i64 r.1.2])) [] []):=by
 obtain⟨gO,jK⟩:=qW m;obtain⟨pS,tF⟩:=xM m;obtain⟨ev,aC,eY,rY,Zj⟩:∃ev,aI (cf m) ev/\Has ev 23 (xU (λx=>T .ah x) (λx=>.int .i64 (gO x)))/\Has ev 30 (wB (λx y=>T .ah x/\T .av y) (λx y=>.cv [.int .i64 (pS x y).1,.bool (pS x y).2]))/\Has ev 29 (xU (λx=>∃l:List Tree,x=.sl l/\T .ah (.sl l)) (λx=>x)):=⟨_,(aA (eD (λx h=>(jK x h).1)) (aA (ec (λx y h=>(tF x y h).1)) (aA (eD (λx h=>by obtain⟨l,rfl,h1⟩:=h;exact V8 m h1)) aN))),aF,(au rfl aF),(au rfl (au rfl aF))⟩;refine AX.start 32 2 Tryz.func16 rfl (by decide) rfl rfl (by decide) ?_;refine AX.frames ?_;have hp1:=(jK (.sl l) (.ah _ bh hl2)).2;rcases bw (((gO (.sl l)) != 0)) with cW|cW
 ·have mI:=bQ cW;refine⟨⟨(jL,(gO (.sl l))),Fc,.inl ⟨λh=>absurd (hp1.2.trans h) (bne_iff_ne.1 cW),Prod.ext rfl hp1.2⟩⟩,kf ai [oC (dM eY (x:=.sl l) (.ah _ bh hl2)),oB cW]⟩
 ·have mI:=aM cW;have aaJ:=(tF (.sl l) (.agg [.str a,.str b]) ⟨(.ah _ bh hl2),(.av _ _ bh bh)⟩).2;obtain⟨k_3,b_3,acB,ajy,ah4⟩:∃(k8:Nat) (b8:Bool),pS (.sl l) (.agg [.str a,.str b])=((k8:Int),b8)/\k8<=(l:List Tree).length/\(b8=true->k8<(l:List Tree).length):=by
   obtain⟨k,e,h0,h,_⟩:=aaJ.1;exact⟨k,_,Prod.ext e rfl,h0,λh8=>(by obtain⟨_,h7,_⟩:=h.1 h8;exact(List.getElem?_eq_some_iff.1 h7).1)⟩
  have afJ:eV m (.sl l) (.agg [.str a,.str b])=((k_3:Int),b_3):=aaJ.2.symm.trans acB;have aaK:T .ah (.sl l)/\T .av (.agg [.str a,.str b]):=⟨(.ah _ bh hl2),(.av _ _ bh bh)⟩;rcases b_3 with _|_
  ·refine⟨⟨(jL,9),Fc,.inr ⟨(hp1.2.symm.trans (aM cW)),.inl ⟨by rw[afJ],rfl⟩⟩⟩,kf ai [oC (dM eY (x:=.sl l) (.ah _ bh hl2)),oB cW,xC 30 [.t (.sl l),.t (.agg [.str a,.str b])] (.cv [.int .i64 ((k_3:Nat):Int),.bool false]) ((ey rY (x:=(.sl l)) (y:=(.agg [.str a,.str b])) (aaK)).trans (congrArg (λz:Int×Bool=>some (bk.ret (.t (.cv [.int .i64 z.1,.bool z.2])) [] [])) acB)),oT]⟩
  ·have ajf:=ah4 rfl;obtain⟨e4,I5⟩:=iO l k_3;have Bp:=(hl2 e4 (kQ I5));obtain⟨nQ,tK,qh,kG,qi,qj,ql,qm,jG,kH,rfl,UR,ab3,ah5,ah6,ah7,ah8,ah9,aia,aib,aic⟩:=T.bg Bp;refine⟨⟨(.agg [.str nQ,.str tK,.sl qh,.int .u8 kG,.bool qi,.int .i64 qj,.str ql,.str qm,.sl jG,.sl kH],0),Bp,.inr ⟨(hp1.2.symm.trans (aM cW)),.inr ⟨_,_,afJ,I5,rfl⟩⟩⟩,kf ai [oC (dM eY (x:=.sl l) (.ah _ bh hl2)),oB cW,xC 30 [.t (.sl l),.t (.agg [.str a,.str b])] (.cv [.int .i64 ((k_3:Nat):Int),.bool true]) ((ey rY (x:=(.sl l)) (y:=(.agg [.str a,.str b])) (aaK)).trans (congrArg (λz:Int×Bool=>some (bk.ret (.t (.cv [.int .i64 z.1,.bool z.2])) [] [])) acB)),oF,oE I5,xC 29 [.t (.sl [.agg [.str nQ,.str tK,.sl qh,.int .u8 kG,.bool qi,.int .i64 qj,.str ql,.str qm,.sl jG,.sl kH]])] (.sl [.agg [.str nQ,.str tK,.sl qh,.int .u8 kG,.bool qi,.int .i64 qj,.str ql,.str qm,.sl jG,.sl kH]]) (dM Zj (x:=.sl [.agg [.str nQ,.str tK,.sl qh,.int .u8 kG,.bool qi,.int .i64 qj,.str ql,.str qm,.sl jG,.sl kH]]) ⟨_,rfl,(.ah _ bh (eC Bp (λ_ h=>absurd h (by simp))))⟩),oE (show([.agg [.str nQ,.str tK,.sl qh,.int .u8 kG,.bool qi,.int .i64 qj,.str ql,.str qm,.sl jG,.sl kH]]:List Tree)[0]?=some (.agg [.str nQ,.str tK,.sl qh,.int .u8 kG,.bool qi,.int .i64 qj,.str ql,.str qm,.sl jG,.sl kH]) from rfl)]⟩
theorem Bz (m:Int):∃F:Tree->Tree->Tree×Int,∀x y,(T .ah x/\T .av y)->R2 (cf m) 16 x y (.cv [(F x y).1,.int .i64 (F x y).2])/\(T .aB (F x y).1/\tJ m (gR x) y (F x y)):=by
 refine xV (P:=λx y=>T .ah x/\T .av y) (mk:=λ(r:Tree×Int)=>.cv [r.1,.int .i64 r.2]) (Post:=λx y r=>T .aB r.1/\tJ m (gR x) y r) λx y h=> ?_
 obtain⟨l,rfl,hl,hl2⟩:=T.bU h.1;obtain⟨a,b,rfl,ha,hb⟩:=T.bx h.2;exact Zi m l hl hl2 a b ha hb
end
end Go.Proofs.YtnfnihgmankidaaGreatDoor.w.e
namespace Go.Proofs.YtnfnihgmankidaaGreatDoor.w.e
open Go Go.Abs
set_option maxRecDepth 100000
set_option maxHeartbeats 2000000
noncomputable section
open Classical in
def Zk (A:List Tree)(U:Tree)(i v:Nat):Prop:=v=if U∈A.take i then 1 else 0
theorem Zk.zero {A:List Tree}{U:Tree}:Zk A U 0 0:=by unfold Zk;simp
theorem Zk.le {A:List Tree}{U:Tree}{i v:Nat}(h:Zk A U i v):v<=1:=by
 unfold Zk at h;subst h;split<;>omega
theorem Zk.one {A:List Tree}{U:Tree}{i v:Nat}(h:Zk A U i v)(hi:A.length<=i)(hU:U∈A):v=1:=by
 unfold Zk at h;rw[List.take_of_length_le hi,if_pos hU] at h;exact h
end
end Go.Proofs.YtnfnihgmankidaaGreatDoor.w.e
namespace Go.Proofs.YtnfnihgmankidaaGreatDoor.w.e
open Go Go.Abs
set_option maxRecDepth 100000
set_option maxHeartbeats 2000000
noncomputable section
end
end Go.Proofs.YtnfnihgmankidaaGreatDoor.w.e
