/- A type is right: then it has a right form. -/
import Derived.Test.YtijfhoelihclbaaGreatDoorZ
import Derived.Test.YtijfhoelihclbaaGreatDoorY
namespace Go.Proofs.YtijfhoelihclbaaGreatDoor.w
open Go Go.Abs Go.Abs.Ty
set_option linter.unusedVariables false
set_option maxRecDepth 100000
set_option maxHeartbeats 2000000
noncomputable section
abbrev ajo:TI:={size:=1,bytes:=1,agg:=false,zero:=some (.t (.int .u8 0)),desc:=.int .u8}
theorem EB {m:Int}:(cf m).P.ty 35=some ajo:=by kernel_rfl
theorem qH {m:Int}:fN (cf m).P 38 0=some 0:=by kernel_rfl
theorem Hl {m:Int}:fN (cf m).P 38 1=some 1:=by kernel_rfl
def bt:Tree→Tree
 |.agg (_::r)=>.agg r
 |x=>x
theorem TT {bs:List Tree}{i:Nat}{nm:List UInt8}{r:List Tree}(he:bs[i]?=some (.agg (.str nm::r))):(bs.take (i+1)).map bt=(bs.take i).map bt++[.agg r]:=by
 rw[List.take_add_one,he]
 simp[bt]
theorem Dz {D:Tree→Prop}{os bs:List Tree}(hos:∀x∈os,D x)(hbs:QX D bs){i:Nat}:∀x∈os++(bs.take i).map bt,D x:=fun x hx=>by
  rcases List.mem_append.1 hx with h|h
  · exact hos x h
  · obtain⟨e,he,rfl⟩:=List.mem_map.1 h
    obtain⟨nm,r,rfl,ht⟩:=hbs e (List.mem_of_mem_take he)
    exact ht
theorem Qo {ag:Bool}{sz:Nat}{es:List Tree}(h:fA ag sz es):iQ sz es=true:=by
 cases es with
 |nil=>rfl
 |cons e r=>simp[iQ,h.lens e (by simp)]
theorem Oc {ag:Bool}{sz:Nat}{e:Tree}(h:EOk ag sz e):fA ag sz [e]:=fA.cons h fA.nil
theorem JV {os bs:List Tree}(h1:os.length≤4194304)(h2:bs.length≤4194304){i:Nat}{e:Tree}:((os++(bs.take i).map bt).length+ [e].length) *72≤eu:=by
 have:((bs.take i).map bt).length≤bs.length:=by rw[List.length_map,List.length_take];omega
 rw[List.length_append]
 simp only[List.length_singleton]
 show _≤70368744177664
 omega
theorem FJ {os bs:List Tree}(h1:os.length≤4194304)(h2:bs.length≤4194304){i:Nat}:(os++(bs.take i).map bt).length≤8388608:=by
 have:((bs.take i).map bt).length≤bs.length:=by rw[List.length_map,List.length_take];omega
 rw[List.length_append]
 omega
def GStep (G:Tree→Prop)(x:Tree):Prop:=∃k s os bs,x=aC k s os bs∧k<7∧(k≠4→s=[])∧(k≠6→bs=[])∧(k=5→∃o,os=[o]∧G o)∧(k≠5→os=[])∧∀e∈bs,∃nm r,e=.agg (.str nm::r)∧G (.agg r)
theorem je {G:Tree→Prop}{l:List Tree}{i:Nat}{e:Tree}(he:l[i]?=some e)(hg:G e)(h:∀j,j<i→∀x,l[j]?=some x→G x):∀j,j<i+1→∀x,l[j]?=some x→G x:=fun j hj x hx=>by
  by_cases h1:j<i
  · exact h j h1 x hx
  · obtain rfl:j=i:=by omega
    rw[he] at hx;cases hx;exact hg
theorem kj {G:Tree→Prop}{l:List Tree}(h:∀j,j<l.length→∀x,l[j]?=some x→G x):∀x∈l,G x:=fun x hx=>by
 obtain⟨j,hj,e⟩:=List.getElem_of_mem hx
 exact h j hj x (by rw[List.getElem?_eq_getElem hj,e])
theorem qw {G:Tree→Prop}{k:Int}{s:List UInt8}{os bs:List Tree}(h6:k≠6)(h1:((s==[])||k==4)=true)(h2:(((bs.length:Nat):Int)==0||k==6)=true)(h3:decide (k<7)=true)
    (h5:((os.length:Nat):Int)=if k=5 then 1 else 0)(hg:∀x∈os,G x):GStep G (aC k s os bs):=by
  have hb:bs=[]:=by simp[h6] at h2;exact h2
  subst hb
  refine⟨k,s,os,[],rfl,of_decide_eq_true h3,fun h=>by simpa [h] using h1,fun _=>rfl,fun h=> ?_,fun h=> ?_,by simp⟩
  · rw[if_pos h] at h5
    match os,h5 with
    | [o],_=>exact⟨o,rfl,hg o (by simp)⟩
  · rw[if_neg h] at h5
    exact List.eq_nil_of_length_eq_zero (by omega)
theorem FK {G D:Tree→Prop}{s:List UInt8}{os bs:List Tree}(hat:QX D bs)(h1:((s==[])||(6:Int)==4)=true)(h5:((os.length:Nat):Int)=0)(hg:∀x∈os++(bs.take bs.length).map bt,G x):GStep G (aC 6 s os bs):=by
 have ho:os=[]:=List.eq_nil_of_length_eq_zero (by omega)
 subst ho
 refine⟨6,s,[],bs,rfl,by omega,fun h=>by simpa using h1,fun h=>absurd rfl h,fun h=>by omega,fun _=>rfl,fun e he=> ?_⟩
 obtain⟨nm,r,rfl,_⟩:=hat e he
 refine⟨nm,r,rfl,hg _ ?_⟩
 rw[List.nil_append,List.take_length]
 exact List.mem_map.2 ⟨_,he,rfl⟩
theorem BP (m:Int)(D G:Tree→Prop)(hform:Form D)(dz:Tree→Int)(oz:Tree→Bool)(hsz:∀x,D x→R1 (cf m) 47 x (.bN [.int .i64 (dz x),.bool (oz x)]))(hG:∀x,D x→oz x=true→G x)
  (k:Int)(s:List UInt8)(os bs:List Tree)(lo:os.length≤4194304)(lb:bs.length≤4194304)(ho:∀o∈os,D o)(hb:QX D bs):∃r:{p:Int×Bool // p.2=true→GStep G (aC k s os bs)},R1 (cf m) 47 (aC k s os bs) (.bN [.int .i64 r.1.1,.bool r.1.2]):=by
 have hPL:PL (.sl bs):=⟨bs,rfl,lb,fun e he=>by
  obtain⟨nm,r,rfl,hd⟩:=hb e he
  obtain⟨k,s,o,b,er,_⟩:=hform _ hd
  obtain rfl:=Tree.agg.inj er
  exact⟨nm,k,s,o,b,rfl⟩⟩
 obtain⟨vA,Ms⟩:=BO m
 obtain⟨Ho,ajp⟩:=JK m
 obtain⟨Hp,ajq⟩:=Tt m
 obtain⟨ev,ai,Al,JW,ajr,ajs⟩:∃ev,aF (cf m) ev∧Has ev 68 (kY (fun x=>PS x) (fun x=>.bool (vA x)))∧Has ev 47 (kY D (fun x=>.bN [.int .i64 (dz x),.bool (oz x)]))∧Has ev 79 (rD (fun x y=>PL x∧y=.fn (.func 80)) (fun x y=>.bool (Ho x y)))∧Has ev 81 (rD (fun x y=>PL x∧y=.fn (.func 82)) (fun x y=>.bool (Hp x y))):=⟨_,(ax (bD (fun x h=>(Ms x h))) (ax (bD hsz) (ax (dn (fun x y h=>(ajp x y h))) (ax (dn (fun x y h=>(ajq x y h))) aH)))),az,(aq rfl az),(aq rfl (aq rfl az)),(aq rfl (aq rfl (aq rfl az)))⟩
 show ∃r:{p:Int×Bool // p.2=true→GStep G (aC k s os bs)},ay (cf m) 47 [.t (aC k s os bs)] [] (.ret (.t (.bN [.int .i64 r.1.1,.bool r.1.2])) [] [])
 refine AX.start 119 1 Tryz.func47 rfl (by decide) rfl rfl (by decide) ?_
 refine AX.seq ?_
 refine AX.region ?_
 refine au.go (f:=0) ai (Fi rfl rfl) ?_
 refine au.go (f:=0) ai (aj rfl) ?_
 refine au.go (f:=0) ai (aj rfl) ?_
 refine au.nil ?_
 refine AX.seq ?_
 refine AX.region ?_
 refine au.go (f:=0) ai (aD rfl Hl rfl) ?_
 refine au.go (f:=0) ai (cD rfl (ld j9 rfl rfl)) ?_
 refine au.go (f:=0) ai (R4 rfl rfl) ?_
 refine au.go (f:=0) ai (ak rfl) ?_
 refine au.gF (f:=0) ai rfl rfl rfl (fun hb=>aD rfl qH rfl) ?_
 refine au.gF (f:=0) ai rfl rfl rfl (fun hb=>cD (cr hb rfl) (ld EB rfl rfl)) ?_
 refine au.gF (f:=0) ai rfl rfl rfl (fun hb=>fT (cr hb rfl) rfl) ?_
 refine au.go (f:=0) ai ((by first|exact adI rfl rfl (fun h=>by simp_all)|exact gO rfl rfl rfl)) ?_
 refine au.go (f:=0) ai (ak rfl) ?_
 refine au.gT (f:=0) ai rfl rfl rfl (fun hb=>aD rfl gQ rfl) ?_
 refine au.gT (f:=0) ai rfl rfl rfl (fun hb=>bg (cr hb rfl) (ld gK rfl rfl)) ?_
 refine au.gT (f:=0) ai rfl rfl rfl (fun hb=>gh (cr hb rfl) gK rfl) ?_
 refine au.gT (f:=0) ai rfl rfl rfl (fun hb=>fT (cr hb rfl) rfl) ?_
 refine au.gT (f:=0) ai rfl rfl rfl (fun hb=>ak (cr hb rfl)) ?_
 refine au.nF (f:=0) ai rfl rfl rfl (fun hb=>aD rfl qH rfl) ?_
 refine au.nF (f:=0) ai rfl rfl rfl (fun hb=>cD (cr hb rfl) (ld EB rfl rfl)) ?_
 refine au.nF (f:=0) ai rfl rfl rfl (fun hb=>fT (cr hb rfl) rfl) ?_
 refine au.gT (f:=0) ai rfl rfl rfl (fun hb=>(by first|exact adI (cr hb rfl) rfl (fun h=>by simp_all)|exact gO (cr hb rfl) rfl rfl)) ?_
 refine au.go (f:=0) ai ((by first|exact l7 rfl rfl (fun h=>by simp_all)|exact gO rfl rfl rfl)) ?_
 refine au.go (f:=0) ai (ak rfl) ?_
 refine au.gT (f:=0) ai rfl rfl rfl (fun hb=>aD rfl qH rfl) ?_
 refine au.gT (f:=0) ai rfl rfl rfl (fun hb=>cD (cr hb rfl) (ld EB rfl rfl)) ?_
 refine au.gT (f:=0) ai rfl rfl rfl (fun hb=>gi (cr hb rfl) rfl) ?_
 refine au.go (f:=0) ai ((by first|exact l7 rfl rfl (fun h=>by simp_all)|exact gO rfl rfl rfl)) ?_
 refine au.go (f:=0) ai (aj rfl) ?_
 refine au.nil ?_
 refine AX.seq ?_
 refine AX.region ?_
 refine au.go (f:=0) ai (aD rfl kE rfl) ?_
 refine au.go (f:=0) ai (bg rfl (ld ig rfl rfl)) ?_
 refine au.go (f:=0) ai (aj rfl) ?_
 refine au.nil ?_
 refine AX.seq ?_
 refine AX.seq ?_
 refine AX.region ?_
 refine au.go (f:=0) ai (aD rfl qH rfl) ?_
 refine au.go (f:=0) ai (cD rfl (ld EB rfl rfl)) ?_
 refine au.nil ?_
 refine AX.block ?_
 refine AX.seq ?_
 refine AX.region ?_
 refine au.go (f:=0) ai (fT rfl rfl) ?_
 refine au.go (f:=0) ai (aj rfl) ?_
 refine au.nil ?_
 refine AX.cond rfl (fun hc1=> ?_) (fun hc1=> ?_)
 ·
  have Aj:=eq_of_beq hc1
  refine AX.region ?_
  refine au.go (f:=0) ai (ak rfl) ?_
  refine au.go (f:=0) ai (ak rfl) ?_
  refine au.gT (f:=0) ai rfl rfl rfl (fun hb=>aD rfl Hl rfl) ?_
  refine au.gT (f:=0) ai rfl rfl rfl (fun hb=>cD (cr hb rfl) (ld j9 rfl rfl)) ?_
  refine au.gT (f:=0) ai rfl rfl rfl (fun hb=>bU (tJ (cr hb rfl)) (bk Al ⟨_,rfl⟩)) ?_
  refine au.go (f:=0) ai ((by first|exact l7 rfl rfl (fun h=>by simp_all)|exact gO rfl rfl rfl)) ?_
  refine au.go (f:=0) ai (aj rfl) ?_
  refine au.nil ?_
  refine AX.b9 ?_
  refine AX.seq ?_
  refine AX.region ?_
  refine au.go (f:=0) ai (aj rfl) ?_
  refine au.nil ?_
  refine AX.seq ?_
  refine AX.seq ?_
  refine AX.region ?_
  refine au.go (f:=0) ai (aD rfl qH rfl) ?_
  refine au.go (f:=0) ai (cD rfl (ld EB rfl rfl)) ?_
  refine au.go (f:=0) ai (fT rfl rfl) ?_
  refine au.nil ?_
  refine AX.cond rfl (fun bE=> ?_) (fun bE=> ?_)
  ·
   have gR:=eq_of_beq bE
   refine AX.region ?_
   refine au.go (f:=0) ai (aj rfl) ?_
   refine au.nil ?_
   refine AX.seq ?_
   refine AX.region ?_
   refine au.go (f:=0) ai (ak rfl) ?_
   refine au.go (f:=0) ai (ak rfl) ?_
   refine au.gT (f:=0) ai rfl rfl rfl (fun hb=>aD rfl kE rfl) ?_
   refine au.gT (f:=0) ai rfl rfl rfl (fun hb=>bg (cr hb rfl) (ld ig rfl rfl)) ?_
   refine au.gT (f:=0) ai rfl rfl rfl (fun hb=>gh (cr hb rfl) ig rfl) ?_
   refine au.gT (f:=0) ai rfl rfl rfl (fun hb=>ak rfl) ?_
   refine au.gT (f:=0) ai rfl rfl rfl (fun hb=>fT (cr hb rfl) (cr hb rfl)) ?_
   refine au.go (f:=0) ai ((by first|exact l7 rfl rfl (fun h=>by simp_all)|exact gO rfl rfl rfl)) ?_
   refine au.go (f:=0) ai (aj rfl) ?_
   refine au.nil ?_
   refine AX.seq ?_
   refine AX.seq ?_
   refine AX.region ?_
   refine au.go (f:=0) ai (ak rfl) ?_
   refine au.go (f:=0) ai (gh rfl ig rfl) ?_
   refine au.go (f:=0) ai (ak rfl) ?_
   refine au.nil ?_
   refine AX.block ?_
   have hLl:os.length≤8388608:=by omega
   refine AX.loop (α:=Nat×Int×Bool) (fun x=>⟨bX 119 [(2,.t (.int .i64 x.2.1)),(3,.t (.bool x.2.2)),(97,.t (.sl os)),(98,.t (.int .i64 ((os.length:Nat):Int))),(99,.t (.int .i64 ((x.1:Nat):Int)))],[],0⟩) (fun x=>(x.1≤os.length)∧(x.2.2=true→((((((s==[])||(k==4))&&((((bs.length:Nat):Int)==0)||(k==6)))&&decide (k<7))&&(vA (.str s)))&&(((os.length:Nat):Int)==1))=true∧∀j,j<x.1→∀x,os[j]?=some x→G x)) (fun x=>os.length - x.1) (⟨0,0,((((((s==[])||(k==4))&&((((bs.length:Nat):Int)==0)||(k==6)))&&decide (k<7))&&(vA (.str s)))&&(((os.length:Nat):Int)==1))⟩) (Re.sq [] ⟨rfl,rfl,rfl,rfl,rfl,trivial⟩ trivial (by decide) rfl rfl (by decide)) ⟨Nat.zero_le _,fun h=>⟨h,fun j hj=>absurd hj (Nat.not_lt_zero j)⟩⟩ (fun x hok=> ?_)
   obtain⟨FL,aeE,abi⟩:=x
   replace hok:(FL≤os.length)∧(abi=true→((((((s==[])||(k==4))&&((((bs.length:Nat):Int)==0)||(k==6)))&&decide (k<7))&&(vA (.str s)))&&(((os.length:Nat):Int)==1))=true∧∀j,j<FL→∀x,os[j]?=some x→G x):=hok
   obtain⟨XL,Od⟩:=hok
   show AX _ _ ⟨bX 119 [(2,.t (.int .i64 aeE)),(3,.t (.bool abi)),(97,.t (.sl os)),(98,.t (.int .i64 ((os.length:Nat):Int))),(99,.t (.int .i64 ((FL:Nat):Int)))],[],0⟩ _
   refine AX.seq ?_
   refine AX.region ?_
   refine au.go (f:=0) ai (gi rfl rfl) ?_
   refine au.nil ?_
   refine AX.seq ?_
   refine AX.cond rfl (fun rU=> ?_) (fun rU=> ?_)
   ·
    have Hq:=of_decide_eq_true rU
    refine AX.skip ?_
    refine AX.seq ?_
    refine AX.block ?_
    refine AX.seq ?_
    refine AX.region ?_
    obtain⟨e5,XM⟩:∃e,os[FL]?=some e:=⟨os[FL]'(by first|omega|(simp;omega)),List.getElem?_eq_getElem _⟩
    have abj:=(ho) e5 (List.mem_of_getElem? XM)
    obtain⟨k_6,s_6,aeF,aeG,rfl,alx,aly⟩:=hform _ (abj)
    refine au.go (f:=0) ai (fO (m:=FL) rfl rfl ig rfl dW XM rfl) ?_
    refine au.go (f:=0) ai (bg rfl (ld dW rfl rfl)) ?_
    refine au.go (f:=0) ai (ic dW rfl rfl) ?_
    refine au.qd (f:=0) ai (bT rfl rfl (sx dW rfl rfl)) ?_
    refine au.nil ?_
    refine AX.seq ?_
    refine AX.region ?_
    refine au.go (f:=0) ai (bg rfl (ld dW rfl rfl)) ?_
    refine au.go (f:=0) ai (bU (tJ rfl) (bk JW abj)) ?_
    refine au.go (f:=0) ai (ak rfl) ?_
    refine au.go (f:=0) ai (dK rfl rfl) ?_
    refine au.go (f:=0) ai (dK rfl rfl) ?_
    refine au.go (f:=0) ai (aj rfl) ?_
    refine au.go (f:=0) ai (aj rfl) ?_
    refine au.nil ?_
    refine AX.region ?_
    refine au.go (f:=0) ai (ak rfl) ?_
    refine au.go (f:=0) ai (ak rfl) ?_
    refine au.go (f:=0) ai (Fl rfl rfl) ?_
    refine au.go (f:=0) ai (ak rfl) ?_
    refine au.go (f:=0) ai (ak rfl) ?_
    refine au.gT (f:=0) ai rfl rfl rfl (fun hb=>ak rfl) ?_
    refine au.go (f:=0) ai ((by first|exact l7 rfl rfl (fun h=>by simp_all)|exact gO rfl rfl rfl)) ?_
    refine au.go (f:=0) ai (aj rfl) ?_
    refine au.go (f:=0) ai (aj rfl) ?_
    refine au.nil ?_
    refine AX.b9 ?_
    refine AX.region ?_
    refine au.go (f:=0) ai (jP rfl rfl (by omega) (by omega)) ?_
    refine au.go (f:=0) ai (ak rfl) ?_
    refine au.nil ?_
    exact⟨.inl ⟨⟨FL+1,(max aeE (dz (.agg [.int .u8 k_6,.str s_6,.sl aeF,.sl aeG]))),(abi&&(oz (.agg [.int .u8 k_6,.str s_6,.sl aeF,.sl aeG])))⟩,⟨⟨(by show(FL+1)≤os.length;first|omega|(simp only[List.length_append,List.length_cons,List.length_nil,List.length_singleton] at*;omega)|(simp;done)|(simp;omega)),(fun hv=>by have hv:=Bool.and_eq_true_iff.1 hv;obtain⟨h1,h2⟩:=Od hv.1;exact⟨h1,je XM (hG _ abj hv.2) h2⟩)⟩,(by show(os.length - (FL+1))<(os.length - FL);omega)⟩⟩,rfl,Re.sq [] ⟨rfl,rfl,rfl,rfl,rfl,trivial⟩ trivial (by decide) rfl rfl (by decide)⟩
   ·
    have Hq:=of_decide_eq_false rU
    refine AX.exit ?_
    refine AX.dU ?_
    refine AX.leave (e:=.exit 3) (by simp) ?_
    refine AX.fk ?_
    refine AX.seq ?_
    refine AX.region ?_
    refine au.go (f:=0) ai (ak rfl) ?_
    refine au.go (f:=0) ai (qf rfl rfl rfl) ?_
    refine au.go (f:=0) ai (ak rfl) ?_
    refine au.go (f:=0) ai (aj rfl) ?_
    refine au.go (f:=0) ai (aj rfl) ?_
    refine au.nil ?_
    refine AX.ret ?_
    refine⟨⟨(_,_),fun hr=> ?_⟩,.inl rfl⟩
    obtain⟨h1,h2⟩:=Od hr
    have h3:=kj (fun j hj=>h2 j (by omega))
    simp only[Bool.and_eq_true] at h1
    exact qw (by have:=eq_of_beq hc1;omega) (by simp_all) (by simp_all) (by simp_all) (by simp_all) h3
  ·
   have gR:=ne_of_beq_false bE
   refine AX.skip ?_
   refine AX.seq ?_
   refine AX.region ?_
   refine au.go (f:=0) ai (ak rfl) ?_
   refine au.go (f:=0) ai (ak rfl) ?_
   refine au.gT (f:=0) ai rfl rfl rfl (fun hb=>aD rfl kE rfl) ?_
   refine au.gT (f:=0) ai rfl rfl rfl (fun hb=>bg (cr hb rfl) (ld ig rfl rfl)) ?_
   refine au.gT (f:=0) ai rfl rfl rfl (fun hb=>gh (cr hb rfl) ig rfl) ?_
   refine au.gT (f:=0) ai rfl rfl rfl (fun hb=>ak rfl) ?_
   refine au.gT (f:=0) ai rfl rfl rfl (fun hb=>fT (cr hb rfl) (cr hb rfl)) ?_
   refine au.go (f:=0) ai ((by first|exact l7 rfl rfl (fun h=>by simp_all)|exact gO rfl rfl rfl)) ?_
   refine au.go (f:=0) ai (aj rfl) ?_
   refine au.nil ?_
   refine AX.seq ?_
   refine AX.seq ?_
   refine AX.region ?_
   refine au.go (f:=0) ai (ak rfl) ?_
   refine au.go (f:=0) ai (gh rfl ig rfl) ?_
   refine au.go (f:=0) ai (ak rfl) ?_
   refine au.nil ?_
   refine AX.block ?_
   have hLl:os.length≤8388608:=by omega
   refine AX.loop (α:=Nat×Int×Bool) (fun x=>⟨bX 119 [(2,.t (.int .i64 x.2.1)),(3,.t (.bool x.2.2)),(97,.t (.sl os)),(98,.t (.int .i64 ((os.length:Nat):Int))),(99,.t (.int .i64 ((x.1:Nat):Int)))],[],0⟩) (fun x=>(x.1≤os.length)∧(x.2.2=true→((((((s==[])||(k==4))&&((((bs.length:Nat):Int)==0)||(k==6)))&&decide (k<7))&&(vA (.str s)))&&(((os.length:Nat):Int)==0))=true∧∀j,j<x.1→∀x,os[j]?=some x→G x)) (fun x=>os.length - x.1) (⟨0,0,((((((s==[])||(k==4))&&((((bs.length:Nat):Int)==0)||(k==6)))&&decide (k<7))&&(vA (.str s)))&&(((os.length:Nat):Int)==0))⟩) (Re.sq [] ⟨rfl,rfl,rfl,rfl,rfl,trivial⟩ trivial (by decide) rfl rfl (by decide)) ⟨Nat.zero_le _,fun h=>⟨h,fun j hj=>absurd hj (Nat.not_lt_zero j)⟩⟩ (fun x hok=> ?_)
   obtain⟨Hr,aeH,abk⟩:=x
   replace hok:(Hr≤os.length)∧(abk=true→((((((s==[])||(k==4))&&((((bs.length:Nat):Int)==0)||(k==6)))&&decide (k<7))&&(vA (.str s)))&&(((os.length:Nat):Int)==0))=true∧∀j,j<Hr→∀x,os[j]?=some x→G x):=hok
   obtain⟨XN,Oe⟩:=hok
   show AX _ _ ⟨bX 119 [(2,.t (.int .i64 aeH)),(3,.t (.bool abk)),(97,.t (.sl os)),(98,.t (.int .i64 ((os.length:Nat):Int))),(99,.t (.int .i64 ((Hr:Nat):Int)))],[],0⟩ _
   refine AX.seq ?_
   refine AX.region ?_
   refine au.go (f:=0) ai (gi rfl rfl) ?_
   refine au.nil ?_
   refine AX.seq ?_
   refine AX.cond rfl (fun fF=> ?_) (fun fF=> ?_)
   ·
    have wH:=of_decide_eq_true fF
    refine AX.skip ?_
    refine AX.seq ?_
    refine AX.block ?_
    refine AX.seq ?_
    refine AX.region ?_
    obtain⟨e9,XO⟩:∃e,os[Hr]?=some e:=⟨os[Hr]'(by first|omega|(simp;omega)),List.getElem?_eq_getElem _⟩
    have TU:=(ho) e9 (List.mem_of_getElem? XO)
    obtain⟨aeI,aeJ,Zd,Ze,rfl,ak7,ak8⟩:=hform _ (TU)
    refine au.go (f:=0) ai (fO (m:=Hr) rfl rfl ig rfl dW XO rfl) ?_
    refine au.go (f:=0) ai (bg rfl (ld dW rfl rfl)) ?_
    refine au.go (f:=0) ai (ic dW rfl rfl) ?_
    refine au.qd (f:=0) ai (bT rfl rfl (sx dW rfl rfl)) ?_
    refine au.nil ?_
    refine AX.seq ?_
    refine AX.region ?_
    refine au.go (f:=0) ai (bg rfl (ld dW rfl rfl)) ?_
    refine au.go (f:=0) ai (bU (tJ rfl) (bk JW TU)) ?_
    refine au.go (f:=0) ai (ak rfl) ?_
    refine au.go (f:=0) ai (dK rfl rfl) ?_
    refine au.go (f:=0) ai (dK rfl rfl) ?_
    refine au.go (f:=0) ai (aj rfl) ?_
    refine au.go (f:=0) ai (aj rfl) ?_
    refine au.nil ?_
    refine AX.region ?_
    refine au.go (f:=0) ai (ak rfl) ?_
    refine au.go (f:=0) ai (ak rfl) ?_
    refine au.go (f:=0) ai (Fl rfl rfl) ?_
    refine au.go (f:=0) ai (ak rfl) ?_
    refine au.go (f:=0) ai (ak rfl) ?_
    refine au.gT (f:=0) ai rfl rfl rfl (fun hb=>ak rfl) ?_
    refine au.go (f:=0) ai ((by first|exact l7 rfl rfl (fun h=>by simp_all)|exact gO rfl rfl rfl)) ?_
    refine au.go (f:=0) ai (aj rfl) ?_
    refine au.go (f:=0) ai (aj rfl) ?_
    refine au.nil ?_
    refine AX.b9 ?_
    refine AX.region ?_
    refine au.go (f:=0) ai (jP rfl rfl (by omega) (by omega)) ?_
    refine au.go (f:=0) ai (ak rfl) ?_
    refine au.nil ?_
    exact⟨.inl ⟨⟨Hr+1,(max aeH (dz (.agg [.int .u8 aeI,.str aeJ,.sl Zd,.sl Ze]))),(abk&&(oz (.agg [.int .u8 aeI,.str aeJ,.sl Zd,.sl Ze])))⟩,⟨⟨(by show(Hr+1)≤os.length;first|omega|(simp only[List.length_append,List.length_cons,List.length_nil,List.length_singleton] at*;omega)|(simp;done)|(simp;omega)),(fun hv=>by have hv:=Bool.and_eq_true_iff.1 hv;obtain⟨h1,h2⟩:=Oe hv.1;exact⟨h1,je XO (hG _ TU hv.2) h2⟩)⟩,(by show(os.length - (Hr+1))<(os.length - Hr);omega)⟩⟩,rfl,Re.sq [] ⟨rfl,rfl,rfl,rfl,rfl,trivial⟩ trivial (by decide) rfl rfl (by decide)⟩
   ·
    have wH:=of_decide_eq_false fF
    refine AX.exit ?_
    refine AX.dU ?_
    refine AX.leave (e:=.exit 3) (by simp) ?_
    refine AX.fk ?_
    refine AX.seq ?_
    refine AX.region ?_
    refine au.go (f:=0) ai (ak rfl) ?_
    refine au.go (f:=0) ai (qf rfl rfl rfl) ?_
    refine au.go (f:=0) ai (ak rfl) ?_
    refine au.go (f:=0) ai (aj rfl) ?_
    refine au.go (f:=0) ai (aj rfl) ?_
    refine au.nil ?_
    refine AX.ret ?_
    refine⟨⟨(_,_),fun hr=> ?_⟩,.inl rfl⟩
    obtain⟨h1,h2⟩:=Oe hr
    have h3:=kj (fun j hj=>h2 j (by omega))
    simp only[Bool.and_eq_true] at h1
    exact qw (by have:=eq_of_beq hc1;omega) (by simp_all) (by simp_all) (by simp_all) (by simp_all) h3
 ·
  have Aj:=ne_of_beq_false hc1
  refine AX.seq ?_
  refine AX.region ?_
  refine au.go (f:=0) ai (fT rfl rfl) ?_
  refine au.go (f:=0) ai (aj rfl) ?_
  refine au.nil ?_
  refine AX.cond rfl (fun cN=> ?_) (fun cN=> ?_)
  ·
   have yH:=eq_of_beq cN
   have hk6:k=6:=eq_of_beq cN
   refine AX.seq ?_
   refine AX.region ?_
   refine au.go (f:=0) ai (ak rfl) ?_
   refine au.go (f:=0) ai (ak rfl) ?_
   refine au.gT (f:=0) ai rfl rfl rfl (fun hb=>aD rfl gQ rfl) ?_
   refine au.gT (f:=0) ai rfl rfl rfl (fun hb=>bg (cr hb rfl) (ld gK rfl rfl)) ?_
   refine au.gT (f:=0) ai rfl rfl rfl (fun hb=>gh (cr hb rfl) gK rfl) ?_
   refine au.gT (f:=0) ai rfl rfl rfl (fun hb=>I4 (cr hb rfl) rfl) ?_
   refine au.go (f:=0) ai ((by first|exact l7 rfl rfl (fun h=>by simp_all)|exact gO rfl rfl rfl)) ?_
   refine au.go (f:=0) ai (ak rfl) ?_
   refine au.gT (f:=0) ai rfl rfl rfl (fun hb=>aD rfl gQ rfl) ?_
   refine au.gT (f:=0) ai rfl rfl rfl (fun hb=>bg (cr hb rfl) (ld gK rfl rfl)) ?_
   refine au.gT (f:=0) ai rfl rfl rfl (fun hb=>bU (Ns (cr hb rfl) rfl) (dr ajr ⟨hPL,rfl⟩)) ?_
   refine au.go (f:=0) ai ((by first|exact l7 rfl rfl (fun h=>by simp_all)|exact gO rfl rfl rfl)) ?_
   refine au.go (f:=0) ai (ak rfl) ?_
   refine au.gT (f:=0) ai rfl rfl rfl (fun hb=>aD rfl gQ rfl) ?_
   refine au.gT (f:=0) ai rfl rfl rfl (fun hb=>bg (cr hb rfl) (ld gK rfl rfl)) ?_
   refine au.gT (f:=0) ai rfl rfl rfl (fun hb=>bU (Ns (cr hb rfl) rfl) (dr ajs ⟨hPL,rfl⟩)) ?_
   refine au.gT (f:=0) ai rfl rfl rfl (fun hb=>vH (cr hb rfl)) ?_
   refine au.go (f:=0) ai ((by first|exact l7 rfl rfl (fun h=>by simp_all)|exact gO rfl rfl rfl)) ?_
   refine au.go (f:=0) ai (aj rfl) ?_
   refine au.nil ?_
   refine AX.seq ?_
   refine AX.region ?_
   refine au.go (f:=0) ai (aD rfl gQ rfl) ?_
   refine au.go (f:=0) ai (bg rfl (ld gK rfl rfl)) ?_
   refine au.go (f:=0) ai (gh rfl gK rfl) ?_
   refine au.go (f:=0) ai (ak rfl) ?_
   refine au.nil ?_
   refine AX.block ?_
   refine AX.loop (α:=Nat) (fun x=>⟨bX 119 [(1,.ptr (.loc [0]) 0),(2,.t (.int .i64 0)),(3,.t (.bool (((((((s==[])||(k==4))&&((((bs.length:Nat):Int)==0)||(k==6)))&&decide (k<7))&&decide (((bs.length:Nat):Int)≤16))&&(Ho (.sl bs) (.fn (.func 80))))&&(!(Hp (.sl bs) (.fn (.func 82))))))),(4,.t (.sl (os++(bs.take x).map bt))),(69,.t (.sl bs)),(70,.t (.int .i64 ((bs.length:Nat):Int))),(71,.t (.int .i64 ((x:Nat):Int)))],[(.loc [0],.cells 38 [.t (.int .u8 k),.t (.str s),.t (.sl os),.t (.sl bs)])],1⟩) (fun x=>(x≤bs.length)) (fun x=>bs.length - x) 0 (Re.sq [.loc [0]] ⟨rfl,rfl,rfl,(by simp only[List.take_zero,List.map_nil,List.append_nil];rfl),rfl,rfl,rfl,trivial⟩ ⟨⟨.loc [0],_,rfl,rfl,.inl rfl⟩,trivial⟩ (by decide) rfl rfl (by decide)) (by show(0≤bs.length);first|trivial|omega|(refine⟨?_, ?_⟩<;>first|omega|exact SM.nil)|simp) (fun x hok=> ?_)
   obtain⟨fQ,k3⟩:∃y,y=x:=⟨x,rfl⟩
   subst k3
   replace hok:(fQ≤bs.length):=hok
   have TW:=hok
   show AX _ _ ⟨bX 119 [(1,.ptr (.loc [0]) 0),(2,.t (.int .i64 0)),(3,.t (.bool (((((((s==[])||(k==4))&&((((bs.length:Nat):Int)==0)||(k==6)))&&decide (k<7))&&decide (((bs.length:Nat):Int)≤16))&&(Ho (.sl bs) (.fn (.func 80))))&&(!(Hp (.sl bs) (.fn (.func 82))))))),(4,.t (.sl (os++(bs.take fQ).map bt))),(69,.t (.sl bs)),(70,.t (.int .i64 ((bs.length:Nat):Int))),(71,.t (.int .i64 ((fQ:Nat):Int)))],[(.loc [0],.cells 38 [.t (.int .u8 k),.t (.str s),.t (.sl os),.t (.sl bs)])],1⟩ _
   have hun:=TE hform (Dz ho hb (i:=fQ))
   refine AX.seq ?_
   refine AX.region ?_
   refine au.go (f:=0) ai (gi rfl rfl) ?_
   refine au.nil ?_
   refine AX.seq ?_
   refine AX.cond rfl (fun iI=> ?_) (fun iI=> ?_)
   ·
    have Dm:=of_decide_eq_true iI
    refine AX.skip ?_
    refine AX.seq ?_
    refine AX.block ?_
    refine AX.seq ?_
    refine AX.region ?_
    obtain⟨e14,Hs⟩:∃e,bs[fQ]?=some e:=⟨bs[fQ]'(by first|omega|(simp;omega)),List.getElem?_eq_getElem _⟩
    obtain⟨ak9,ajt,rfl,aeK⟩:=hb e14 (List.mem_of_getElem? Hs)
    obtain⟨aeL,aeM,Zf,Zg,aeN,ala,alb⟩:=hform _ aeK
    obtain rfl:ajt=[.int .u8 aeL,.str aeM,.sl Zf,.sl Zg]:=Tree.agg.inj aeN
    refine au.go (f:=0) ai (fO (m:=fQ) rfl rfl gK rfl sJ Hs rfl) ?_
    refine au.go (f:=0) ai (bg rfl (ld sJ rfl rfl)) ?_
    refine au.go (f:=0) ai (ic sJ rfl rfl) ?_
    refine au.qd (f:=0) ai (bT rfl rfl (sx sJ rfl rfl)) ?_
    refine au.nil ?_
    refine AX.draw (f:=0) ah ai ?_
    refine aJ.go rfl (ak rfl) ?_
    refine aJ.go rfl (ak rfl) ?_
    refine aJ.go rfl (gh rfl ig rfl) ?_
    refine aJ.go rfl (ak rfl) ?_
    refine aJ.go rfl (gh rfl ig rfl) ?_
    refine aJ.go rfl (adS rfl rfl rfl ig rfl dW (Qo hun)) ?_
    refine aJ.go rfl (aD rfl GH rfl) ?_
    refine aJ.go rfl (bg rfl (ld dW rfl rfl)) ?_
    refine aJ.go rfl (aap rfl rfl ig rfl dW rfl rfl ⟨rfl,rfl,rfl⟩) ?_
    refine aJ.go rfl (aao SC rfl rfl (.inr rfl) (Oc ⟨rfl,rfl,rfl⟩) hun (by simp) (JV lo lb)) ?_
    refine aJ.go rfl (aj rfl) ?_
    refine aJ.nil (dP rfl rfl ?_)
    refine AX.b9 ?_
    refine AX.region ?_
    refine au.go (f:=0) ai (jP rfl rfl (by omega) (by omega)) ?_
    refine au.go (f:=0) ai (ak rfl) ?_
    refine au.nil ?_
    refine⟨.inl ⟨fQ+1,by show fQ+1≤_∧bs.length - (fQ+1)<bs.length - fQ;omega⟩,rfl, ?_⟩
    refine Re.trans (Re.freeze (d:=4) (N:=2) (H':=[(.loc [0],.cells 38 [.t (.int .u8 k),.t (.str s),.t (.sl os),.t (.sl bs)])]) (Gz (es:=(os++(bs.take fQ).map bt)++[.agg [.int .u8 aeL,.str aeM,.sl Zf,.sl Zg]]) rfl (hun.append (Oc ⟨rfl,rfl,rfl⟩)) (by decide) (by simp;omega)) (SB rfl (by decide)) (by decide)) ?_
    refine Re.sq [.loc [0]] ⟨rfl,rfl,rfl,(by rw[TT Hs,← List.append_assoc];rfl),rfl,rfl,rfl,trivial⟩ ⟨⟨.loc [0],_,rfl,rfl,.inl rfl⟩,trivial⟩ (by decide) rfl rfl (by decide)
   ·
    have Dm:=of_decide_eq_false iI
    refine AX.exit ?_
    refine AX.dU ?_
    refine AX.leave (e:=.exit 1) (by simp) ?_
    refine AX.fk ?_
    refine AX.b9 ?_
    refine AX.seq ?_
    refine AX.region ?_
    refine au.go (f:=0) ai (aj rfl) ?_
    refine au.nil ?_
    refine AX.seq ?_
    refine AX.seq ?_
    refine AX.region ?_
    refine au.go (f:=0) ai (aD rfl qH rfl) ?_
    refine au.go (f:=0) ai (cD rfl (ld EB rfl rfl)) ?_
    refine au.go (f:=0) ai (fT rfl rfl) ?_
    refine au.nil ?_
    refine AX.cond rfl (fun hc16=> ?_) (fun hc16=> ?_)
    ·
     have TX:=eq_of_beq hc16
     refine AX.region ?_
     refine au.go (f:=0) ai (aj rfl) ?_
     refine au.nil ?_
     refine AX.seq ?_
     refine AX.region ?_
     refine au.go (f:=0) ai (ak rfl) ?_
     refine au.go (f:=0) ai (ak rfl) ?_
     refine au.gT (f:=0) ai rfl rfl rfl (fun hb=>aD rfl kE rfl) ?_
     refine au.gT (f:=0) ai rfl rfl rfl (fun hb=>bg (cr hb rfl) (ld ig rfl rfl)) ?_
     refine au.gT (f:=0) ai rfl rfl rfl (fun hb=>gh (cr hb rfl) ig rfl) ?_
     refine au.gT (f:=0) ai rfl rfl rfl (fun hb=>ak rfl) ?_
     refine au.gT (f:=0) ai rfl rfl rfl (fun hb=>fT (cr hb rfl) (cr hb rfl)) ?_
     refine au.go (f:=0) ai ((by first|exact l7 rfl rfl (fun h=>by simp_all)|exact gO rfl rfl rfl)) ?_
     refine au.go (f:=0) ai (aj rfl) ?_
     refine au.nil ?_
     refine AX.seq ?_
     refine AX.seq ?_
     refine AX.region ?_
     refine au.go (f:=0) ai (ak rfl) ?_
     refine au.go (f:=0) ai (gh rfl ig rfl) ?_
     refine au.go (f:=0) ai (ak rfl) ?_
     refine au.nil ?_
     refine AX.block ?_
     have hLl:(os++(bs.take fQ).map bt).length≤8388608:=FJ lo lb
     refine AX.loop (α:=Nat×Int×Bool) (fun x=>⟨bX 119 [(2,.t (.int .i64 x.2.1)),(3,.t (.bool x.2.2)),(97,.t (.sl (os++(bs.take fQ).map bt))),(98,.t (.int .i64 (((os++(bs.take fQ).map bt).length:Nat):Int))),(99,.t (.int .i64 ((x.1:Nat):Int)))],[],0⟩) (fun x=>(x.1≤(os++(bs.take fQ).map bt).length)∧(x.2.2=true→((((((((s==[])||(k==4))&&((((bs.length:Nat):Int)==0)||(k==6)))&&decide (k<7))&&decide (((bs.length:Nat):Int)≤16))&&(Ho (.sl bs) (.fn (.func 80))))&&(!(Hp (.sl bs) (.fn (.func 82)))))&&(((os.length:Nat):Int)==1))=true∧∀j,j<x.1→∀x,(os++(bs.take fQ).map bt)[j]?=some x→G x)) (fun x=>(os++(bs.take fQ).map bt).length - x.1) (⟨0,0,((((((((s==[])||(k==4))&&((((bs.length:Nat):Int)==0)||(k==6)))&&decide (k<7))&&decide (((bs.length:Nat):Int)≤16))&&(Ho (.sl bs) (.fn (.func 80))))&&(!(Hp (.sl bs) (.fn (.func 82)))))&&(((os.length:Nat):Int)==1))⟩) (Re.sq [] ⟨rfl,rfl,rfl,rfl,rfl,trivial⟩ trivial (by decide) rfl rfl (by decide)) ⟨Nat.zero_le _,fun h=>⟨h,fun j hj=>absurd hj (Nat.not_lt_zero j)⟩⟩ (fun x hok=> ?_)
     obtain⟨sN,Zh,TY⟩:=x
     replace hok:(sN≤(os++(bs.take fQ).map bt).length)∧(TY=true→((((((((s==[])||(k==4))&&((((bs.length:Nat):Int)==0)||(k==6)))&&decide (k<7))&&decide (((bs.length:Nat):Int)≤16))&&(Ho (.sl bs) (.fn (.func 80))))&&(!(Hp (.sl bs) (.fn (.func 82)))))&&(((os.length:Nat):Int)==1))=true∧∀j,j<sN→∀x,(os++(bs.take fQ).map bt)[j]?=some x→G x):=hok
     obtain⟨T3,JX⟩:=hok
     show AX _ _ ⟨bX 119 [(2,.t (.int .i64 Zh)),(3,.t (.bool TY)),(97,.t (.sl (os++(bs.take fQ).map bt))),(98,.t (.int .i64 (((os++(bs.take fQ).map bt).length:Nat):Int))),(99,.t (.int .i64 ((sN:Nat):Int)))],[],0⟩ _
     refine AX.seq ?_
     refine AX.region ?_
     refine au.go (f:=0) ai (gi rfl rfl) ?_
     refine au.nil ?_
     refine AX.seq ?_
     refine AX.cond rfl (fun ki=> ?_) (fun ki=> ?_)
     ·
      have Dn:=of_decide_eq_true ki
      refine AX.skip ?_
      refine AX.seq ?_
      refine AX.block ?_
      refine AX.seq ?_
      refine AX.region ?_
      obtain⟨e19,Ht⟩:∃e,(os++(bs.take fQ).map bt)[sN]?=some e:=⟨(os++(bs.take fQ).map bt)[sN]'(by first|omega|(simp;omega)),List.getElem?_eq_getElem _⟩
      have T4:=(Dz ho hb) e19 (List.mem_of_getElem? Ht)
      obtain⟨aeO,aeP,Zi,Zj,rfl,alc,ald⟩:=hform _ (T4)
      refine au.go (f:=0) ai (fO (m:=sN) rfl rfl ig rfl dW Ht rfl) ?_
      refine au.go (f:=0) ai (bg rfl (ld dW rfl rfl)) ?_
      refine au.go (f:=0) ai (ic dW rfl rfl) ?_
      refine au.qd (f:=0) ai (bT rfl rfl (sx dW rfl rfl)) ?_
      refine au.nil ?_
      refine AX.seq ?_
      refine AX.region ?_
      refine au.go (f:=0) ai (bg rfl (ld dW rfl rfl)) ?_
      refine au.go (f:=0) ai (bU (tJ rfl) (bk JW T4)) ?_
      refine au.go (f:=0) ai (ak rfl) ?_
      refine au.go (f:=0) ai (dK rfl rfl) ?_
      refine au.go (f:=0) ai (dK rfl rfl) ?_
      refine au.go (f:=0) ai (aj rfl) ?_
      refine au.go (f:=0) ai (aj rfl) ?_
      refine au.nil ?_
      refine AX.region ?_
      refine au.go (f:=0) ai (ak rfl) ?_
      refine au.go (f:=0) ai (ak rfl) ?_
      refine au.go (f:=0) ai (Fl rfl rfl) ?_
      refine au.go (f:=0) ai (ak rfl) ?_
      refine au.go (f:=0) ai (ak rfl) ?_
      refine au.gT (f:=0) ai rfl rfl rfl (fun hb=>ak rfl) ?_
      refine au.go (f:=0) ai ((by first|exact l7 rfl rfl (fun h=>by simp_all)|exact gO rfl rfl rfl)) ?_
      refine au.go (f:=0) ai (aj rfl) ?_
      refine au.go (f:=0) ai (aj rfl) ?_
      refine au.nil ?_
      refine AX.b9 ?_
      refine AX.region ?_
      refine au.go (f:=0) ai (jP rfl rfl (by omega) (by omega)) ?_
      refine au.go (f:=0) ai (ak rfl) ?_
      refine au.nil ?_
      exact⟨.inl ⟨⟨sN+1,(max Zh (dz (.agg [.int .u8 aeO,.str aeP,.sl Zi,.sl Zj]))),(TY&&(oz (.agg [.int .u8 aeO,.str aeP,.sl Zi,.sl Zj])))⟩,⟨⟨(by show(sN+1)≤(os++(bs.take fQ).map bt).length;first|omega|(simp only[List.length_append,List.length_cons,List.length_nil,List.length_singleton] at*;omega)|(simp;done)|(simp;omega)),(fun hv=>by have hv:=Bool.and_eq_true_iff.1 hv;obtain⟨h1,h2⟩:=JX hv.1;exact⟨h1,je Ht (hG _ T4 hv.2) h2⟩)⟩,(by show((os++(bs.take fQ).map bt).length - (sN+1))<((os++(bs.take fQ).map bt).length - sN);omega)⟩⟩,rfl,Re.sq [] ⟨rfl,rfl,rfl,rfl,rfl,trivial⟩ trivial (by decide) rfl rfl (by decide)⟩
     ·
      have Dn:=of_decide_eq_false ki
      refine AX.exit ?_
      refine AX.dU ?_
      refine AX.leave (e:=.exit 3) (by simp) ?_
      refine AX.fk ?_
      refine AX.seq ?_
      refine AX.region ?_
      refine au.go (f:=0) ai (ak rfl) ?_
      refine au.go (f:=0) ai (qf rfl rfl rfl) ?_
      refine au.go (f:=0) ai (ak rfl) ?_
      refine au.go (f:=0) ai (aj rfl) ?_
      refine au.go (f:=0) ai (aj rfl) ?_
      refine au.nil ?_
      refine AX.ret ?_
      refine⟨⟨(_,_),fun hr=> ?_⟩,.inl rfl⟩
      obtain⟨h1,h2⟩:=JX hr
      have h3:=kj (fun j hj=>h2 j (by omega))
      simp only[Bool.and_eq_true] at h1
      have hie:fQ=bs.length:=by omega
      rw[hie] at h3
      have hk6:=eq_of_beq cN;subst hk6;exact FK hb (by simp_all) (by simp_all) h3
    ·
     have TX:=ne_of_beq_false hc16
     refine AX.skip ?_
     refine AX.seq ?_
     refine AX.region ?_
     refine au.go (f:=0) ai (ak rfl) ?_
     refine au.go (f:=0) ai (ak rfl) ?_
     refine au.gT (f:=0) ai rfl rfl rfl (fun hb=>aD rfl kE rfl) ?_
     refine au.gT (f:=0) ai rfl rfl rfl (fun hb=>bg (cr hb rfl) (ld ig rfl rfl)) ?_
     refine au.gT (f:=0) ai rfl rfl rfl (fun hb=>gh (cr hb rfl) ig rfl) ?_
     refine au.gT (f:=0) ai rfl rfl rfl (fun hb=>ak rfl) ?_
     refine au.gT (f:=0) ai rfl rfl rfl (fun hb=>fT (cr hb rfl) (cr hb rfl)) ?_
     refine au.go (f:=0) ai ((by first|exact l7 rfl rfl (fun h=>by simp_all)|exact gO rfl rfl rfl)) ?_
     refine au.go (f:=0) ai (aj rfl) ?_
     refine au.nil ?_
     refine AX.seq ?_
     refine AX.seq ?_
     refine AX.region ?_
     refine au.go (f:=0) ai (ak rfl) ?_
     refine au.go (f:=0) ai (gh rfl ig rfl) ?_
     refine au.go (f:=0) ai (ak rfl) ?_
     refine au.nil ?_
     refine AX.block ?_
     have hLl:(os++(bs.take fQ).map bt).length≤8388608:=FJ lo lb
     refine AX.loop (α:=Nat×Int×Bool) (fun x=>⟨bX 119 [(2,.t (.int .i64 x.2.1)),(3,.t (.bool x.2.2)),(97,.t (.sl (os++(bs.take fQ).map bt))),(98,.t (.int .i64 (((os++(bs.take fQ).map bt).length:Nat):Int))),(99,.t (.int .i64 ((x.1:Nat):Int)))],[],0⟩) (fun x=>(x.1≤(os++(bs.take fQ).map bt).length)∧(x.2.2=true→((((((((s==[])||(k==4))&&((((bs.length:Nat):Int)==0)||(k==6)))&&decide (k<7))&&decide (((bs.length:Nat):Int)≤16))&&(Ho (.sl bs) (.fn (.func 80))))&&(!(Hp (.sl bs) (.fn (.func 82)))))&&(((os.length:Nat):Int)==0))=true∧∀j,j<x.1→∀x,(os++(bs.take fQ).map bt)[j]?=some x→G x)) (fun x=>(os++(bs.take fQ).map bt).length - x.1) (⟨0,0,((((((((s==[])||(k==4))&&((((bs.length:Nat):Int)==0)||(k==6)))&&decide (k<7))&&decide (((bs.length:Nat):Int)≤16))&&(Ho (.sl bs) (.fn (.func 80))))&&(!(Hp (.sl bs) (.fn (.func 82)))))&&(((os.length:Nat):Int)==0))⟩) (Re.sq [] ⟨rfl,rfl,rfl,rfl,rfl,trivial⟩ trivial (by decide) rfl rfl (by decide)) ⟨Nat.zero_le _,fun h=>⟨h,fun j hj=>absurd hj (Nat.not_lt_zero j)⟩⟩ (fun x hok=> ?_)
     obtain⟨lV,yI,A9⟩:=x
     replace hok:(lV≤(os++(bs.take fQ).map bt).length)∧(A9=true→((((((((s==[])||(k==4))&&((((bs.length:Nat):Int)==0)||(k==6)))&&decide (k<7))&&decide (((bs.length:Nat):Int)≤16))&&(Ho (.sl bs) (.fn (.func 80))))&&(!(Hp (.sl bs) (.fn (.func 82)))))&&(((os.length:Nat):Int)==0))=true∧∀j,j<lV→∀x,(os++(bs.take fQ).map bt)[j]?=some x→G x):=hok
     obtain⟨T5,pN⟩:=hok
     show AX _ _ ⟨bX 119 [(2,.t (.int .i64 yI)),(3,.t (.bool A9)),(97,.t (.sl (os++(bs.take fQ).map bt))),(98,.t (.int .i64 (((os++(bs.take fQ).map bt).length:Nat):Int))),(99,.t (.int .i64 ((lV:Nat):Int)))],[],0⟩ _
     refine AX.seq ?_
     refine AX.region ?_
     refine au.go (f:=0) ai (gi rfl rfl) ?_
     refine au.nil ?_
     refine AX.seq ?_
     refine AX.cond rfl (fun fR=> ?_) (fun fR=> ?_)
     ·
      have DA:=of_decide_eq_true fR
      refine AX.skip ?_
      refine AX.seq ?_
      refine AX.block ?_
      refine AX.seq ?_
      refine AX.region ?_
      obtain⟨e23,pL⟩:∃e,(os++(bs.take fQ).map bt)[lV]?=some e:=⟨(os++(bs.take fQ).map bt)[lV]'(by first|omega|(simp;omega)),List.getElem?_eq_getElem _⟩
      have Dt:=(Dz ho hb) e23 (List.mem_of_getElem? pL)
      obtain⟨Mq,uD,Du,Dv,rfl,aew,aex⟩:=hform _ (Dt)
      refine au.go (f:=0) ai (fO (m:=lV) rfl rfl ig rfl dW pL rfl) ?_
      refine au.go (f:=0) ai (bg rfl (ld dW rfl rfl)) ?_
      refine au.go (f:=0) ai (ic dW rfl rfl) ?_
      refine au.qd (f:=0) ai (bT rfl rfl (sx dW rfl rfl)) ?_
      refine au.nil ?_
      refine AX.seq ?_
      refine AX.region ?_
      refine au.go (f:=0) ai (bg rfl (ld dW rfl rfl)) ?_
      refine au.go (f:=0) ai (bU (tJ rfl) (bk JW Dt)) ?_
      refine au.go (f:=0) ai (ak rfl) ?_
      refine au.go (f:=0) ai (dK rfl rfl) ?_
      refine au.go (f:=0) ai (dK rfl rfl) ?_
      refine au.go (f:=0) ai (aj rfl) ?_
      refine au.go (f:=0) ai (aj rfl) ?_
      refine au.nil ?_
      refine AX.region ?_
      refine au.go (f:=0) ai (ak rfl) ?_
      refine au.go (f:=0) ai (ak rfl) ?_
      refine au.go (f:=0) ai (Fl rfl rfl) ?_
      refine au.go (f:=0) ai (ak rfl) ?_
      refine au.go (f:=0) ai (ak rfl) ?_
      refine au.gT (f:=0) ai rfl rfl rfl (fun hb=>ak rfl) ?_
      refine au.go (f:=0) ai ((by first|exact l7 rfl rfl (fun h=>by simp_all)|exact gO rfl rfl rfl)) ?_
      refine au.go (f:=0) ai (aj rfl) ?_
      refine au.go (f:=0) ai (aj rfl) ?_
      refine au.nil ?_
      refine AX.b9 ?_
      refine AX.region ?_
      refine au.go (f:=0) ai (jP rfl rfl (by omega) (by omega)) ?_
      refine au.go (f:=0) ai (ak rfl) ?_
      refine au.nil ?_
      exact⟨.inl ⟨⟨lV+1,(max yI (dz (.agg [.int .u8 Mq,.str uD,.sl Du,.sl Dv]))),(A9&&(oz (.agg [.int .u8 Mq,.str uD,.sl Du,.sl Dv])))⟩,⟨⟨(by show(lV+1)≤(os++(bs.take fQ).map bt).length;first|omega|(simp only[List.length_append,List.length_cons,List.length_nil,List.length_singleton] at*;omega)|(simp;done)|(simp;omega)),(fun hv=>by have hv:=Bool.and_eq_true_iff.1 hv;obtain⟨h1,h2⟩:=pN hv.1;exact⟨h1,je pL (hG _ Dt hv.2) h2⟩)⟩,(by show((os++(bs.take fQ).map bt).length - (lV+1))<((os++(bs.take fQ).map bt).length - lV);omega)⟩⟩,rfl,Re.sq [] ⟨rfl,rfl,rfl,rfl,rfl,trivial⟩ trivial (by decide) rfl rfl (by decide)⟩
     ·
      have DA:=of_decide_eq_false fR
      refine AX.exit ?_
      refine AX.dU ?_
      refine AX.leave (e:=.exit 3) (by simp) ?_
      refine AX.fk ?_
      refine AX.seq ?_
      refine AX.region ?_
      refine au.go (f:=0) ai (ak rfl) ?_
      refine au.go (f:=0) ai (qf rfl rfl rfl) ?_
      refine au.go (f:=0) ai (ak rfl) ?_
      refine au.go (f:=0) ai (aj rfl) ?_
      refine au.go (f:=0) ai (aj rfl) ?_
      refine au.nil ?_
      refine AX.ret ?_
      refine⟨⟨(_,_),fun hr=> ?_⟩,.inl rfl⟩
      obtain⟨h1,h2⟩:=pN hr
      have h3:=kj (fun j hj=>h2 j (by omega))
      simp only[Bool.and_eq_true] at h1
      have hie:fQ=bs.length:=by omega
      rw[hie] at h3
      have hk6:=eq_of_beq cN;subst hk6;exact FK hb (by simp_all) (by simp_all) h3
  ·
   have yH:=ne_of_beq_false cN
   refine AX.skip ?_
   refine AX.b9 ?_
   refine AX.seq ?_
   refine AX.region ?_
   refine au.go (f:=0) ai (aj rfl) ?_
   refine au.nil ?_
   refine AX.seq ?_
   refine AX.seq ?_
   refine AX.region ?_
   refine au.go (f:=0) ai (aD rfl qH rfl) ?_
   refine au.go (f:=0) ai (cD rfl (ld EB rfl rfl)) ?_
   refine au.go (f:=0) ai (fT rfl rfl) ?_
   refine au.nil ?_
   refine AX.cond rfl (fun iJ=> ?_) (fun iJ=> ?_)
   ·
    have JY:=eq_of_beq iJ
    refine AX.region ?_
    refine au.go (f:=0) ai (aj rfl) ?_
    refine au.nil ?_
    refine AX.seq ?_
    refine AX.region ?_
    refine au.go (f:=0) ai (ak rfl) ?_
    refine au.go (f:=0) ai (ak rfl) ?_
    refine au.gT (f:=0) ai rfl rfl rfl (fun hb=>aD rfl kE rfl) ?_
    refine au.gT (f:=0) ai rfl rfl rfl (fun hb=>bg (cr hb rfl) (ld ig rfl rfl)) ?_
    refine au.gT (f:=0) ai rfl rfl rfl (fun hb=>gh (cr hb rfl) ig rfl) ?_
    refine au.gT (f:=0) ai rfl rfl rfl (fun hb=>ak rfl) ?_
    refine au.gT (f:=0) ai rfl rfl rfl (fun hb=>fT (cr hb rfl) (cr hb rfl)) ?_
    refine au.go (f:=0) ai ((by first|exact l7 rfl rfl (fun h=>by simp_all)|exact gO rfl rfl rfl)) ?_
    refine au.go (f:=0) ai (aj rfl) ?_
    refine au.nil ?_
    refine AX.seq ?_
    refine AX.seq ?_
    refine AX.region ?_
    refine au.go (f:=0) ai (ak rfl) ?_
    refine au.go (f:=0) ai (gh rfl ig rfl) ?_
    refine au.go (f:=0) ai (ak rfl) ?_
    refine au.nil ?_
    refine AX.block ?_
    have hLl:os.length≤8388608:=by omega
    refine AX.loop (α:=Nat×Int×Bool) (fun x=>⟨bX 119 [(2,.t (.int .i64 x.2.1)),(3,.t (.bool x.2.2)),(97,.t (.sl os)),(98,.t (.int .i64 ((os.length:Nat):Int))),(99,.t (.int .i64 ((x.1:Nat):Int)))],[],0⟩) (fun x=>(x.1≤os.length)∧(x.2.2=true→(((((s==[])||(k==4))&&((((bs.length:Nat):Int)==0)||(k==6)))&&decide (k<7))&&(((os.length:Nat):Int)==1))=true∧∀j,j<x.1→∀x,os[j]?=some x→G x)) (fun x=>os.length - x.1) (⟨0,0,(((((s==[])||(k==4))&&((((bs.length:Nat):Int)==0)||(k==6)))&&decide (k<7))&&(((os.length:Nat):Int)==1))⟩) (Re.sq [] ⟨rfl,rfl,rfl,rfl,rfl,trivial⟩ trivial (by decide) rfl rfl (by decide)) ⟨Nat.zero_le _,fun h=>⟨h,fun j hj=>absurd hj (Nat.not_lt_zero j)⟩⟩ (fun x hok=> ?_)
    obtain⟨lW,yJ,Ba⟩:=x
    replace hok:(lW≤os.length)∧(Ba=true→(((((s==[])||(k==4))&&((((bs.length:Nat):Int)==0)||(k==6)))&&decide (k<7))&&(((os.length:Nat):Int)==1))=true∧∀j,j<lW→∀x,os[j]?=some x→G x):=hok
    obtain⟨T6,pO⟩:=hok
    show AX _ _ ⟨bX 119 [(2,.t (.int .i64 yJ)),(3,.t (.bool Ba)),(97,.t (.sl os)),(98,.t (.int .i64 ((os.length:Nat):Int))),(99,.t (.int .i64 ((lW:Nat):Int)))],[],0⟩ _
    refine AX.seq ?_
    refine AX.region ?_
    refine au.go (f:=0) ai (gi rfl rfl) ?_
    refine au.nil ?_
    refine AX.seq ?_
    refine AX.cond rfl (fun tG=> ?_) (fun tG=> ?_)
    ·
     have JS:=of_decide_eq_true tG
     refine AX.skip ?_
     refine AX.seq ?_
     refine AX.block ?_
     refine AX.seq ?_
     refine AX.region ?_
     obtain⟨e28,sO⟩:∃e,os[lW]?=some e:=⟨os[lW]'(by first|omega|(simp;omega)),List.getElem?_eq_getElem _⟩
     have T7:=(ho) e28 (List.mem_of_getElem? sO)
     obtain⟨aeQ,Bt,Zk,Zl,rfl,ale,alf⟩:=hform _ (T7)
     refine au.go (f:=0) ai (fO (m:=lW) rfl rfl ig rfl dW sO rfl) ?_
     refine au.go (f:=0) ai (bg rfl (ld dW rfl rfl)) ?_
     refine au.go (f:=0) ai (ic dW rfl rfl) ?_
     refine au.qd (f:=0) ai (bT rfl rfl (sx dW rfl rfl)) ?_
     refine au.nil ?_
     refine AX.seq ?_
     refine AX.region ?_
     refine au.go (f:=0) ai (bg rfl (ld dW rfl rfl)) ?_
     refine au.go (f:=0) ai (bU (tJ rfl) (bk JW T7)) ?_
     refine au.go (f:=0) ai (ak rfl) ?_
     refine au.go (f:=0) ai (dK rfl rfl) ?_
     refine au.go (f:=0) ai (dK rfl rfl) ?_
     refine au.go (f:=0) ai (aj rfl) ?_
     refine au.go (f:=0) ai (aj rfl) ?_
     refine au.nil ?_
     refine AX.region ?_
     refine au.go (f:=0) ai (ak rfl) ?_
     refine au.go (f:=0) ai (ak rfl) ?_
     refine au.go (f:=0) ai (Fl rfl rfl) ?_
     refine au.go (f:=0) ai (ak rfl) ?_
     refine au.go (f:=0) ai (ak rfl) ?_
     refine au.gT (f:=0) ai rfl rfl rfl (fun hb=>ak rfl) ?_
     refine au.go (f:=0) ai ((by first|exact l7 rfl rfl (fun h=>by simp_all)|exact gO rfl rfl rfl)) ?_
     refine au.go (f:=0) ai (aj rfl) ?_
     refine au.go (f:=0) ai (aj rfl) ?_
     refine au.nil ?_
     refine AX.b9 ?_
     refine AX.region ?_
     refine au.go (f:=0) ai (jP rfl rfl (by omega) (by omega)) ?_
     refine au.go (f:=0) ai (ak rfl) ?_
     refine au.nil ?_
     exact⟨.inl ⟨⟨lW+1,(max yJ (dz (.agg [.int .u8 aeQ,.str Bt,.sl Zk,.sl Zl]))),(Ba&&(oz (.agg [.int .u8 aeQ,.str Bt,.sl Zk,.sl Zl])))⟩,⟨⟨(by show(lW+1)≤os.length;first|omega|(simp only[List.length_append,List.length_cons,List.length_nil,List.length_singleton] at*;omega)|(simp;done)|(simp;omega)),(fun hv=>by have hv:=Bool.and_eq_true_iff.1 hv;obtain⟨h1,h2⟩:=pO hv.1;exact⟨h1,je sO (hG _ T7 hv.2) h2⟩)⟩,(by show(os.length - (lW+1))<(os.length - lW);omega)⟩⟩,rfl,Re.sq [] ⟨rfl,rfl,rfl,rfl,rfl,trivial⟩ trivial (by decide) rfl rfl (by decide)⟩
    ·
     have JS:=of_decide_eq_false tG
     refine AX.exit ?_
     refine AX.dU ?_
     refine AX.leave (e:=.exit 3) (by simp) ?_
     refine AX.fk ?_
     refine AX.seq ?_
     refine AX.region ?_
     refine au.go (f:=0) ai (ak rfl) ?_
     refine au.go (f:=0) ai (qf rfl rfl rfl) ?_
     refine au.go (f:=0) ai (ak rfl) ?_
     refine au.go (f:=0) ai (aj rfl) ?_
     refine au.go (f:=0) ai (aj rfl) ?_
     refine au.nil ?_
     refine AX.ret ?_
     refine⟨⟨(_,_),fun hr=> ?_⟩,.inl rfl⟩
     obtain⟨h1,h2⟩:=pO hr
     have h3:=kj (fun j hj=>h2 j (by omega))
     simp only[Bool.and_eq_true] at h1
     exact qw (ne_of_beq_false cN) (by simp_all) (by simp_all) (by simp_all) (by simp_all) h3
   ·
    have JY:=ne_of_beq_false iJ
    refine AX.skip ?_
    refine AX.seq ?_
    refine AX.region ?_
    refine au.go (f:=0) ai (ak rfl) ?_
    refine au.go (f:=0) ai (ak rfl) ?_
    refine au.gT (f:=0) ai rfl rfl rfl (fun hb=>aD rfl kE rfl) ?_
    refine au.gT (f:=0) ai rfl rfl rfl (fun hb=>bg (cr hb rfl) (ld ig rfl rfl)) ?_
    refine au.gT (f:=0) ai rfl rfl rfl (fun hb=>gh (cr hb rfl) ig rfl) ?_
    refine au.gT (f:=0) ai rfl rfl rfl (fun hb=>ak rfl) ?_
    refine au.gT (f:=0) ai rfl rfl rfl (fun hb=>fT (cr hb rfl) (cr hb rfl)) ?_
    refine au.go (f:=0) ai ((by first|exact l7 rfl rfl (fun h=>by simp_all)|exact gO rfl rfl rfl)) ?_
    refine au.go (f:=0) ai (aj rfl) ?_
    refine au.nil ?_
    refine AX.seq ?_
    refine AX.seq ?_
    refine AX.region ?_
    refine au.go (f:=0) ai (ak rfl) ?_
    refine au.go (f:=0) ai (gh rfl ig rfl) ?_
    refine au.go (f:=0) ai (ak rfl) ?_
    refine au.nil ?_
    refine AX.block ?_
    have hLl:os.length≤8388608:=by omega
    refine AX.loop (α:=Nat×Int×Bool) (fun x=>⟨bX 119 [(2,.t (.int .i64 x.2.1)),(3,.t (.bool x.2.2)),(97,.t (.sl os)),(98,.t (.int .i64 ((os.length:Nat):Int))),(99,.t (.int .i64 ((x.1:Nat):Int)))],[],0⟩) (fun x=>(x.1≤os.length)∧(x.2.2=true→(((((s==[])||(k==4))&&((((bs.length:Nat):Int)==0)||(k==6)))&&decide (k<7))&&(((os.length:Nat):Int)==0))=true∧∀j,j<x.1→∀x,os[j]?=some x→G x)) (fun x=>os.length - x.1) (⟨0,0,(((((s==[])||(k==4))&&((((bs.length:Nat):Int)==0)||(k==6)))&&decide (k<7))&&(((os.length:Nat):Int)==0))⟩) (Re.sq [] ⟨rfl,rfl,rfl,rfl,rfl,trivial⟩ trivial (by decide) rfl rfl (by decide)) ⟨Nat.zero_le _,fun h=>⟨h,fun j hj=>absurd hj (Nat.not_lt_zero j)⟩⟩ (fun x hok=> ?_)
    obtain⟨EC,Zm,T8⟩:=x
    replace hok:(EC≤os.length)∧(T8=true→(((((s==[])||(k==4))&&((((bs.length:Nat):Int)==0)||(k==6)))&&decide (k<7))&&(((os.length:Nat):Int)==0))=true∧∀j,j<EC→∀x,os[j]?=some x→G x):=hok
    obtain⟨aeR,JZ⟩:=hok
    show AX _ _ ⟨bX 119 [(2,.t (.int .i64 Zm)),(3,.t (.bool T8)),(97,.t (.sl os)),(98,.t (.int .i64 ((os.length:Nat):Int))),(99,.t (.int .i64 ((EC:Nat):Int)))],[],0⟩ _
    refine AX.seq ?_
    refine AX.region ?_
    refine au.go (f:=0) ai (gi rfl rfl) ?_
    refine au.nil ?_
    refine AX.seq ?_
    refine AX.cond rfl (fun Hu=> ?_) (fun Hu=> ?_)
    ·
     have T9:=of_decide_eq_true Hu
     refine AX.skip ?_
     refine AX.seq ?_
     refine AX.block ?_
     refine AX.seq ?_
     refine AX.region ?_
     obtain⟨e32,abl⟩:∃e,os[EC]?=some e:=⟨os[EC]'(by first|omega|(simp;omega)),List.getElem?_eq_getElem _⟩
     have Ua:=(ho) e32 (List.mem_of_getElem? abl)
     obtain⟨Hh,Hj,yF,yG,rfl,alg,alh⟩:=hform _ (Ua)
     refine au.go (f:=0) ai (fO (m:=EC) rfl rfl ig rfl dW abl rfl) ?_
     refine au.go (f:=0) ai (bg rfl (ld dW rfl rfl)) ?_
     refine au.go (f:=0) ai (ic dW rfl rfl) ?_
     refine au.qd (f:=0) ai (bT rfl rfl (sx dW rfl rfl)) ?_
     refine au.nil ?_
     refine AX.seq ?_
     refine AX.region ?_
     refine au.go (f:=0) ai (bg rfl (ld dW rfl rfl)) ?_
     refine au.go (f:=0) ai (bU (tJ rfl) (bk JW Ua)) ?_
     refine au.go (f:=0) ai (ak rfl) ?_
     refine au.go (f:=0) ai (dK rfl rfl) ?_
     refine au.go (f:=0) ai (dK rfl rfl) ?_
     refine au.go (f:=0) ai (aj rfl) ?_
     refine au.go (f:=0) ai (aj rfl) ?_
     refine au.nil ?_
     refine AX.region ?_
     refine au.go (f:=0) ai (ak rfl) ?_
     refine au.go (f:=0) ai (ak rfl) ?_
     refine au.go (f:=0) ai (Fl rfl rfl) ?_
     refine au.go (f:=0) ai (ak rfl) ?_
     refine au.go (f:=0) ai (ak rfl) ?_
     refine au.gT (f:=0) ai rfl rfl rfl (fun hb=>ak rfl) ?_
     refine au.go (f:=0) ai ((by first|exact l7 rfl rfl (fun h=>by simp_all)|exact gO rfl rfl rfl)) ?_
     refine au.go (f:=0) ai (aj rfl) ?_
     refine au.go (f:=0) ai (aj rfl) ?_
     refine au.nil ?_
     refine AX.b9 ?_
     refine AX.region ?_
     refine au.go (f:=0) ai (jP rfl rfl (by omega) (by omega)) ?_
     refine au.go (f:=0) ai (ak rfl) ?_
     refine au.nil ?_
     exact⟨.inl ⟨⟨EC+1,(max Zm (dz (.agg [.int .u8 Hh,.str Hj,.sl yF,.sl yG]))),(T8&&(oz (.agg [.int .u8 Hh,.str Hj,.sl yF,.sl yG])))⟩,⟨⟨(by show(EC+1)≤os.length;first|omega|(simp only[List.length_append,List.length_cons,List.length_nil,List.length_singleton] at*;omega)|(simp;done)|(simp;omega)),(fun hv=>by have hv:=Bool.and_eq_true_iff.1 hv;obtain⟨h1,h2⟩:=JZ hv.1;exact⟨h1,je abl (hG _ Ua hv.2) h2⟩)⟩,(by show(os.length - (EC+1))<(os.length - EC);omega)⟩⟩,rfl,Re.sq [] ⟨rfl,rfl,rfl,rfl,rfl,trivial⟩ trivial (by decide) rfl rfl (by decide)⟩
    ·
     have T9:=of_decide_eq_false Hu
     refine AX.exit ?_
     refine AX.dU ?_
     refine AX.leave (e:=.exit 3) (by simp) ?_
     refine AX.fk ?_
     refine AX.seq ?_
     refine AX.region ?_
     refine au.go (f:=0) ai (ak rfl) ?_
     refine au.go (f:=0) ai (qf rfl rfl rfl) ?_
     refine au.go (f:=0) ai (ak rfl) ?_
     refine au.go (f:=0) ai (aj rfl) ?_
     refine au.go (f:=0) ai (aj rfl) ?_
     refine au.nil ?_
     refine AX.ret ?_
     refine⟨⟨(_,_),fun hr=> ?_⟩,.inl rfl⟩
     obtain⟨h1,h2⟩:=JZ hr
     have h3:=kj (fun j hj=>h2 j (by omega))
     simp only[Bool.and_eq_true] at h1
     exact qw (ne_of_beq_false cN) (by simp_all) (by simp_all) (by simp_all) (by simp_all) h3
end
end Go.Proofs.YtijfhoelihclbaaGreatDoor.w
