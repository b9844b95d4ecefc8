/- A type is right: then it has a right form. -/
import Derived.Test.YtijfhoelihclbaaGreatDoorZ
import Derived.Test.YtijfhoelihclbaaGreatDoorY
namespace Go.Proofs.YtijfhoelihclbaaGreatDoor.w
open Go Go.Abs Go.Abs.Ty
set_option linter.unusedVariables false
set_option maxRecDepth 100000
set_option maxHeartbeats 2000000
noncomputable section
abbrev akg:TI:={size:=1,bytes:=1,agg:=false,zero:=some (.t (.int .u8 0)),desc:=.int .u8}
theorem Ff {m:Int}:(cf m).P.ty 35=some akg:=by kernel_rfl
theorem rZ {m:Int}:eX (cf m).P 38 0=some 0:=by kernel_rfl
theorem HZ {m:Int}:eX (cf m).P 38 1=some 1:=by kernel_rfl
def bC:Tree→Tree
 |.agg (_::r)=>.agg r
 |x=>x
theorem UB {bs:List Tree}{i:Nat}{nm:List UInt8}{r:List Tree}(he:bs[i]?=some (.agg (.str nm::r))):(bs.take (i+1)).map bC=(bs.take i).map bC++[.agg r]:=by
 rw[List.take_add_one,he]
 simp[bC]
theorem Eg {D:Tree→Prop}{os bs:List Tree}(hos:∀x∈os,D x)(hbs:RL D bs){i:Nat}:∀x∈os++(bs.take i).map bC,D x:=fun x hx=>by
  rcases List.mem_append.1 hx with h|h
  · exact hos x h
  · obtain⟨e,he,rfl⟩:=List.mem_map.1 h
    obtain⟨nm,r,rfl,ht⟩:=hbs e (List.mem_of_mem_take he)
    exact ht
theorem Rb {ag:Bool}{sz:Nat}{es:List Tree}(h:cu ag sz es):jx sz es=true:=by
 cases es with
 |nil=>rfl
 |cons e r=>simp[jx,h.lens e (by simp)]
theorem O2 {ag:Bool}{sz:Nat}{e:Tree}(h:EOk ag sz e):cu ag sz [e]:=cu.cons h cu.nil
theorem KI {os bs:List Tree}(h1:os.length≤4194304)(h2:bs.length≤4194304){i:Nat}{e:Tree}:((os++(bs.take i).map bC).length+ [e].length) *72≤dQ:=by
 have:((bs.take i).map bC).length≤bs.length:=by rw[List.length_map,List.length_take];omega
 rw[List.length_append]
 simp only[List.length_singleton]
 show _≤70368744177664
 omega
theorem Gn {os bs:List Tree}(h1:os.length≤4194304)(h2:bs.length≤4194304){i:Nat}:(os++(bs.take i).map bC).length≤8388608:=by
 have:((bs.take i).map bC).length≤bs.length:=by rw[List.length_map,List.length_take];omega
 rw[List.length_append]
 omega
def GStep (G:Tree→Prop)(x:Tree):Prop:=∃k s os bs,x=aG k s os bs∧k<7∧(k≠4→s=[])∧(k≠6→bs=[])∧(k=5→∃o,os=[o]∧G o)∧(k≠5→os=[])∧∀e∈bs,∃nm r,e=.agg (.str nm::r)∧G (.agg r)
theorem jM {G:Tree→Prop}{l:List Tree}{i:Nat}{e:Tree}(he:l[i]?=some e)(hg:G e)(h:∀j,j<i→∀x,l[j]?=some x→G x):∀j,j<i+1→∀x,l[j]?=some x→G x:=fun j hj x hx=>by
  by_cases h1:j<i
  · exact h j h1 x hx
  · obtain rfl:j=i:=by omega
    rw[he] at hx;cases hx;exact hg
theorem k7 {G:Tree→Prop}{l:List Tree}(h:∀j,j<l.length→∀x,l[j]?=some x→G x):∀x∈l,G x:=fun x hx=>by
 obtain⟨j,hj,e⟩:=List.getElem_of_mem hx
 exact h j hj x (by rw[List.getElem?_eq_getElem hj,e])
theorem rO {G:Tree→Prop}{k:Int}{s:List UInt8}{os bs:List Tree}(h6:k≠6)(h1:((s==[])||k==4)=true)(h2:(((bs.length:Nat):Int)==0||k==6)=true)(h3:decide (k<7)=true)
    (h5:((os.length:Nat):Int)=if k=5 then 1 else 0)(hg:∀x∈os,G x):GStep G (aG k s os bs):=by
  have hb:bs=[]:=by simp[h6] at h2;exact h2
  subst hb
  refine⟨k,s,os,[],rfl,of_decide_eq_true h3,fun h=>by simpa [h] using h1,fun _=>rfl,fun h=> ?_,fun h=> ?_,by simp⟩
  · rw[if_pos h] at h5
    match os,h5 with
    | [o],_=>exact⟨o,rfl,hg o (by simp)⟩
  · rw[if_neg h] at h5
    exact List.eq_nil_of_length_eq_zero (by omega)
theorem Gp {G D:Tree→Prop}{s:List UInt8}{os bs:List Tree}(hat:RL D bs)(h1:((s==[])||(6:Int)==4)=true)(h5:((os.length:Nat):Int)=0)(hg:∀x∈os++(bs.take bs.length).map bC,G x):GStep G (aG 6 s os bs):=by
 have ho:os=[]:=List.eq_nil_of_length_eq_zero (by omega)
 subst ho
 refine⟨6,s,[],bs,rfl,by omega,fun h=>by simpa using h1,fun h=>absurd rfl h,fun h=>by omega,fun _=>rfl,fun e he=> ?_⟩
 obtain⟨nm,r,rfl,_⟩:=hat e he
 refine⟨nm,r,rfl,hg _ ?_⟩
 rw[List.nil_append,List.take_length]
 exact List.mem_map.2 ⟨_,he,rfl⟩
theorem Cx (m:Int)(D G:Tree→Prop)(hform:Form D)(dz:Tree→Int)(oz:Tree→Bool)(hsz:∀x,D x→R1 (cf m) 47 x (.bX [.int .i64 (dz x),.bool (oz x)]))(hG:∀x,D x→oz x=true→G x)
  (k:Int)(s:List UInt8)(os bs:List Tree)(lo:os.length≤4194304)(lb:bs.length≤4194304)(ho:∀o∈os,D o)(hb:RL D bs):∃r:{p:Int×Bool // p.2=true→GStep G (aG k s os bs)},R1 (cf m) 47 (aG k s os bs) (.bX [.int .i64 r.1.1,.bool r.1.2]):=by
 have hPL:PL (.sl bs):=⟨bs,rfl,lb,fun e he=>by
  obtain⟨nm,r,rfl,hd⟩:=hb e he
  obtain⟨k,s,o,b,er,_⟩:=hform _ hd
  obtain rfl:=Tree.agg.inj er
  exact⟨nm,k,s,o,b,rfl⟩⟩
 obtain⟨wU,M9⟩:=Cw m
 obtain⟨H6,akh⟩:=Ko m
 obtain⟨H7,aki⟩:=Ue m
 obtain⟨ev,ai,Bg,KJ,akj,wV⟩:∃ev,aF (cf m) ev∧Has ev 68 (jP (fun x=>PS x) (fun x=>.bool (wU x)))∧Has ev 47 (jP D (fun x=>.bX [.int .i64 (dz x),.bool (oz x)]))∧Has ev 79 (r7 (fun x y=>PL x∧y=.fn (.func 80)) (fun x y=>.bool (H6 x y)))∧Has ev 81 (r7 (fun x y=>PL x∧y=.fn (.func 82)) (fun x y=>.bool (H7 x y))):=⟨_,(ax (bp (fun x h=>(M9 x h))) (ax (bp hsz) (ax (dH (fun x y h=>(akh x y h))) (ax (dH (fun x y h=>(aki x y h))) aH)))),az,(aj rfl az),(aj rfl (aj rfl az)),(aj rfl (aj rfl (aj rfl az)))⟩
 show ∃r:{p:Int×Bool // p.2=true→GStep G (aG k s os bs)},ay (cf m) 47 [.t (aG k s os bs)] [] (.ret (.t (.bX [.int .i64 r.1.1,.bool r.1.2])) [] [])
 refine AX.start 119 1 Tryz.func47 rfl (by decide) rfl rfl (by decide) ?_
 refine AX.seq ?_
 refine AX.region ?_
 refine ak.go (f:=0) ai (FW rfl rfl) ?_
 refine ak.go (f:=0) ai (au rfl) ?_
 refine ak.go (f:=0) ai (au rfl) ?_
 refine ak.nil ?_
 refine AX.seq ?_
 refine AX.region ?_
 refine ak.go (f:=0) ai (aB rfl HZ rfl) ?_
 refine ak.go (f:=0) ai (cN rfl (ld kB rfl rfl)) ?_
 refine ak.go (f:=0) ai (SP rfl rfl) ?_
 refine ak.go (f:=0) ai (av rfl) ?_
 refine ak.gF (f:=0) ai rfl rfl rfl (fun hb=>aB rfl rZ rfl) ?_
 refine ak.gF (f:=0) ai rfl rfl rfl (fun hb=>cN (cK hb rfl) (ld Ff rfl rfl)) ?_
 refine ak.gF (f:=0) ai rfl rfl rfl (fun hb=>gR (cK hb rfl) rfl) ?_
 refine ak.go (f:=0) ai ((by first|exact aeQ rfl rfl (fun h=>by simp_all)|exact iK rfl rfl rfl)) ?_
 refine ak.go (f:=0) ai (av rfl) ?_
 refine ak.gT (f:=0) ai rfl rfl rfl (fun hb=>aB rfl iM rfl) ?_
 refine ak.gT (f:=0) ai rfl rfl rfl (fun hb=>aS (cK hb rfl) (ld iH rfl rfl)) ?_
 refine ak.gT (f:=0) ai rfl rfl rfl (fun hb=>gX (cK hb rfl) iH rfl) ?_
 refine ak.gT (f:=0) ai rfl rfl rfl (fun hb=>gR (cK hb rfl) rfl) ?_
 refine ak.gT (f:=0) ai rfl rfl rfl (fun hb=>av (cK hb rfl)) ?_
 refine ak.nF (f:=0) ai rfl rfl rfl (fun hb=>aB rfl rZ rfl) ?_
 refine ak.nF (f:=0) ai rfl rfl rfl (fun hb=>cN (cK hb rfl) (ld Ff rfl rfl)) ?_
 refine ak.nF (f:=0) ai rfl rfl rfl (fun hb=>gR (cK hb rfl) rfl) ?_
 refine ak.gT (f:=0) ai rfl rfl rfl (fun hb=>(by first|exact aeQ (cK hb rfl) rfl (fun h=>by simp_all)|exact iK (cK hb rfl) rfl rfl)) ?_
 refine ak.go (f:=0) ai ((by first|exact nr rfl rfl (fun h=>by simp_all)|exact iK rfl rfl rfl)) ?_
 refine ak.go (f:=0) ai (av rfl) ?_
 refine ak.gT (f:=0) ai rfl rfl rfl (fun hb=>aB rfl rZ rfl) ?_
 refine ak.gT (f:=0) ai rfl rfl rfl (fun hb=>cN (cK hb rfl) (ld Ff rfl rfl)) ?_
 refine ak.gT (f:=0) ai rfl rfl rfl (fun hb=>ia (cK hb rfl) rfl) ?_
 refine ak.go (f:=0) ai ((by first|exact nr rfl rfl (fun h=>by simp_all)|exact iK rfl rfl rfl)) ?_
 refine ak.go (f:=0) ai (au rfl) ?_
 refine ak.nil ?_
 refine AX.seq ?_
 refine AX.region ?_
 refine ak.go (f:=0) ai (aB rfl lB rfl) ?_
 refine ak.go (f:=0) ai (aS rfl (ld iU rfl rfl)) ?_
 refine ak.go (f:=0) ai (au rfl) ?_
 refine ak.nil ?_
 refine AX.seq ?_
 refine AX.seq ?_
 refine AX.region ?_
 refine ak.go (f:=0) ai (aB rfl rZ rfl) ?_
 refine ak.go (f:=0) ai (cN rfl (ld Ff rfl rfl)) ?_
 refine ak.nil ?_
 refine AX.block ?_
 refine AX.seq ?_
 refine AX.region ?_
 refine ak.go (f:=0) ai (gR rfl rfl) ?_
 refine ak.go (f:=0) ai (au rfl) ?_
 refine ak.nil ?_
 refine AX.cond rfl (fun hc1=> ?_) (fun hc1=> ?_)
 ·
  have Be:=eq_of_beq hc1
  refine AX.region ?_
  refine ak.go (f:=0) ai (av rfl) ?_
  refine ak.go (f:=0) ai (av rfl) ?_
  refine ak.gT (f:=0) ai rfl rfl rfl (fun hb=>aB rfl HZ rfl) ?_
  refine ak.gT (f:=0) ai rfl rfl rfl (fun hb=>cN (cK hb rfl) (ld kB rfl rfl)) ?_
  refine ak.gT (f:=0) ai rfl rfl rfl (fun hb=>bU (uQ (cK hb rfl)) (bf Bg ⟨_,rfl⟩)) ?_
  refine ak.go (f:=0) ai ((by first|exact nr rfl rfl (fun h=>by simp_all)|exact iK rfl rfl rfl)) ?_
  refine ak.go (f:=0) ai (au rfl) ?_
  refine ak.nil ?_
  refine AX.cC ?_
  refine AX.seq ?_
  refine AX.region ?_
  refine ak.go (f:=0) ai (au rfl) ?_
  refine ak.nil ?_
  refine AX.seq ?_
  refine AX.seq ?_
  refine AX.region ?_
  refine ak.go (f:=0) ai (aB rfl rZ rfl) ?_
  refine ak.go (f:=0) ai (cN rfl (ld Ff rfl rfl)) ?_
  refine ak.go (f:=0) ai (gR rfl rfl) ?_
  refine ak.nil ?_
  refine AX.cond rfl (fun bD=> ?_) (fun bD=> ?_)
  ·
   have gM:=eq_of_beq bD
   refine AX.region ?_
   refine ak.go (f:=0) ai (au rfl) ?_
   refine ak.nil ?_
   refine AX.seq ?_
   refine AX.region ?_
   refine ak.go (f:=0) ai (av rfl) ?_
   refine ak.go (f:=0) ai (av rfl) ?_
   refine ak.gT (f:=0) ai rfl rfl rfl (fun hb=>aB rfl lB rfl) ?_
   refine ak.gT (f:=0) ai rfl rfl rfl (fun hb=>aS (cK hb rfl) (ld iU rfl rfl)) ?_
   refine ak.gT (f:=0) ai rfl rfl rfl (fun hb=>gX (cK hb rfl) iU rfl) ?_
   refine ak.gT (f:=0) ai rfl rfl rfl (fun hb=>av rfl) ?_
   refine ak.gT (f:=0) ai rfl rfl rfl (fun hb=>gR (cK hb rfl) (cK hb rfl)) ?_
   refine ak.go (f:=0) ai ((by first|exact nr rfl rfl (fun h=>by simp_all)|exact iK rfl rfl rfl)) ?_
   refine ak.go (f:=0) ai (au rfl) ?_
   refine ak.nil ?_
   refine AX.seq ?_
   refine AX.seq ?_
   refine AX.region ?_
   refine ak.go (f:=0) ai (av rfl) ?_
   refine ak.go (f:=0) ai (gX rfl iU rfl) ?_
   refine ak.go (f:=0) ai (av rfl) ?_
   refine ak.nil ?_
   refine AX.block ?_
   have hLl:os.length≤8388608:=by omega
   refine AX.loop (α:=Nat×Int×Bool) (fun x=>⟨bH 119 [(2,.t (.int .i64 x.2.1)),(3,.t (.bool x.2.2)),(97,.t (.sl os)),(98,.t (.int .i64 ((os.length:Nat):Int))),(99,.t (.int .i64 ((x.1:Nat):Int)))],[],0⟩) (fun x=>(x.1≤os.length)∧(x.2.2=true→((((((s==[])||(k==4))&&((((bs.length:Nat):Int)==0)||(k==6)))&&decide (k<7))&&(wU (.str s)))&&(((os.length:Nat):Int)==1))=true∧∀j,j<x.1→∀x,os[j]?=some x→G x)) (fun x=>os.length - x.1) (⟨0,0,((((((s==[])||(k==4))&&((((bs.length:Nat):Int)==0)||(k==6)))&&decide (k<7))&&(wU (.str s)))&&(((os.length:Nat):Int)==1))⟩) (Re.sq [] ⟨rfl,rfl,rfl,rfl,rfl,trivial⟩ trivial (by decide) rfl rfl (by decide)) ⟨Nat.zero_le _,fun h=>⟨h,fun j hj=>absurd hj (Nat.not_lt_zero j)⟩⟩ (fun x hok=> ?_)
   obtain⟨Gq,afM,acn⟩:=x
   replace hok:(Gq≤os.length)∧(acn=true→((((((s==[])||(k==4))&&((((bs.length:Nat):Int)==0)||(k==6)))&&decide (k<7))&&(wU (.str s)))&&(((os.length:Nat):Int)==1))=true∧∀j,j<Gq→∀x,os[j]?=some x→G x):=hok
   obtain⟨YI,O3⟩:=hok
   show AX _ _ ⟨bH 119 [(2,.t (.int .i64 afM)),(3,.t (.bool acn)),(97,.t (.sl os)),(98,.t (.int .i64 ((os.length:Nat):Int))),(99,.t (.int .i64 ((Gq:Nat):Int)))],[],0⟩ _
   refine AX.seq ?_
   refine AX.region ?_
   refine ak.go (f:=0) ai (ia rfl rfl) ?_
   refine ak.nil ?_
   refine AX.seq ?_
   refine AX.cond rfl (fun s5=> ?_) (fun s5=> ?_)
   ·
    have H8:=of_decide_eq_true s5
    refine AX.skip ?_
    refine AX.seq ?_
    refine AX.block ?_
    refine AX.seq ?_
    refine AX.region ?_
    obtain⟨e5,YJ⟩:∃e,os[Gq]?=some e:=⟨os[Gq]'(by first|omega|(simp;omega)),List.getElem?_eq_getElem _⟩
    have aco:=(ho) e5 (List.mem_of_getElem? YJ)
    obtain⟨k_6,s_6,afN,afO,rfl,amg,amh⟩:=hform _ (aco)
    refine ak.go (f:=0) ai (gL (m:=Gq) rfl rfl iU rfl eu YJ rfl) ?_
    refine ak.go (f:=0) ai (aS rfl (ld eu rfl rfl)) ?_
    refine ak.go (f:=0) ai (gQ eu rfl rfl) ?_
    refine ak.lQ (f:=0) ai (br rfl rfl (mX eu rfl rfl)) ?_
    refine ak.nil ?_
    refine AX.seq ?_
    refine AX.region ?_
    refine ak.go (f:=0) ai (aS rfl (ld eu rfl rfl)) ?_
    refine ak.go (f:=0) ai (bU (uQ rfl) (bf KJ aco)) ?_
    refine ak.go (f:=0) ai (av rfl) ?_
    refine ak.go (f:=0) ai (cW rfl rfl) ?_
    refine ak.go (f:=0) ai (cW rfl rfl) ?_
    refine ak.go (f:=0) ai (au rfl) ?_
    refine ak.go (f:=0) ai (au rfl) ?_
    refine ak.nil ?_
    refine AX.region ?_
    refine ak.go (f:=0) ai (av rfl) ?_
    refine ak.go (f:=0) ai (av rfl) ?_
    refine ak.go (f:=0) ai (F0 rfl rfl) ?_
    refine ak.go (f:=0) ai (av rfl) ?_
    refine ak.go (f:=0) ai (av rfl) ?_
    refine ak.gT (f:=0) ai rfl rfl rfl (fun hb=>av rfl) ?_
    refine ak.go (f:=0) ai ((by first|exact nr rfl rfl (fun h=>by simp_all)|exact iK rfl rfl rfl)) ?_
    refine ak.go (f:=0) ai (au rfl) ?_
    refine ak.go (f:=0) ai (au rfl) ?_
    refine ak.nil ?_
    refine AX.cC ?_
    refine AX.region ?_
    refine ak.go (f:=0) ai (kI rfl rfl (by omega) (by omega)) ?_
    refine ak.go (f:=0) ai (av rfl) ?_
    refine ak.nil ?_
    exact⟨.inl ⟨⟨Gq+1,(max afM (dz (.agg [.int .u8 k_6,.str s_6,.sl afN,.sl afO]))),(acn&&(oz (.agg [.int .u8 k_6,.str s_6,.sl afN,.sl afO])))⟩,⟨⟨(by show(Gq+1)≤os.length;first|omega|(simp only[List.length_append,List.length_cons,List.length_nil,List.length_singleton] at*;omega)|(simp;done)|(simp;omega)),(fun hv=>by have hv:=Bool.and_eq_true_iff.1 hv;obtain⟨h1,h2⟩:=O3 hv.1;exact⟨h1,jM YJ (hG _ aco hv.2) h2⟩)⟩,(by show(os.length - (Gq+1))<(os.length - Gq);omega)⟩⟩,rfl,Re.sq [] ⟨rfl,rfl,rfl,rfl,rfl,trivial⟩ trivial (by decide) rfl rfl (by decide)⟩
   ·
    have H8:=of_decide_eq_false s5
    refine AX.exit ?_
    refine AX.eP ?_
    refine AX.leave (e:=.exit 3) (by simp) ?_
    refine AX.fV ?_
    refine AX.seq ?_
    refine AX.region ?_
    refine ak.go (f:=0) ai (av rfl) ?_
    refine ak.go (f:=0) ai (rC rfl rfl rfl) ?_
    refine ak.go (f:=0) ai (av rfl) ?_
    refine ak.go (f:=0) ai (au rfl) ?_
    refine ak.go (f:=0) ai (au rfl) ?_
    refine ak.nil ?_
    refine AX.ret ?_
    refine⟨⟨(_,_),fun hr=> ?_⟩,.inl rfl⟩
    obtain⟨h1,h2⟩:=O3 hr
    have h3:=k7 (fun j hj=>h2 j (by omega))
    simp only[Bool.and_eq_true] at h1
    exact rO (by have:=eq_of_beq hc1;omega) (by simp_all) (by simp_all) (by simp_all) (by simp_all) h3
  ·
   have gM:=ne_of_beq_false bD
   refine AX.skip ?_
   refine AX.seq ?_
   refine AX.region ?_
   refine ak.go (f:=0) ai (av rfl) ?_
   refine ak.go (f:=0) ai (av rfl) ?_
   refine ak.gT (f:=0) ai rfl rfl rfl (fun hb=>aB rfl lB rfl) ?_
   refine ak.gT (f:=0) ai rfl rfl rfl (fun hb=>aS (cK hb rfl) (ld iU rfl rfl)) ?_
   refine ak.gT (f:=0) ai rfl rfl rfl (fun hb=>gX (cK hb rfl) iU rfl) ?_
   refine ak.gT (f:=0) ai rfl rfl rfl (fun hb=>av rfl) ?_
   refine ak.gT (f:=0) ai rfl rfl rfl (fun hb=>gR (cK hb rfl) (cK hb rfl)) ?_
   refine ak.go (f:=0) ai ((by first|exact nr rfl rfl (fun h=>by simp_all)|exact iK rfl rfl rfl)) ?_
   refine ak.go (f:=0) ai (au rfl) ?_
   refine ak.nil ?_
   refine AX.seq ?_
   refine AX.seq ?_
   refine AX.region ?_
   refine ak.go (f:=0) ai (av rfl) ?_
   refine ak.go (f:=0) ai (gX rfl iU rfl) ?_
   refine ak.go (f:=0) ai (av rfl) ?_
   refine ak.nil ?_
   refine AX.block ?_
   have hLl:os.length≤8388608:=by omega
   refine AX.loop (α:=Nat×Int×Bool) (fun x=>⟨bH 119 [(2,.t (.int .i64 x.2.1)),(3,.t (.bool x.2.2)),(97,.t (.sl os)),(98,.t (.int .i64 ((os.length:Nat):Int))),(99,.t (.int .i64 ((x.1:Nat):Int)))],[],0⟩) (fun x=>(x.1≤os.length)∧(x.2.2=true→((((((s==[])||(k==4))&&((((bs.length:Nat):Int)==0)||(k==6)))&&decide (k<7))&&(wU (.str s)))&&(((os.length:Nat):Int)==0))=true∧∀j,j<x.1→∀x,os[j]?=some x→G x)) (fun x=>os.length - x.1) (⟨0,0,((((((s==[])||(k==4))&&((((bs.length:Nat):Int)==0)||(k==6)))&&decide (k<7))&&(wU (.str s)))&&(((os.length:Nat):Int)==0))⟩) (Re.sq [] ⟨rfl,rfl,rfl,rfl,rfl,trivial⟩ trivial (by decide) rfl rfl (by decide)) ⟨Nat.zero_le _,fun h=>⟨h,fun j hj=>absurd hj (Nat.not_lt_zero j)⟩⟩ (fun x hok=> ?_)
   obtain⟨H9,afP,acp⟩:=x
   replace hok:(H9≤os.length)∧(acp=true→((((((s==[])||(k==4))&&((((bs.length:Nat):Int)==0)||(k==6)))&&decide (k<7))&&(wU (.str s)))&&(((os.length:Nat):Int)==0))=true∧∀j,j<H9→∀x,os[j]?=some x→G x):=hok
   obtain⟨YK,O4⟩:=hok
   show AX _ _ ⟨bH 119 [(2,.t (.int .i64 afP)),(3,.t (.bool acp)),(97,.t (.sl os)),(98,.t (.int .i64 ((os.length:Nat):Int))),(99,.t (.int .i64 ((H9:Nat):Int)))],[],0⟩ _
   refine AX.seq ?_
   refine AX.region ?_
   refine ak.go (f:=0) ai (ia rfl rfl) ?_
   refine ak.nil ?_
   refine AX.seq ?_
   refine AX.cond rfl (fun gp=> ?_) (fun gp=> ?_)
   ·
    have xQ:=of_decide_eq_true gp
    refine AX.skip ?_
    refine AX.seq ?_
    refine AX.block ?_
    refine AX.seq ?_
    refine AX.region ?_
    obtain⟨e9,YL⟩:∃e,os[H9]?=some e:=⟨os[H9]'(by first|omega|(simp;omega)),List.getElem?_eq_getElem _⟩
    have UC:=(ho) e9 (List.mem_of_getElem? YL)
    obtain⟨afQ,afR,aal,aam,rfl,alR,alS⟩:=hform _ (UC)
    refine ak.go (f:=0) ai (gL (m:=H9) rfl rfl iU rfl eu YL rfl) ?_
    refine ak.go (f:=0) ai (aS rfl (ld eu rfl rfl)) ?_
    refine ak.go (f:=0) ai (gQ eu rfl rfl) ?_
    refine ak.lQ (f:=0) ai (br rfl rfl (mX eu rfl rfl)) ?_
    refine ak.nil ?_
    refine AX.seq ?_
    refine AX.region ?_
    refine ak.go (f:=0) ai (aS rfl (ld eu rfl rfl)) ?_
    refine ak.go (f:=0) ai (bU (uQ rfl) (bf KJ UC)) ?_
    refine ak.go (f:=0) ai (av rfl) ?_
    refine ak.go (f:=0) ai (cW rfl rfl) ?_
    refine ak.go (f:=0) ai (cW rfl rfl) ?_
    refine ak.go (f:=0) ai (au rfl) ?_
    refine ak.go (f:=0) ai (au rfl) ?_
    refine ak.nil ?_
    refine AX.region ?_
    refine ak.go (f:=0) ai (av rfl) ?_
    refine ak.go (f:=0) ai (av rfl) ?_
    refine ak.go (f:=0) ai (F0 rfl rfl) ?_
    refine ak.go (f:=0) ai (av rfl) ?_
    refine ak.go (f:=0) ai (av rfl) ?_
    refine ak.gT (f:=0) ai rfl rfl rfl (fun hb=>av rfl) ?_
    refine ak.go (f:=0) ai ((by first|exact nr rfl rfl (fun h=>by simp_all)|exact iK rfl rfl rfl)) ?_
    refine ak.go (f:=0) ai (au rfl) ?_
    refine ak.go (f:=0) ai (au rfl) ?_
    refine ak.nil ?_
    refine AX.cC ?_
    refine AX.region ?_
    refine ak.go (f:=0) ai (kI rfl rfl (by omega) (by omega)) ?_
    refine ak.go (f:=0) ai (av rfl) ?_
    refine ak.nil ?_
    exact⟨.inl ⟨⟨H9+1,(max afP (dz (.agg [.int .u8 afQ,.str afR,.sl aal,.sl aam]))),(acp&&(oz (.agg [.int .u8 afQ,.str afR,.sl aal,.sl aam])))⟩,⟨⟨(by show(H9+1)≤os.length;first|omega|(simp only[List.length_append,List.length_cons,List.length_nil,List.length_singleton] at*;omega)|(simp;done)|(simp;omega)),(fun hv=>by have hv:=Bool.and_eq_true_iff.1 hv;obtain⟨h1,h2⟩:=O4 hv.1;exact⟨h1,jM YL (hG _ UC hv.2) h2⟩)⟩,(by show(os.length - (H9+1))<(os.length - H9);omega)⟩⟩,rfl,Re.sq [] ⟨rfl,rfl,rfl,rfl,rfl,trivial⟩ trivial (by decide) rfl rfl (by decide)⟩
   ·
    have xQ:=of_decide_eq_false gp
    refine AX.exit ?_
    refine AX.eP ?_
    refine AX.leave (e:=.exit 3) (by simp) ?_
    refine AX.fV ?_
    refine AX.seq ?_
    refine AX.region ?_
    refine ak.go (f:=0) ai (av rfl) ?_
    refine ak.go (f:=0) ai (rC rfl rfl rfl) ?_
    refine ak.go (f:=0) ai (av rfl) ?_
    refine ak.go (f:=0) ai (au rfl) ?_
    refine ak.go (f:=0) ai (au rfl) ?_
    refine ak.nil ?_
    refine AX.ret ?_
    refine⟨⟨(_,_),fun hr=> ?_⟩,.inl rfl⟩
    obtain⟨h1,h2⟩:=O4 hr
    have h3:=k7 (fun j hj=>h2 j (by omega))
    simp only[Bool.and_eq_true] at h1
    exact rO (by have:=eq_of_beq hc1;omega) (by simp_all) (by simp_all) (by simp_all) (by simp_all) h3
 ·
  have Be:=ne_of_beq_false hc1
  refine AX.seq ?_
  refine AX.region ?_
  refine ak.go (f:=0) ai (gR rfl rfl) ?_
  refine ak.go (f:=0) ai (au rfl) ?_
  refine ak.nil ?_
  refine AX.cond rfl (fun dn=> ?_) (fun dn=> ?_)
  ·
   have zH:=eq_of_beq dn
   have hk6:k=6:=eq_of_beq dn
   refine AX.seq ?_
   refine AX.region ?_
   refine ak.go (f:=0) ai (av rfl) ?_
   refine ak.go (f:=0) ai (av rfl) ?_
   refine ak.gT (f:=0) ai rfl rfl rfl (fun hb=>aB rfl iM rfl) ?_
   refine ak.gT (f:=0) ai rfl rfl rfl (fun hb=>aS (cK hb rfl) (ld iH rfl rfl)) ?_
   refine ak.gT (f:=0) ai rfl rfl rfl (fun hb=>gX (cK hb rfl) iH rfl) ?_
   refine ak.gT (f:=0) ai rfl rfl rfl (fun hb=>JO (cK hb rfl) rfl) ?_
   refine ak.go (f:=0) ai ((by first|exact nr rfl rfl (fun h=>by simp_all)|exact iK rfl rfl rfl)) ?_
   refine ak.go (f:=0) ai (av rfl) ?_
   refine ak.gT (f:=0) ai rfl rfl rfl (fun hb=>aB rfl iM rfl) ?_
   refine ak.gT (f:=0) ai rfl rfl rfl (fun hb=>aS (cK hb rfl) (ld iH rfl rfl)) ?_
   refine ak.gT (f:=0) ai rfl rfl rfl (fun hb=>bU (Oa (cK hb rfl) rfl) (dm akj ⟨hPL,rfl⟩)) ?_
   refine ak.go (f:=0) ai ((by first|exact nr rfl rfl (fun h=>by simp_all)|exact iK rfl rfl rfl)) ?_
   refine ak.go (f:=0) ai (av rfl) ?_
   refine ak.gT (f:=0) ai rfl rfl rfl (fun hb=>aB rfl iM rfl) ?_
   refine ak.gT (f:=0) ai rfl rfl rfl (fun hb=>aS (cK hb rfl) (ld iH rfl rfl)) ?_
   refine ak.gT (f:=0) ai rfl rfl rfl (fun hb=>bU (Oa (cK hb rfl) rfl) (dm wV ⟨hPL,rfl⟩)) ?_
   refine ak.gT (f:=0) ai rfl rfl rfl (fun hb=>w6 (cK hb rfl)) ?_
   refine ak.go (f:=0) ai ((by first|exact nr rfl rfl (fun h=>by simp_all)|exact iK rfl rfl rfl)) ?_
   refine ak.go (f:=0) ai (au rfl) ?_
   refine ak.nil ?_
   refine AX.seq ?_
   refine AX.region ?_
   refine ak.go (f:=0) ai (aB rfl iM rfl) ?_
   refine ak.go (f:=0) ai (aS rfl (ld iH rfl rfl)) ?_
   refine ak.go (f:=0) ai (gX rfl iH rfl) ?_
   refine ak.go (f:=0) ai (av rfl) ?_
   refine ak.nil ?_
   refine AX.block ?_
   refine AX.loop (α:=Nat) (fun x=>⟨bH 119 [(1,.ptr (.loc [0]) 0),(2,.t (.int .i64 0)),(3,.t (.bool (((((((s==[])||(k==4))&&((((bs.length:Nat):Int)==0)||(k==6)))&&decide (k<7))&&decide (((bs.length:Nat):Int)≤16))&&(H6 (.sl bs) (.fn (.func 80))))&&(!(H7 (.sl bs) (.fn (.func 82))))))),(4,.t (.sl (os++(bs.take x).map bC))),(69,.t (.sl bs)),(70,.t (.int .i64 ((bs.length:Nat):Int))),(71,.t (.int .i64 ((x:Nat):Int)))],[(.loc [0],.cells 38 [.t (.int .u8 k),.t (.str s),.t (.sl os),.t (.sl bs)])],1⟩) (fun x=>(x≤bs.length)) (fun x=>bs.length - x) 0 (Re.sq [.loc [0]] ⟨rfl,rfl,rfl,(by simp only[List.take_zero,List.map_nil,List.append_nil];rfl),rfl,rfl,rfl,trivial⟩ ⟨⟨.loc [0],_,rfl,rfl,.inl rfl⟩,trivial⟩ (by decide) rfl rfl (by decide)) (by show(0≤bs.length);first|trivial|omega|(refine⟨?_, ?_⟩<;>first|omega|exact SM.nil)|simp) (fun x hok=> ?_)
   obtain⟨gN,mJ⟩:∃y,y=x:=⟨x,rfl⟩
   subst mJ
   replace hok:(gN≤bs.length):=hok
   have UD:=hok
   show AX _ _ ⟨bH 119 [(1,.ptr (.loc [0]) 0),(2,.t (.int .i64 0)),(3,.t (.bool (((((((s==[])||(k==4))&&((((bs.length:Nat):Int)==0)||(k==6)))&&decide (k<7))&&decide (((bs.length:Nat):Int)≤16))&&(H6 (.sl bs) (.fn (.func 80))))&&(!(H7 (.sl bs) (.fn (.func 82))))))),(4,.t (.sl (os++(bs.take gN).map bC))),(69,.t (.sl bs)),(70,.t (.int .i64 ((bs.length:Nat):Int))),(71,.t (.int .i64 ((gN:Nat):Int)))],[(.loc [0],.cells 38 [.t (.int .u8 k),.t (.str s),.t (.sl os),.t (.sl bs)])],1⟩ _
   have hun:=Un hform (Eg ho hb (i:=gN))
   refine AX.seq ?_
   refine AX.region ?_
   refine ak.go (f:=0) ai (ia rfl rfl) ?_
   refine ak.nil ?_
   refine AX.seq ?_
   refine AX.cond rfl (fun jk=> ?_) (fun jk=> ?_)
   ·
    have D6:=of_decide_eq_true jk
    refine AX.skip ?_
    refine AX.seq ?_
    refine AX.block ?_
    refine AX.seq ?_
    refine AX.region ?_
    obtain⟨e14,Ia⟩:∃e,bs[gN]?=some e:=⟨bs[gN]'(by first|omega|(simp;omega)),List.getElem?_eq_getElem _⟩
    obtain⟨alT,akk,rfl,afS⟩:=hb e14 (List.mem_of_getElem? Ia)
    obtain⟨afT,afU,aan,aao,afV,alU,alV⟩:=hform _ afS
    obtain rfl:akk=[.int .u8 afT,.str afU,.sl aan,.sl aao]:=Tree.agg.inj afV
    refine ak.go (f:=0) ai (gL (m:=gN) rfl rfl iH rfl tN Ia rfl) ?_
    refine ak.go (f:=0) ai (aS rfl (ld tN rfl rfl)) ?_
    refine ak.go (f:=0) ai (gQ tN rfl rfl) ?_
    refine ak.lQ (f:=0) ai (br rfl rfl (mX tN rfl rfl)) ?_
    refine ak.nil ?_
    refine AX.draw (f:=0) ah ai ?_
    refine aJ.go rfl (av rfl) ?_
    refine aJ.go rfl (av rfl) ?_
    refine aJ.go rfl (gX rfl iU rfl) ?_
    refine aJ.go rfl (av rfl) ?_
    refine aJ.go rfl (gX rfl iU rfl) ?_
    refine aJ.go rfl (ae0 rfl rfl rfl iU rfl eu (Rb hun)) ?_
    refine aJ.go rfl (aB rfl Hv rfl) ?_
    refine aJ.go rfl (aS rfl (ld eu rfl rfl)) ?_
    refine aJ.go rfl (Ms rfl rfl iU rfl eu rfl rfl ⟨rfl,rfl,rfl⟩) ?_
    refine aJ.go rfl (abr Tm rfl rfl (.inr rfl) (O2 ⟨rfl,rfl,rfl⟩) hun (by simp) (KI lo lb)) ?_
    refine aJ.go rfl (au rfl) ?_
    refine aJ.nil (eE rfl rfl ?_)
    refine AX.cC ?_
    refine AX.region ?_
    refine ak.go (f:=0) ai (kI rfl rfl (by omega) (by omega)) ?_
    refine ak.go (f:=0) ai (av rfl) ?_
    refine ak.nil ?_
    refine⟨.inl ⟨gN+1,by show gN+1≤_∧bs.length - (gN+1)<bs.length - gN;omega⟩,rfl, ?_⟩
    refine Re.trans (Re.freeze (d:=4) (N:=2) (H':=[(.loc [0],.cells 38 [.t (.int .u8 k),.t (.str s),.t (.sl os),.t (.sl bs)])]) (Hp (es:=(os++(bs.take gN).map bC)++[.agg [.int .u8 afT,.str afU,.sl aan,.sl aao]]) rfl (hun.append (O2 ⟨rfl,rfl,rfl⟩)) (by decide) (by simp;omega)) (Tl rfl (by decide)) (by decide)) ?_
    refine Re.sq [.loc [0]] ⟨rfl,rfl,rfl,(by rw[UB Ia,← List.append_assoc];rfl),rfl,rfl,rfl,trivial⟩ ⟨⟨.loc [0],_,rfl,rfl,.inl rfl⟩,trivial⟩ (by decide) rfl rfl (by decide)
   ·
    have D6:=of_decide_eq_false jk
    refine AX.exit ?_
    refine AX.eP ?_
    refine AX.leave (e:=.exit 1) (by simp) ?_
    refine AX.fV ?_
    refine AX.cC ?_
    refine AX.seq ?_
    refine AX.region ?_
    refine ak.go (f:=0) ai (au rfl) ?_
    refine ak.nil ?_
    refine AX.seq ?_
    refine AX.seq ?_
    refine AX.region ?_
    refine ak.go (f:=0) ai (aB rfl rZ rfl) ?_
    refine ak.go (f:=0) ai (cN rfl (ld Ff rfl rfl)) ?_
    refine ak.go (f:=0) ai (gR rfl rfl) ?_
    refine ak.nil ?_
    refine AX.cond rfl (fun hc16=> ?_) (fun hc16=> ?_)
    ·
     have Eh:=eq_of_beq hc16
     refine AX.region ?_
     refine ak.go (f:=0) ai (au rfl) ?_
     refine ak.nil ?_
     refine AX.seq ?_
     refine AX.region ?_
     refine ak.go (f:=0) ai (av rfl) ?_
     refine ak.go (f:=0) ai (av rfl) ?_
     refine ak.gT (f:=0) ai rfl rfl rfl (fun hb=>aB rfl lB rfl) ?_
     refine ak.gT (f:=0) ai rfl rfl rfl (fun hb=>aS (cK hb rfl) (ld iU rfl rfl)) ?_
     refine ak.gT (f:=0) ai rfl rfl rfl (fun hb=>gX (cK hb rfl) iU rfl) ?_
     refine ak.gT (f:=0) ai rfl rfl rfl (fun hb=>av rfl) ?_
     refine ak.gT (f:=0) ai rfl rfl rfl (fun hb=>gR (cK hb rfl) (cK hb rfl)) ?_
     refine ak.go (f:=0) ai ((by first|exact nr rfl rfl (fun h=>by simp_all)|exact iK rfl rfl rfl)) ?_
     refine ak.go (f:=0) ai (au rfl) ?_
     refine ak.nil ?_
     refine AX.seq ?_
     refine AX.seq ?_
     refine AX.region ?_
     refine ak.go (f:=0) ai (av rfl) ?_
     refine ak.go (f:=0) ai (gX rfl iU rfl) ?_
     refine ak.go (f:=0) ai (av rfl) ?_
     refine ak.nil ?_
     refine AX.block ?_
     have hLl:(os++(bs.take gN).map bC).length≤8388608:=Gn lo lb
     refine AX.loop (α:=Nat×Int×Bool) (fun x=>⟨bH 119 [(2,.t (.int .i64 x.2.1)),(3,.t (.bool x.2.2)),(97,.t (.sl (os++(bs.take gN).map bC))),(98,.t (.int .i64 (((os++(bs.take gN).map bC).length:Nat):Int))),(99,.t (.int .i64 ((x.1:Nat):Int)))],[],0⟩) (fun x=>(x.1≤(os++(bs.take gN).map bC).length)∧(x.2.2=true→((((((((s==[])||(k==4))&&((((bs.length:Nat):Int)==0)||(k==6)))&&decide (k<7))&&decide (((bs.length:Nat):Int)≤16))&&(H6 (.sl bs) (.fn (.func 80))))&&(!(H7 (.sl bs) (.fn (.func 82)))))&&(((os.length:Nat):Int)==1))=true∧∀j,j<x.1→∀x,(os++(bs.take gN).map bC)[j]?=some x→G x)) (fun x=>(os++(bs.take gN).map bC).length - x.1) (⟨0,0,((((((((s==[])||(k==4))&&((((bs.length:Nat):Int)==0)||(k==6)))&&decide (k<7))&&decide (((bs.length:Nat):Int)≤16))&&(H6 (.sl bs) (.fn (.func 80))))&&(!(H7 (.sl bs) (.fn (.func 82)))))&&(((os.length:Nat):Int)==1))⟩) (Re.sq [] ⟨rfl,rfl,rfl,rfl,rfl,trivial⟩ trivial (by decide) rfl rfl (by decide)) ⟨Nat.zero_le _,fun h=>⟨h,fun j hj=>absurd hj (Nat.not_lt_zero j)⟩⟩ (fun x hok=> ?_)
     obtain⟨tQ,aap,UE⟩:=x
     replace hok:(tQ≤(os++(bs.take gN).map bC).length)∧(UE=true→((((((((s==[])||(k==4))&&((((bs.length:Nat):Int)==0)||(k==6)))&&decide (k<7))&&decide (((bs.length:Nat):Int)≤16))&&(H6 (.sl bs) (.fn (.func 80))))&&(!(H7 (.sl bs) (.fn (.func 82)))))&&(((os.length:Nat):Int)==1))=true∧∀j,j<tQ→∀x,(os++(bs.take gN).map bC)[j]?=some x→G x):=hok
     obtain⟨UF,KL⟩:=hok
     show AX _ _ ⟨bH 119 [(2,.t (.int .i64 aap)),(3,.t (.bool UE)),(97,.t (.sl (os++(bs.take gN).map bC))),(98,.t (.int .i64 (((os++(bs.take gN).map bC).length:Nat):Int))),(99,.t (.int .i64 ((tQ:Nat):Int)))],[],0⟩ _
     refine AX.seq ?_
     refine AX.region ?_
     refine ak.go (f:=0) ai (ia rfl rfl) ?_
     refine ak.nil ?_
     refine AX.seq ?_
     refine AX.cond rfl (fun k6=> ?_) (fun k6=> ?_)
     ·
      have D7:=of_decide_eq_true k6
      refine AX.skip ?_
      refine AX.seq ?_
      refine AX.block ?_
      refine AX.seq ?_
      refine AX.region ?_
      obtain⟨e19,Ib⟩:∃e,(os++(bs.take gN).map bC)[tQ]?=some e:=⟨(os++(bs.take gN).map bC)[tQ]'(by first|omega|(simp;omega)),List.getElem?_eq_getElem _⟩
      have UG:=(Eg ho hb) e19 (List.mem_of_getElem? Ib)
      obtain⟨afW,afX,aaq,aar,rfl,alW,alX⟩:=hform _ (UG)
      refine ak.go (f:=0) ai (gL (m:=tQ) rfl rfl iU rfl eu Ib rfl) ?_
      refine ak.go (f:=0) ai (aS rfl (ld eu rfl rfl)) ?_
      refine ak.go (f:=0) ai (gQ eu rfl rfl) ?_
      refine ak.lQ (f:=0) ai (br rfl rfl (mX eu rfl rfl)) ?_
      refine ak.nil ?_
      refine AX.seq ?_
      refine AX.region ?_
      refine ak.go (f:=0) ai (aS rfl (ld eu rfl rfl)) ?_
      refine ak.go (f:=0) ai (bU (uQ rfl) (bf KJ UG)) ?_
      refine ak.go (f:=0) ai (av rfl) ?_
      refine ak.go (f:=0) ai (cW rfl rfl) ?_
      refine ak.go (f:=0) ai (cW rfl rfl) ?_
      refine ak.go (f:=0) ai (au rfl) ?_
      refine ak.go (f:=0) ai (au rfl) ?_
      refine ak.nil ?_
      refine AX.region ?_
      refine ak.go (f:=0) ai (av rfl) ?_
      refine ak.go (f:=0) ai (av rfl) ?_
      refine ak.go (f:=0) ai (F0 rfl rfl) ?_
      refine ak.go (f:=0) ai (av rfl) ?_
      refine ak.go (f:=0) ai (av rfl) ?_
      refine ak.gT (f:=0) ai rfl rfl rfl (fun hb=>av rfl) ?_
      refine ak.go (f:=0) ai ((by first|exact nr rfl rfl (fun h=>by simp_all)|exact iK rfl rfl rfl)) ?_
      refine ak.go (f:=0) ai (au rfl) ?_
      refine ak.go (f:=0) ai (au rfl) ?_
      refine ak.nil ?_
      refine AX.cC ?_
      refine AX.region ?_
      refine ak.go (f:=0) ai (kI rfl rfl (by omega) (by omega)) ?_
      refine ak.go (f:=0) ai (av rfl) ?_
      refine ak.nil ?_
      exact⟨.inl ⟨⟨tQ+1,(max aap (dz (.agg [.int .u8 afW,.str afX,.sl aaq,.sl aar]))),(UE&&(oz (.agg [.int .u8 afW,.str afX,.sl aaq,.sl aar])))⟩,⟨⟨(by show(tQ+1)≤(os++(bs.take gN).map bC).length;first|omega|(simp only[List.length_append,List.length_cons,List.length_nil,List.length_singleton] at*;omega)|(simp;done)|(simp;omega)),(fun hv=>by have hv:=Bool.and_eq_true_iff.1 hv;obtain⟨h1,h2⟩:=KL hv.1;exact⟨h1,jM Ib (hG _ UG hv.2) h2⟩)⟩,(by show((os++(bs.take gN).map bC).length - (tQ+1))<((os++(bs.take gN).map bC).length - tQ);omega)⟩⟩,rfl,Re.sq [] ⟨rfl,rfl,rfl,rfl,rfl,trivial⟩ trivial (by decide) rfl rfl (by decide)⟩
     ·
      have D7:=of_decide_eq_false k6
      refine AX.exit ?_
      refine AX.eP ?_
      refine AX.leave (e:=.exit 3) (by simp) ?_
      refine AX.fV ?_
      refine AX.seq ?_
      refine AX.region ?_
      refine ak.go (f:=0) ai (av rfl) ?_
      refine ak.go (f:=0) ai (rC rfl rfl rfl) ?_
      refine ak.go (f:=0) ai (av rfl) ?_
      refine ak.go (f:=0) ai (au rfl) ?_
      refine ak.go (f:=0) ai (au rfl) ?_
      refine ak.nil ?_
      refine AX.ret ?_
      refine⟨⟨(_,_),fun hr=> ?_⟩,.inl rfl⟩
      obtain⟨h1,h2⟩:=KL hr
      have h3:=k7 (fun j hj=>h2 j (by omega))
      simp only[Bool.and_eq_true] at h1
      have hie:gN=bs.length:=by omega
      rw[hie] at h3
      have hk6:=eq_of_beq dn;subst hk6;exact Gp hb (by simp_all) (by simp_all) h3
    ·
     have Eh:=ne_of_beq_false hc16
     refine AX.skip ?_
     refine AX.seq ?_
     refine AX.region ?_
     refine ak.go (f:=0) ai (av rfl) ?_
     refine ak.go (f:=0) ai (av rfl) ?_
     refine ak.gT (f:=0) ai rfl rfl rfl (fun hb=>aB rfl lB rfl) ?_
     refine ak.gT (f:=0) ai rfl rfl rfl (fun hb=>aS (cK hb rfl) (ld iU rfl rfl)) ?_
     refine ak.gT (f:=0) ai rfl rfl rfl (fun hb=>gX (cK hb rfl) iU rfl) ?_
     refine ak.gT (f:=0) ai rfl rfl rfl (fun hb=>av rfl) ?_
     refine ak.gT (f:=0) ai rfl rfl rfl (fun hb=>gR (cK hb rfl) (cK hb rfl)) ?_
     refine ak.go (f:=0) ai ((by first|exact nr rfl rfl (fun h=>by simp_all)|exact iK rfl rfl rfl)) ?_
     refine ak.go (f:=0) ai (au rfl) ?_
     refine ak.nil ?_
     refine AX.seq ?_
     refine AX.seq ?_
     refine AX.region ?_
     refine ak.go (f:=0) ai (av rfl) ?_
     refine ak.go (f:=0) ai (gX rfl iU rfl) ?_
     refine ak.go (f:=0) ai (av rfl) ?_
     refine ak.nil ?_
     refine AX.block ?_
     have hLl:(os++(bs.take gN).map bC).length≤8388608:=Gn lo lb
     refine AX.loop (α:=Nat×Int×Bool) (fun x=>⟨bH 119 [(2,.t (.int .i64 x.2.1)),(3,.t (.bool x.2.2)),(97,.t (.sl (os++(bs.take gN).map bC))),(98,.t (.int .i64 (((os++(bs.take gN).map bC).length:Nat):Int))),(99,.t (.int .i64 ((x.1:Nat):Int)))],[],0⟩) (fun x=>(x.1≤(os++(bs.take gN).map bC).length)∧(x.2.2=true→((((((((s==[])||(k==4))&&((((bs.length:Nat):Int)==0)||(k==6)))&&decide (k<7))&&decide (((bs.length:Nat):Int)≤16))&&(H6 (.sl bs) (.fn (.func 80))))&&(!(H7 (.sl bs) (.fn (.func 82)))))&&(((os.length:Nat):Int)==0))=true∧∀j,j<x.1→∀x,(os++(bs.take gN).map bC)[j]?=some x→G x)) (fun x=>(os++(bs.take gN).map bC).length - x.1) (⟨0,0,((((((((s==[])||(k==4))&&((((bs.length:Nat):Int)==0)||(k==6)))&&decide (k<7))&&decide (((bs.length:Nat):Int)≤16))&&(H6 (.sl bs) (.fn (.func 80))))&&(!(H7 (.sl bs) (.fn (.func 82)))))&&(((os.length:Nat):Int)==0))⟩) (Re.sq [] ⟨rfl,rfl,rfl,rfl,rfl,trivial⟩ trivial (by decide) rfl rfl (by decide)) ⟨Nat.zero_le _,fun h=>⟨h,fun j hj=>absurd hj (Nat.not_lt_zero j)⟩⟩ (fun x hok=> ?_)
     obtain⟨mZ,zI,BV⟩:=x
     replace hok:(mZ≤(os++(bs.take gN).map bC).length)∧(BV=true→((((((((s==[])||(k==4))&&((((bs.length:Nat):Int)==0)||(k==6)))&&decide (k<7))&&decide (((bs.length:Nat):Int)≤16))&&(H6 (.sl bs) (.fn (.func 80))))&&(!(H7 (.sl bs) (.fn (.func 82)))))&&(((os.length:Nat):Int)==0))=true∧∀j,j<mZ→∀x,(os++(bs.take gN).map bC)[j]?=some x→G x):=hok
     obtain⟨UH,qG⟩:=hok
     show AX _ _ ⟨bH 119 [(2,.t (.int .i64 zI)),(3,.t (.bool BV)),(97,.t (.sl (os++(bs.take gN).map bC))),(98,.t (.int .i64 (((os++(bs.take gN).map bC).length:Nat):Int))),(99,.t (.int .i64 ((mZ:Nat):Int)))],[],0⟩ _
     refine AX.seq ?_
     refine AX.region ?_
     refine ak.go (f:=0) ai (ia rfl rfl) ?_
     refine ak.nil ?_
     refine AX.seq ?_
     refine AX.cond rfl (fun gO=> ?_) (fun gO=> ?_)
     ·
      have Ei:=of_decide_eq_true gO
      refine AX.skip ?_
      refine AX.seq ?_
      refine AX.block ?_
      refine AX.seq ?_
      refine AX.region ?_
      obtain⟨e23,qE⟩:∃e,(os++(bs.take gN).map bC)[mZ]?=some e:=⟨(os++(bs.take gN).map bC)[mZ]'(by first|omega|(simp;omega)),List.getElem?_eq_getElem _⟩
      have Eb:=(Eg ho hb) e23 (List.mem_of_getElem? qE)
      obtain⟨M7,vO,Ec,Ed,rfl,afE,afF⟩:=hform _ (Eb)
      refine ak.go (f:=0) ai (gL (m:=mZ) rfl rfl iU rfl eu qE rfl) ?_
      refine ak.go (f:=0) ai (aS rfl (ld eu rfl rfl)) ?_
      refine ak.go (f:=0) ai (gQ eu rfl rfl) ?_
      refine ak.lQ (f:=0) ai (br rfl rfl (mX eu rfl rfl)) ?_
      refine ak.nil ?_
      refine AX.seq ?_
      refine AX.region ?_
      refine ak.go (f:=0) ai (aS rfl (ld eu rfl rfl)) ?_
      refine ak.go (f:=0) ai (bU (uQ rfl) (bf KJ Eb)) ?_
      refine ak.go (f:=0) ai (av rfl) ?_
      refine ak.go (f:=0) ai (cW rfl rfl) ?_
      refine ak.go (f:=0) ai (cW rfl rfl) ?_
      refine ak.go (f:=0) ai (au rfl) ?_
      refine ak.go (f:=0) ai (au rfl) ?_
      refine ak.nil ?_
      refine AX.region ?_
      refine ak.go (f:=0) ai (av rfl) ?_
      refine ak.go (f:=0) ai (av rfl) ?_
      refine ak.go (f:=0) ai (F0 rfl rfl) ?_
      refine ak.go (f:=0) ai (av rfl) ?_
      refine ak.go (f:=0) ai (av rfl) ?_
      refine ak.gT (f:=0) ai rfl rfl rfl (fun hb=>av rfl) ?_
      refine ak.go (f:=0) ai ((by first|exact nr rfl rfl (fun h=>by simp_all)|exact iK rfl rfl rfl)) ?_
      refine ak.go (f:=0) ai (au rfl) ?_
      refine ak.go (f:=0) ai (au rfl) ?_
      refine ak.nil ?_
      refine AX.cC ?_
      refine AX.region ?_
      refine ak.go (f:=0) ai (kI rfl rfl (by omega) (by omega)) ?_
      refine ak.go (f:=0) ai (av rfl) ?_
      refine ak.nil ?_
      exact⟨.inl ⟨⟨mZ+1,(max zI (dz (.agg [.int .u8 M7,.str vO,.sl Ec,.sl Ed]))),(BV&&(oz (.agg [.int .u8 M7,.str vO,.sl Ec,.sl Ed])))⟩,⟨⟨(by show(mZ+1)≤(os++(bs.take gN).map bC).length;first|omega|(simp only[List.length_append,List.length_cons,List.length_nil,List.length_singleton] at*;omega)|(simp;done)|(simp;omega)),(fun hv=>by have hv:=Bool.and_eq_true_iff.1 hv;obtain⟨h1,h2⟩:=qG hv.1;exact⟨h1,jM qE (hG _ Eb hv.2) h2⟩)⟩,(by show((os++(bs.take gN).map bC).length - (mZ+1))<((os++(bs.take gN).map bC).length - mZ);omega)⟩⟩,rfl,Re.sq [] ⟨rfl,rfl,rfl,rfl,rfl,trivial⟩ trivial (by decide) rfl rfl (by decide)⟩
     ·
      have Ei:=of_decide_eq_false gO
      refine AX.exit ?_
      refine AX.eP ?_
      refine AX.leave (e:=.exit 3) (by simp) ?_
      refine AX.fV ?_
      refine AX.seq ?_
      refine AX.region ?_
      refine ak.go (f:=0) ai (av rfl) ?_
      refine ak.go (f:=0) ai (rC rfl rfl rfl) ?_
      refine ak.go (f:=0) ai (av rfl) ?_
      refine ak.go (f:=0) ai (au rfl) ?_
      refine ak.go (f:=0) ai (au rfl) ?_
      refine ak.nil ?_
      refine AX.ret ?_
      refine⟨⟨(_,_),fun hr=> ?_⟩,.inl rfl⟩
      obtain⟨h1,h2⟩:=qG hr
      have h3:=k7 (fun j hj=>h2 j (by omega))
      simp only[Bool.and_eq_true] at h1
      have hie:gN=bs.length:=by omega
      rw[hie] at h3
      have hk6:=eq_of_beq dn;subst hk6;exact Gp hb (by simp_all) (by simp_all) h3
  ·
   have zH:=ne_of_beq_false dn
   refine AX.skip ?_
   refine AX.cC ?_
   refine AX.seq ?_
   refine AX.region ?_
   refine ak.go (f:=0) ai (au rfl) ?_
   refine ak.nil ?_
   refine AX.seq ?_
   refine AX.seq ?_
   refine AX.region ?_
   refine ak.go (f:=0) ai (aB rfl rZ rfl) ?_
   refine ak.go (f:=0) ai (cN rfl (ld Ff rfl rfl)) ?_
   refine ak.go (f:=0) ai (gR rfl rfl) ?_
   refine ak.nil ?_
   refine AX.cond rfl (fun jl=> ?_) (fun jl=> ?_)
   ·
    have KM:=eq_of_beq jl
    refine AX.region ?_
    refine ak.go (f:=0) ai (au rfl) ?_
    refine ak.nil ?_
    refine AX.seq ?_
    refine AX.region ?_
    refine ak.go (f:=0) ai (av rfl) ?_
    refine ak.go (f:=0) ai (av rfl) ?_
    refine ak.gT (f:=0) ai rfl rfl rfl (fun hb=>aB rfl lB rfl) ?_
    refine ak.gT (f:=0) ai rfl rfl rfl (fun hb=>aS (cK hb rfl) (ld iU rfl rfl)) ?_
    refine ak.gT (f:=0) ai rfl rfl rfl (fun hb=>gX (cK hb rfl) iU rfl) ?_
    refine ak.gT (f:=0) ai rfl rfl rfl (fun hb=>av rfl) ?_
    refine ak.gT (f:=0) ai rfl rfl rfl (fun hb=>gR (cK hb rfl) (cK hb rfl)) ?_
    refine ak.go (f:=0) ai ((by first|exact nr rfl rfl (fun h=>by simp_all)|exact iK rfl rfl rfl)) ?_
    refine ak.go (f:=0) ai (au rfl) ?_
    refine ak.nil ?_
    refine AX.seq ?_
    refine AX.seq ?_
    refine AX.region ?_
    refine ak.go (f:=0) ai (av rfl) ?_
    refine ak.go (f:=0) ai (gX rfl iU rfl) ?_
    refine ak.go (f:=0) ai (av rfl) ?_
    refine ak.nil ?_
    refine AX.block ?_
    have hLl:os.length≤8388608:=by omega
    refine AX.loop (α:=Nat×Int×Bool) (fun x=>⟨bH 119 [(2,.t (.int .i64 x.2.1)),(3,.t (.bool x.2.2)),(97,.t (.sl os)),(98,.t (.int .i64 ((os.length:Nat):Int))),(99,.t (.int .i64 ((x.1:Nat):Int)))],[],0⟩) (fun x=>(x.1≤os.length)∧(x.2.2=true→(((((s==[])||(k==4))&&((((bs.length:Nat):Int)==0)||(k==6)))&&decide (k<7))&&(((os.length:Nat):Int)==1))=true∧∀j,j<x.1→∀x,os[j]?=some x→G x)) (fun x=>os.length - x.1) (⟨0,0,(((((s==[])||(k==4))&&((((bs.length:Nat):Int)==0)||(k==6)))&&decide (k<7))&&(((os.length:Nat):Int)==1))⟩) (Re.sq [] ⟨rfl,rfl,rfl,rfl,rfl,trivial⟩ trivial (by decide) rfl rfl (by decide)) ⟨Nat.zero_le _,fun h=>⟨h,fun j hj=>absurd hj (Nat.not_lt_zero j)⟩⟩ (fun x hok=> ?_)
    obtain⟨nc,zJ,BW⟩:=x
    replace hok:(nc≤os.length)∧(BW=true→(((((s==[])||(k==4))&&((((bs.length:Nat):Int)==0)||(k==6)))&&decide (k<7))&&(((os.length:Nat):Int)==1))=true∧∀j,j<nc→∀x,os[j]?=some x→G x):=hok
    obtain⟨UI,qH⟩:=hok
    show AX _ _ ⟨bH 119 [(2,.t (.int .i64 zJ)),(3,.t (.bool BW)),(97,.t (.sl os)),(98,.t (.int .i64 ((os.length:Nat):Int))),(99,.t (.int .i64 ((nc:Nat):Int)))],[],0⟩ _
    refine AX.seq ?_
    refine AX.region ?_
    refine ak.go (f:=0) ai (ia rfl rfl) ?_
    refine ak.nil ?_
    refine AX.seq ?_
    refine AX.cond rfl (fun uL=> ?_) (fun uL=> ?_)
    ·
     have Ky:=of_decide_eq_true uL
     refine AX.skip ?_
     refine AX.seq ?_
     refine AX.block ?_
     refine AX.seq ?_
     refine AX.region ?_
     obtain⟨e28,tR⟩:∃e,os[nc]?=some e:=⟨os[nc]'(by first|omega|(simp;omega)),List.getElem?_eq_getElem _⟩
     have UJ:=(ho) e28 (List.mem_of_getElem? tR)
     obtain⟨afY,Ce,aas,aat,rfl,alY,alZ⟩:=hform _ (UJ)
     refine ak.go (f:=0) ai (gL (m:=nc) rfl rfl iU rfl eu tR rfl) ?_
     refine ak.go (f:=0) ai (aS rfl (ld eu rfl rfl)) ?_
     refine ak.go (f:=0) ai (gQ eu rfl rfl) ?_
     refine ak.lQ (f:=0) ai (br rfl rfl (mX eu rfl rfl)) ?_
     refine ak.nil ?_
     refine AX.seq ?_
     refine AX.region ?_
     refine ak.go (f:=0) ai (aS rfl (ld eu rfl rfl)) ?_
     refine ak.go (f:=0) ai (bU (uQ rfl) (bf KJ UJ)) ?_
     refine ak.go (f:=0) ai (av rfl) ?_
     refine ak.go (f:=0) ai (cW rfl rfl) ?_
     refine ak.go (f:=0) ai (cW rfl rfl) ?_
     refine ak.go (f:=0) ai (au rfl) ?_
     refine ak.go (f:=0) ai (au rfl) ?_
     refine ak.nil ?_
     refine AX.region ?_
     refine ak.go (f:=0) ai (av rfl) ?_
     refine ak.go (f:=0) ai (av rfl) ?_
     refine ak.go (f:=0) ai (F0 rfl rfl) ?_
     refine ak.go (f:=0) ai (av rfl) ?_
     refine ak.go (f:=0) ai (av rfl) ?_
     refine ak.gT (f:=0) ai rfl rfl rfl (fun hb=>av rfl) ?_
     refine ak.go (f:=0) ai ((by first|exact nr rfl rfl (fun h=>by simp_all)|exact iK rfl rfl rfl)) ?_
     refine ak.go (f:=0) ai (au rfl) ?_
     refine ak.go (f:=0) ai (au rfl) ?_
     refine ak.nil ?_
     refine AX.cC ?_
     refine AX.region ?_
     refine ak.go (f:=0) ai (kI rfl rfl (by omega) (by omega)) ?_
     refine ak.go (f:=0) ai (av rfl) ?_
     refine ak.nil ?_
     exact⟨.inl ⟨⟨nc+1,(max zJ (dz (.agg [.int .u8 afY,.str Ce,.sl aas,.sl aat]))),(BW&&(oz (.agg [.int .u8 afY,.str Ce,.sl aas,.sl aat])))⟩,⟨⟨(by show(nc+1)≤os.length;first|omega|(simp only[List.length_append,List.length_cons,List.length_nil,List.length_singleton] at*;omega)|(simp;done)|(simp;omega)),(fun hv=>by have hv:=Bool.and_eq_true_iff.1 hv;obtain⟨h1,h2⟩:=qH hv.1;exact⟨h1,jM tR (hG _ UJ hv.2) h2⟩)⟩,(by show(os.length - (nc+1))<(os.length - nc);omega)⟩⟩,rfl,Re.sq [] ⟨rfl,rfl,rfl,rfl,rfl,trivial⟩ trivial (by decide) rfl rfl (by decide)⟩
    ·
     have Ky:=of_decide_eq_false uL
     refine AX.exit ?_
     refine AX.eP ?_
     refine AX.leave (e:=.exit 3) (by simp) ?_
     refine AX.fV ?_
     refine AX.seq ?_
     refine AX.region ?_
     refine ak.go (f:=0) ai (av rfl) ?_
     refine ak.go (f:=0) ai (rC rfl rfl rfl) ?_
     refine ak.go (f:=0) ai (av rfl) ?_
     refine ak.go (f:=0) ai (au rfl) ?_
     refine ak.go (f:=0) ai (au rfl) ?_
     refine ak.nil ?_
     refine AX.ret ?_
     refine⟨⟨(_,_),fun hr=> ?_⟩,.inl rfl⟩
     obtain⟨h1,h2⟩:=qH hr
     have h3:=k7 (fun j hj=>h2 j (by omega))
     simp only[Bool.and_eq_true] at h1
     exact rO (ne_of_beq_false dn) (by simp_all) (by simp_all) (by simp_all) (by simp_all) h3
   ·
    have KM:=ne_of_beq_false jl
    refine AX.skip ?_
    refine AX.seq ?_
    refine AX.region ?_
    refine ak.go (f:=0) ai (av rfl) ?_
    refine ak.go (f:=0) ai (av rfl) ?_
    refine ak.gT (f:=0) ai rfl rfl rfl (fun hb=>aB rfl lB rfl) ?_
    refine ak.gT (f:=0) ai rfl rfl rfl (fun hb=>aS (cK hb rfl) (ld iU rfl rfl)) ?_
    refine ak.gT (f:=0) ai rfl rfl rfl (fun hb=>gX (cK hb rfl) iU rfl) ?_
    refine ak.gT (f:=0) ai rfl rfl rfl (fun hb=>av rfl) ?_
    refine ak.gT (f:=0) ai rfl rfl rfl (fun hb=>gR (cK hb rfl) (cK hb rfl)) ?_
    refine ak.go (f:=0) ai ((by first|exact nr rfl rfl (fun h=>by simp_all)|exact iK rfl rfl rfl)) ?_
    refine ak.go (f:=0) ai (au rfl) ?_
    refine ak.nil ?_
    refine AX.seq ?_
    refine AX.seq ?_
    refine AX.region ?_
    refine ak.go (f:=0) ai (av rfl) ?_
    refine ak.go (f:=0) ai (gX rfl iU rfl) ?_
    refine ak.go (f:=0) ai (av rfl) ?_
    refine ak.nil ?_
    refine AX.block ?_
    have hLl:os.length≤8388608:=by omega
    refine AX.loop (α:=Nat×Int×Bool) (fun x=>⟨bH 119 [(2,.t (.int .i64 x.2.1)),(3,.t (.bool x.2.2)),(97,.t (.sl os)),(98,.t (.int .i64 ((os.length:Nat):Int))),(99,.t (.int .i64 ((x.1:Nat):Int)))],[],0⟩) (fun x=>(x.1≤os.length)∧(x.2.2=true→(((((s==[])||(k==4))&&((((bs.length:Nat):Int)==0)||(k==6)))&&decide (k<7))&&(((os.length:Nat):Int)==0))=true∧∀j,j<x.1→∀x,os[j]?=some x→G x)) (fun x=>os.length - x.1) (⟨0,0,(((((s==[])||(k==4))&&((((bs.length:Nat):Int)==0)||(k==6)))&&decide (k<7))&&(((os.length:Nat):Int)==0))⟩) (Re.sq [] ⟨rfl,rfl,rfl,rfl,rfl,trivial⟩ trivial (by decide) rfl rfl (by decide)) ⟨Nat.zero_le _,fun h=>⟨h,fun j hj=>absurd hj (Nat.not_lt_zero j)⟩⟩ (fun x hok=> ?_)
    obtain⟨Fg,aau,UK⟩:=x
    replace hok:(Fg≤os.length)∧(UK=true→(((((s==[])||(k==4))&&((((bs.length:Nat):Int)==0)||(k==6)))&&decide (k<7))&&(((os.length:Nat):Int)==0))=true∧∀j,j<Fg→∀x,os[j]?=some x→G x):=hok
    obtain⟨afZ,KN⟩:=hok
    show AX _ _ ⟨bH 119 [(2,.t (.int .i64 aau)),(3,.t (.bool UK)),(97,.t (.sl os)),(98,.t (.int .i64 ((os.length:Nat):Int))),(99,.t (.int .i64 ((Fg:Nat):Int)))],[],0⟩ _
    refine AX.seq ?_
    refine AX.region ?_
    refine ak.go (f:=0) ai (ia rfl rfl) ?_
    refine ak.nil ?_
    refine AX.seq ?_
    refine AX.cond rfl (fun Ic=> ?_) (fun Ic=> ?_)
    ·
     have UL:=of_decide_eq_true Ic
     refine AX.skip ?_
     refine AX.seq ?_
     refine AX.block ?_
     refine AX.seq ?_
     refine AX.region ?_
     obtain⟨e32,acq⟩:∃e,os[Fg]?=some e:=⟨os[Fg]'(by first|omega|(simp;omega)),List.getElem?_eq_getElem _⟩
     have UM:=(ho) e32 (List.mem_of_getElem? acq)
     obtain⟨HX,HY,zF,zG,rfl,al0,al1⟩:=hform _ (UM)
     refine ak.go (f:=0) ai (gL (m:=Fg) rfl rfl iU rfl eu acq rfl) ?_
     refine ak.go (f:=0) ai (aS rfl (ld eu rfl rfl)) ?_
     refine ak.go (f:=0) ai (gQ eu rfl rfl) ?_
     refine ak.lQ (f:=0) ai (br rfl rfl (mX eu rfl rfl)) ?_
     refine ak.nil ?_
     refine AX.seq ?_
     refine AX.region ?_
     refine ak.go (f:=0) ai (aS rfl (ld eu rfl rfl)) ?_
     refine ak.go (f:=0) ai (bU (uQ rfl) (bf KJ UM)) ?_
     refine ak.go (f:=0) ai (av rfl) ?_
     refine ak.go (f:=0) ai (cW rfl rfl) ?_
     refine ak.go (f:=0) ai (cW rfl rfl) ?_
     refine ak.go (f:=0) ai (au rfl) ?_
     refine ak.go (f:=0) ai (au rfl) ?_
     refine ak.nil ?_
     refine AX.region ?_
     refine ak.go (f:=0) ai (av rfl) ?_
     refine ak.go (f:=0) ai (av rfl) ?_
     refine ak.go (f:=0) ai (F0 rfl rfl) ?_
     refine ak.go (f:=0) ai (av rfl) ?_
     refine ak.go (f:=0) ai (av rfl) ?_
     refine ak.gT (f:=0) ai rfl rfl rfl (fun hb=>av rfl) ?_
     refine ak.go (f:=0) ai ((by first|exact nr rfl rfl (fun h=>by simp_all)|exact iK rfl rfl rfl)) ?_
     refine ak.go (f:=0) ai (au rfl) ?_
     refine ak.go (f:=0) ai (au rfl) ?_
     refine ak.nil ?_
     refine AX.cC ?_
     refine AX.region ?_
     refine ak.go (f:=0) ai (kI rfl rfl (by omega) (by omega)) ?_
     refine ak.go (f:=0) ai (av rfl) ?_
     refine ak.nil ?_
     exact⟨.inl ⟨⟨Fg+1,(max aau (dz (.agg [.int .u8 HX,.str HY,.sl zF,.sl zG]))),(UK&&(oz (.agg [.int .u8 HX,.str HY,.sl zF,.sl zG])))⟩,⟨⟨(by show(Fg+1)≤os.length;first|omega|(simp only[List.length_append,List.length_cons,List.length_nil,List.length_singleton] at*;omega)|(simp;done)|(simp;omega)),(fun hv=>by have hv:=Bool.and_eq_true_iff.1 hv;obtain⟨h1,h2⟩:=KN hv.1;exact⟨h1,jM acq (hG _ UM hv.2) h2⟩)⟩,(by show(os.length - (Fg+1))<(os.length - Fg);omega)⟩⟩,rfl,Re.sq [] ⟨rfl,rfl,rfl,rfl,rfl,trivial⟩ trivial (by decide) rfl rfl (by decide)⟩
    ·
     have UL:=of_decide_eq_false Ic
     refine AX.exit ?_
     refine AX.eP ?_
     refine AX.leave (e:=.exit 3) (by simp) ?_
     refine AX.fV ?_
     refine AX.seq ?_
     refine AX.region ?_
     refine ak.go (f:=0) ai (av rfl) ?_
     refine ak.go (f:=0) ai (rC rfl rfl rfl) ?_
     refine ak.go (f:=0) ai (av rfl) ?_
     refine ak.go (f:=0) ai (au rfl) ?_
     refine ak.go (f:=0) ai (au rfl) ?_
     refine ak.nil ?_
     refine AX.ret ?_
     refine⟨⟨(_,_),fun hr=> ?_⟩,.inl rfl⟩
     obtain⟨h1,h2⟩:=KN hr
     have h3:=k7 (fun j hj=>h2 j (by omega))
     simp only[Bool.and_eq_true] at h1
     exact rO (ne_of_beq_false dn) (by simp_all) (by simp_all) (by simp_all) (by simp_all) h3
end
end Go.Proofs.YtijfhoelihclbaaGreatDoor.w
