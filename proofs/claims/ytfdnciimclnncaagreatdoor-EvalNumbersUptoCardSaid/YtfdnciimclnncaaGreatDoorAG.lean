/- Plain laws over what expressions come to: numbers, and truths. -/
import Derived.Test.YtfdnciimclnncaaGreatDoorAF
set_option linter.unusedVariables false
set_option linter.unusedSimpArgs false
namespace Go.Proofs.YtfdnciimclnncaaGreatDoor.w.e
open Go Go.Abs
set_option maxRecDepth 100000
noncomputable section
open Go.Abs.Ty
theorem Sj {op:Int}{ks:List Tree}(h0:0<=op)(h1:ks.length<=4194304)(h:∀k∈ks,T .aG k):T .aG (aC op ks):=.aG _ _ _ _ _ _ h0 (by simp) (by simp) (by simp) (λ_ h=>by cases h) h1 h
theorem adJ {op:Int}{a:Tree}(h0:0<=op)(h:T .aG a):T .aG (aC op [a]):=Sj h0 (by simp) (by simpa using h)
theorem cz {op:Int}{a b:Tree}(h0:0<=op)(h:T .aG a)(h2:T .aG b):T .aG (aC op [a,b]):=Sj h0 (by simp) (by simpa using ⟨h,h2⟩)
theorem UT (m:Int){x:Tree}{n:Nat}(hx:T .aG x)(hd:Dx n x):El m x=E7 (Ck (p9 m) n x):=by
 obtain⟨k,h1,h2⟩:=ah0 m hx;rw[h2,BB k n x h1 hd]
theorem Ws (m:Int){x:Tree}{n:Nat}(hx:T .aG x)(hd:Dx n x)(hb:bulk x<=1099511627776):El m x=0↔(Ck (p9 m) n x).2.2=true/\Hr n x<=16/\uO n x<=128:=by
 rw[UT m hx hd,Xc];obtain⟨e1,e2⟩:=Zm (b:=p9 m) n x (Nat.le_trans (P7 n x) hb);rw[e1,e2];constructor<;>(rintro ⟨a,b,c⟩;exact⟨a,by omega,by omega⟩)
theorem adK {m:Int}{n:Nat}{op:Int}{ks:List Tree}(h:p7 op ks):(Ck (p9 m) (n+1) (aC op ks)).2.2=true↔∀k∈ks,(Ck (p9 m) n k).2.2=true:=by
 rw[aii];exact⟨λh=>h.2,λh'=>⟨F2 h,h'⟩⟩
theorem ok2 {m:Int}{n:Nat}{op:Int}{a b:Tree}(h:p7 op [a,b]):(Ck (p9 m) (n+1) (aC op [a,b])).2.2=true↔(Ck (p9 m) n a).2.2=true/\(Ck (p9 m) n b).2.2=true:=by rw[adK h];simp
theorem aoP {n:Nat}{op:Int}{a b:Tree}:Hr (n+1) (aC op [a,b])=max (Hr n a) (Hr n b)+1:=by simp[Hr,iD,aC]
theorem cnt2 {n:Nat}{op:Int}{a b:Tree}:uO (n+1) (aC op [a,b])=uO n a+uO n b+1:=by simp[uO,iD,aC]
theorem ah5 {op:Int}{a b:Tree}:bulk (aC op [a,b])=bulk a+bulk b+7:=by simp only[aC,bulk,bulks];omega
theorem dx2 {n:Nat}{op:Int}{a b:Tree}(h:Dx n a)(h2:Dx n b):Dx (n+1) (aC op [a,b]):=λk hk=>by
 have hk:k∈[a,b]:=hk;simp only[List.mem_cons,List.not_mem_nil,or_false] at hk;rcases hk with rfl|rfl<;>assumption
theorem adL (m:Int){a b:Tree}(ha:T .aG a)(hb:T .aG b):∃n,Dx n a/\Dx n b:=by
 obtain⟨n,h1⟩:=adG m ha;obtain⟨k,h2⟩:=adG m hb;exact⟨max (n+1) (k+1),Dx.mono (Nat.le_max_left _ _) h1,Dx.mono (Nat.le_max_right _ _) h2⟩
theorem Ge (m:Int){q:Sc}(hs:SD q){e:Tree}(hE:T .aG e)(hR:Rt e):Ci m q (Bn m q) e (Bn m q e):=by
 obtain⟨n,h1,h2,h3⟩:=Si m hs hE hR;rwa [K7 hR (g:=Bn m q) λk hk=> ?_] at h3;obtain⟨d,g1,g2⟩:=adH m (UK hE k hk);show _=evN m q (dep k) k;rw[g1];exact K8 m q n (d+1) k (h2 k hk) g2 (Ek hR k hk)
theorem agZ (m:Int){q:Sc}(hs:SD q){op:Int}{a:Tree}(hE:T .aG (aC op [a]))(hR:Rt (aC op [a]))(Pk:op≠14)(Oc:op≠15)(h16:op≠16):
 (∃w,Bn m q a=.inr w/\Bn m q (aC op [a])=.inr w)\/∃v,Bn m q a=.inl v/\T .av v/\QO m (aC op [a]) [v] (Bn m q (aC op [a])):=by
 have h:=(Ge m hs hE hR).2.2.2.2 Pk Oc h16
 have h:EvO m (Bn m q) (aC op [a]) [a] _:=h
 unfold EvO iL at h
 cases ha:Bn m q a with
 |inr w=>
  rw[ha] at h
  rcases h with ⟨w',h1,h2⟩|⟨l,h1,_⟩
  · cases h1;exact .inl ⟨w,rfl,h2⟩
  · cases h1
 |inl v=>
  rw[ha] at h
  rcases h with ⟨w',h1,h2⟩|⟨l,h1,_,hT,hQ⟩
  · cases h1
  · cases h1;exact .inr ⟨v,rfl,hT v List.mem_cons_self,hQ⟩
theorem qZ (m:Int){q:Sc}(hs:SD q){op:Int}{a b:Tree}(hE:T .aG (aC op [a,b]))(hR:Rt (aC op [a,b]))(Pk:op≠14)(Oc:op≠15)(h16:op≠16):
 (∃w,Bn m q a=.inr w/\Bn m q (aC op [a,b])=.inr w)\/(∃v w,Bn m q a=.inl v/\Bn m q b=.inr w/\Bn m q (aC op [a,b])=.inr w)\/
 ∃v u,Bn m q a=.inl v/\Bn m q b=.inl u/\T .av v/\T .av u/\QO m (aC op [a,b]) [v,u] (Bn m q (aC op [a,b])):=by
 have h:=(Ge m hs hE hR).2.2.2.2 Pk Oc h16
 have h:EvO m (Bn m q) (aC op [a,b]) [a,b] _:=h
 unfold EvO iL at h
 cases ha:Bn m q a with
 |inr w=>
  rw[ha] at h
  rcases h with ⟨w',h1,h2⟩|⟨l,h1,_⟩
  · cases h1;exact .inl ⟨w,rfl,h2⟩
  · cases h1
 | inl v=>
  rw[ha] at h
  unfold iL at h
  cases hb:Bn m q b with
  |inr w=>
   rw[hb] at h
   rcases h with ⟨w',h1,h2⟩|⟨l,h1,_⟩
   · cases h1;exact .inr (.inl ⟨v,w,rfl,rfl,h2⟩)
   · cases h1
  |inl u=>
   rw[hb] at h
   rcases h with ⟨w',h1,h2⟩|⟨l,h1,_,hT,hQ⟩
   · cases h1
   · cases h1;exact .inr (.inr ⟨v,u,rfl,rfl,hT v List.mem_cons_self,hT u (by simp),hQ⟩)
theorem Pd (m:Int){q:Sc}(hs:SD q){e:Tree}(hE:T .aG e)(hR:Rt e):Po (Bn m q e):=(Ge m hs hE hR).2.1
theorem Wt {m:Int}{x y z:Tree}(hx:T .aG x)(hy:T .bQ y)(hz:T .aQ z)(h:(k9 m x y z).2=0):El m x=0/\SG m y=0/\Wq m z=0/\Bn m (LN y z) x=.inl (k9 m x y z).1:=by
 unfold k9 at h ⊢;by_cases h1:El m x=0
 ·rw[ if_neg (by simpa using h1)] at h ⊢;by_cases h2:SG m y=0
  ·rw[if_neg (by simpa using h2)] at h ⊢;by_cases h3:Wq m z=0
   ·rw[if_neg (by simpa using h3)] at h ⊢;refine⟨h1,h2,h3, ?_⟩;have ht:=Pd m (Lb hy hz) hx (Ac m hx h1);cases hr:Bn m (LN y z) x with
    |inl v=>rfl
    |inr w=>rw[hr] at h ht;exact absurd h (ht.2 w rfl)
   ·rw[if_pos h3] at h;exact absurd h h3
  ·rw[if_pos h2] at h;exact absurd h h2
 ·rw[if_pos h1] at h;exact absurd h h1
theorem Pe {m:Int}{x y z:Tree}(h1:El m x=0)(h2:SG m y=0)(h3:Wq m z=0):k9 m x y z=agX (Bn m (LN y z) x):=by
 unfold k9;rw[if_neg (by simpa using h1),if_neg (by simpa using h2),if_neg (by simpa using h3)]
theorem Iy {m:Int}{x y z:Tree}(h1:El m x≠0):k9 m x y z=(zeroV,El m x):=by unfold k9;rw[if_pos h1]
theorem Wu (m:Int){y z:Tree}(h:¬(SG m y=0/\Wq m z=0)):∃w,w≠0/\∀x,El m x=0->k9 m x y z=(zeroV,w):=by
 by_cases h2:SG m y=0
 ·have h3:Wq m z≠0:=λh3=>h ⟨h2,h3⟩
  exact⟨_,h3,λx h1=>by unfold k9;rw[if_neg (by simpa using h1),if_neg (by simpa using h2),if_pos h3]⟩
 ·exact⟨_,h2,λx h1=>by unfold k9;rw[if_neg (by simpa using h1),if_pos h2]⟩
theorem p8 {w:Int}(v:Tree)(h:w≠0):ov (v,w)=(false,w):=by
 show cond (w != 0) _ _=_;rw[bne_iff_ne.mpr h];rfl
theorem En (b:Bool):ov (agX (.inl (boolT b)))=(b,0):=rfl
theorem adM (a b:Int):IntKind.wrap .i64 (a+IntKind.wrap .i64 (0 - b))=IntKind.wrap .i64 (a - b):=by
 simp only[IntKind.wrap,IntKind.bits,IntKind.signed];first|omega|(simp;omega)|(split<;>split<;>omega)
theorem ag0 (m:Int){a b y z:Tree}(ha:T .aG a)(hb:T .aG b)(hy:T .bQ y)(hz:T .aQ z)(h1:(k9 m (aC 25 [a,b]) y z).2=0)(h2:(k9 m (aC 24 [a,aC 13 [b]]) y z).2=0):
 ∃n,(k9 m (aC 25 [a,b]) y z).1=nt n/\(k9 m (aC 24 [a,aC 13 [b]]) y z).1=nt n:=by
 have hs:=Lb hy hz
 have t1:=cz (op:=25) (by decide) ha hb
 have t3:=adJ (op:=13) (by decide) hb
 have t2:=cz (op:=24) (by decide) ha t3
 obtain⟨c1,_,_,e1⟩:=Wt t1 hy hz h1
 obtain⟨c2,_,_,e2⟩:=Wt t2 hy hz h2
 have r1:=Ac m t1 c1
 have r2:=Ac m t2 c2
 have r3:Rt (aC 13 [b]):=Ek r2 _ (by simp[iD,aC])
 rcases qZ m hs t1 r1 (by decide) (by decide) (by decide) with ⟨w,_,h⟩|⟨v,w,_,_,h⟩|⟨v,u,va,ub,_,_,hq⟩
 ·rw[e1] at h;cases h
 ·rw[e1] at h;cases h
 rcases qZ m hs t2 r2 (by decide) (by decide) (by decide) with ⟨w,_,h⟩|⟨_,w,_,_,h⟩|⟨v',u',va',ub',_,_,hq'⟩
 ·rw[e2] at h;cases h
 ·rw[e2] at h;cases h
 rcases agZ m hs t3 r3 (by decide) (by decide) (by decide) with ⟨w,h,_⟩|⟨u2,ub2,_,hq2⟩
 ·rw[ub] at h;cases h
 rw[va] at va'
 cases va'
 rw[ub] at ub2
 cases ub2
 obtain⟨_,k2⟩:=hq2.2.2.1 rfl u' ub'
 obtain⟨_,_,k1⟩:=hq.2.2.2.2.2.2 rfl _ e1
 obtain⟨_,_,k3⟩:=hq'.2.2.2.2.2.1 rfl _ e2
 refine⟨_,k1, ?_⟩
 rw[k3,k2]
 exact congrArg nt (adM (Cm v) (Cm u))
theorem ag1 (m:Int){op op2:Int}{a b:Tree}(ha:T .aG a)(hb:T .aG b)(hba:bulk a<=1073741824)(hbb:bulk b<=1073741824)(h0:0<=op)(h02:0<=op2)(h1:p7 op [a,b])(h2:p7 op2 [b,a]):El m (aC op [a,b])=0↔El m (aC op2 [b,a])=0:=by
 obtain⟨n,d1,d2⟩:=adL m ha hb;rw[Ws m (cz h0 ha hb) (dx2 d1 d2) (by rw[ah5];omega),Ws m (cz h02 hb ha) (dx2 d2 d1) (by rw[ah5];omega),ok2 h1,ok2 h2,aoP,aoP,cnt2,cnt2];constructor<;>(rintro ⟨⟨x,y⟩,z,t⟩;exact⟨⟨y,x⟩,by omega,by omega⟩)
theorem ag2 (m:Int){op op2:Int}{a b:Tree}(ha:T .aG a)(hb:T .aG b)(h0:0<=op)(h02:0<=op2)(h1:p7 op [a,b])(h2:p7 op2 [a,b]):El m (aC op [a,b])=El m (aC op2 [a,b]):=by
 obtain⟨n,d1,d2⟩:=adL m ha hb;rw[UT m (cz h0 ha hb) (dx2 d1 d2),UT m (cz h02 ha hb) (dx2 d1 d2)];show E7 (yJ _ _ _)=E7 (yJ _ _ _);unfold yJ;rw[F2 h1,F2 h2];rfl
theorem ot2 {op:Int}{a b:Tree}(h:op∈[(15:Int),16,17,18,19,20,24,25]):p7 op [a,b]:=by
 simp only[List.mem_cons,List.not_mem_nil,or_false] at h;rcases h with rfl|rfl|rfl|rfl|rfl|rfl|rfl|rfl<;>simp[p7]
theorem Yl (a b:Int):decide (yM a b<0)= !(decide (yM b a<=0)):=by
 unfold yM;by_cases h1:a<b
 ·rw[if_pos h1,if_neg (by omega),if_pos (by omega)];rfl
 ·by_cases h2:a>b
  ·rw[if_neg h1,if_pos h2,if_pos (by omega)];rfl
  ·rw[if_neg h1,if_neg h2,if_neg (by omega),if_neg (by omega)];rfl
theorem Gf (m:Int){a b y z:Tree}(ha:T .aG a)(hb:T .aG b)(hba:bulk a<=1073741824)(hbb:bulk b<=1073741824)(hy:T .bQ y)(hz:T .aQ z):
 ((ov (k9 m (aC 19 [a,b]) y z)).2≠0/\(ov (k9 m (aC 20 [b,a]) y z)).2≠0)\/∃c,ov (k9 m (aC 19 [a,b]) y z)=(c,0)/\ov (k9 m (aC 20 [b,a]) y z)=(!c,0):=by
 have hs:=Lb hy hz
 have t1:=cz (op:=19) (by decide) ha hb
 have t2:=cz (op:=20) (by decide) hb ha
 have sw:=ag1 m ha hb hba hbb (by decide) (by decide) (ot2 (op:=19) (a:=a) (b:=b) (by decide)) (ot2 (op:=20) (a:=b) (b:=a) (by decide))
 by_cases c1:El m (aC 19 [a,b])=0
 ·have c2 :=sw.1 c1;by_cases hS:SG m y=0/\Wq m z=0
  ·rw[ Pe c1 hS.1 hS.2,Pe c2 hS.1 hS.2];have r1:=Ac m t1 c1;have r2:=Ac m t2 c2;have y1:=Pd m hs t1 r1;have y2:=Pd m hs t2 r2;have er:∀{r:Tree ⊕ Int} {w:Int},Po r->r=.inr w->(ov (agX r)).2≠0:=λht h=>by
    subst h;show(ov (zeroV,_)).2≠0;rw[p8 _ (ht.2 _ rfl)];exact ht.2 _ rfl
   rcases qZ m hs t1 r1 (by decide) (by decide) (by decide) with ⟨w,h,h'⟩|⟨v,w,hv,h,h'⟩|⟨v,u,va,ub,tv,tu,hq⟩
   ·rcases qZ m hs t2 r2 (by decide) (by decide) (by decide) with ⟨w2,_,g'⟩|⟨_,w2,_,_,g'⟩|⟨_,_,_,g,_⟩
    ·exact .inl ⟨er y1 h',er y2 g'⟩
    ·exact .inl ⟨er y1 h',er y2 g'⟩
    ·rw[h] at g;cases g
   ·rcases qZ m hs t2 r2 (by decide) (by decide) (by decide) with ⟨w2,_,g'⟩|⟨_,w2,_,_,g'⟩|⟨_,_,g,_⟩
    ·exact .inl ⟨er y1 h',er y2 g'⟩
    ·exact .inl ⟨er y1 h',er y2 g'⟩
    ·rw[h] at g;cases g
   ·rcases qZ m hs t2 r2 (by decide) (by decide) (by decide) with ⟨w2,g,_⟩|⟨_,w2,_,g,_⟩|⟨u',v',ub',va',_,_,hq'⟩
    ·rw[ub] at g;cases g
    ·rw[va] at g;cases g
    rw[va] at va';cases va';rw[ub] at ub';cases ub';have e1:=hq.2.2.2.2.1 (show(19:Int)<=19 by decide) (show(19:Int)<=22 by decide);have e2:=hq'.2.2.2.2.1 (show(19:Int)<=20 by decide) (show(20:Int)<=22 by decide);have e1:Bn m (LN y z) (aC 19 [a,b])=nT m 19 v u:=e1;have e2:Bn m (LN y z) (aC 20 [b,a])=nT m 20 u v:=e2;rw[e1,e2];rw[e1] at y1;rw[e2] at y2;unfold nT at*;cases hv:jh v==1 with
    | false=>
      rw[hv] at y1 y2
      refine .inl ⟨er (w:=7) y1 rfl, ?_⟩
      cases hu:jh u==1<;>(rw[hu] at y2;exact er (w:=7) y2 rfl)
    | true=>
      cases hu:jh u==1 with
      | false=>
        rw[hu,hv] at y1
        rw[hu] at y2
        exact .inl ⟨er (w:=7) y1 rfl,er (w:=7) y2 rfl⟩
      | true=>
        refine .inr ⟨decide (Cn m v u<0),En _, ?_⟩
        refine(En (decide (Cn m u v<=0))).trans ?_
        rw[RG m tv tu (eq_of_beq hv) (eq_of_beq hu),RG m tu tv (eq_of_beq hu) (eq_of_beq hv),Yl,Bool.not_not]
  ·obtain⟨w,hw,h⟩:=Wu m hS;rw[h _ c1,h _ c2,p8 _ hw];exact .inl ⟨hw,hw⟩
 ·have c2:El m (aC 20 [b,a])≠0:=λh=>c1 (sw.2 h)
  rw[Iy c1,Iy c2,p8 _ c1,p8 _ c2];exact .inl ⟨c1,c2⟩
theorem tj (m:Int){a b y z:Tree}(ha:T .aG a)(hb:T .aG b)(hy:T .bQ y)(hz:T .aQ z):
 (∃w,w≠0/\ov (k9 m (aC 17 [a,b]) y z)=(false,w)/\ov (k9 m (aC 18 [a,b]) y z)=(false,w))\/∃c,ov (k9 m (aC 17 [a,b]) y z)=(c,0)/\ov (k9 m (aC 18 [a,b]) y z)=(!c,0):=by
 have hs:=Lb hy hz
 have t1:=cz (op:=17) (by decide) ha hb
 have t2:=cz (op:=18) (by decide) ha hb
 have sw:=ag2 m ha hb (by decide) (by decide) (ot2 (op:=17) (a:=a) (b:=b) (by decide)) (ot2 (op:=18) (a:=a) (b:=b) (by decide))
 by_cases c1:El m (aC 17 [a,b])=0
 ·have c2:=sw▸c1;by_cases hS:SG m y=0/\Wq m z=0
  ·rw[ Pe c1 hS.1 hS.2,Pe c2 hS.1 hS.2];have r1:=Ac m t1 c1;have r2:=Ac m t2 c2;have y1:=Pd m hs t1 r1;rcases qZ m hs t1 r1 (by decide) (by decide) (by decide) with ⟨w,h,h'⟩|⟨v,w,hv,h,h'⟩|⟨v,u,va,ub,tv,tu,hq⟩
   ·rcases qZ m hs t2 r2 (by decide) (by decide) (by decide) with ⟨w2,g,g'⟩|⟨_,w2,g,_,g'⟩|⟨_,_,g,_⟩
    ·rw[h] at g;cases g;have hw:=y1.2 w h';rw[h',g'];exact .inl ⟨w,hw,p8 _ hw,p8 _ hw⟩
    ·rw[h] at g;cases g
    ·rw[h] at g;cases g
   ·rcases qZ m hs t2 r2 (by decide) (by decide) (by decide) with ⟨w2,g,g'⟩|⟨_,w2,_,g,g'⟩|⟨_,_,_,g,_⟩
    ·rw[hv] at g;cases g
    ·rw[h] at g;cases g;have hw:=y1.2 w h';rw[h',g'];exact .inl ⟨w,hw,p8 _ hw,p8 _ hw⟩
    ·rw[h] at g;cases g
   ·rcases qZ m hs t2 r2 (by decide) (by decide) (by decide) with ⟨w2,g,_⟩|⟨_,w2,_,g,_⟩|⟨v',u',va',ub',_,_,hq'⟩
    ·rw[va] at g;cases g
    ·rw[ub] at g;cases g
    rw[va] at va';cases va';rw[ub] at ub';cases ub';have e1:Bn m (LN y z) (aC 17 [a,b])=eqS 17 (Cn m v u):=hq.2.2.2.1 (.inl rfl);have e2:Bn m (LN y z) (aC 18 [a,b])=eqS 18 (Cn m v u):=hq'.2.2.2.1 (.inr rfl);rw[e1,e2];refine .inr ⟨((Cn m v u==0)==((17:Int)==17)),En _, ?_⟩;refine(En _).trans ?_;cases Cn m v u==0<;>rfl
  ·obtain⟨w,hw,h⟩:=Wu m hS;rw[h _ c1,h _ c2,p8 _ hw];exact .inl ⟨w,hw,rfl,rfl⟩
 ·have c2:El m (aC 18 [a,b])≠0:=sw▸c1;rw[Iy c1,Iy c2,p8 _ c1,p8 _ c2,← sw];exact .inl ⟨_,c1,rfl,rfl⟩
end
end Go.Proofs.YtfdnciimclnncaaGreatDoor.w.e
namespace Go.Proofs.YtfdnciimclnncaaGreatDoor.w.e
open Go Go.Abs
set_option maxRecDepth 100000
set_option maxHeartbeats 2000000
noncomputable section
open Go.Abs.Ty
def iOf:Tree->Int
 |.int _ k=>k
 |_=>0
def rB (z:Bool×Int):Option bh:=some (.ret (.t (.bU [.bool z.1,.int .i64 z.2])) [] [])
theorem l7 (c:Bool):(!(c==(!c)))=true:=by cases c<;>rfl
theorem Ym {a b:Int}(h:a≠0)(g:b≠0):(!((a==0)==(b==0)))=false:=by rw[beq_false_of_ne h,beq_false_of_ne g];rfl
theorem neI {a b:Int}(h:b=a):(a != b)=false:=bne_eq_false_iff_eq.mpr h.symm
theorem akU (m k:Int)(a b:Tree)(ha:T .aG a)(hb:T .aG b):ai (cf m) 14 [.t (.int .u8 k),.t a,.t b] [] (.ret (.t (aC k [a,b])) [] []):=by
 obtain⟨ev,aK⟩:∃ev,aD (cf m) ev:=⟨_,aF⟩;refine ai.gO ?_;have bw:=ha;obtain⟨bX,n_1,s_1,dH,aU,bN,rfl,cL,cF,fQ,dX,fk,eR,jq⟩:=T.bE bw;have dB:=hb;obtain⟨Yk,n_2,s_2,iY,b8,Gb,rfl,gx,kD,tX,rX,tY,qN,Ow⟩:=T.bE dB;refine AX.start 12 3 Tryz.func14 rfl (by decide) rfl rfl (by decide) ?_;refine AX.frames ?_;exact⟨(),kf ah []⟩
theorem Yn (m:Int)(a b:Int)(h:b=a):ai (cf m) 13 [.t (nt a),.t (nt b)] [] (.ret (.t (.bool true)) [] []):=by
 have hab:(a != b)=false:=neI h;obtain⟨ev,aK⟩:∃ev,aD (cf m) ev:=⟨_,aF⟩;refine ai.gO ?_;refine AX.start 95 2 Tryz.func13 rfl (by decide) rfl rfl (by decide) ?_;refine AX.frames ?_;exact⟨(),qH ah 0 [4,10] (rq 12 oF (rq 6 (oB hab) (rq 25 oF ([]))))⟩
theorem UU (m:Int)(hlv:R0 (cf m) 7 (.bool true))(a b y z:Tree)(ha:T .aG a)(hb:T .aG b)(hba:bulk a<=1073741824)(hbb:bulk b<=1073741824)(hy:T .bQ y)(hz:T .aQ z):ai (cf m) 4 [.t a,.t b,.t y,.t z] [] (.ret (.t (.bool true)) [] []):=by
 obtain⟨ev,aK,HK,jZ,Pc,akV,l8⟩:∃ev,aD (cf m) ev/\Has ev 7 (pc0 (.bool true))/\Has ev 14 (pc3 (λo a b=>(∃k,o=.int .u8 k)/\T .aG a/\T .aG b) (λo a b=>aC (iOf o) [a,b]))/\Has ev 11 (pc3 (λx y z=>T .aG x/\T .bQ y/\T .aQ z) (λx y z=>.bU [(k9 m x y z).1,.int .i64 (k9 m x y z).2]))/\Has ev 13 (rM (λx y=>∃n,x=nt n/\y=nt n) (λ_ _=>.bool true))/\Has ev 10 (pc3 (λx y z=>T .aG x/\T .bQ y/\T .aQ z) (λx y z=>.bU [.bool (ov (k9 m x y z)).1,.int .i64 (ov (k9 m x y z)).2])):=⟨_,(aq ((aiw hlv)) (aq ((Fc λo a b h=>by obtain⟨⟨k,rfl⟩,h2,h3⟩:=h;exact akU m k a b h2 h3)) (aq ((Fc (λx y z h=>(Em m h.1 h.2.1 h.2.2).1))) (aq ((dA λx y h=>by obtain⟨n,rfl,rfl⟩:=h;exact Yn m n n rfl)) (aq ((Fc (λx y z h=>by obtain⟨⟨r,hr⟩,h2⟩:=adI m x y z h.1 h.2.1 h.2.2;subst hr;exact h2))) aF))))),au,(az rfl au),(az rfl (az rfl au)),(az rfl (az rfl (az rfl au))),(az rfl (az rfl (az rfl (az rfl au))))⟩;refine ai.gO ?_;have bw:=ha;obtain⟨bX,n_1,s_1,dH,aU,bN,rfl,cL,cF,fQ,dX,fk,eR,jq⟩:=T.bE bw;have dB:=hb;obtain⟨Yk,n_2,s_2,iY,b8,Gb,rfl,gx,kD,tX,rX,tY,qN,Ow⟩:=T.bE dB;have jd:=hy;obtain⟨Gg,Lc,LO,Sk,HM,LP,Ld,Sl,Sm,Sn,Sq,HN,Le,rfl,r9,sg,uw,ux,uy,uz,arc,ard,arf,arh,apT,apU⟩:=T.mG jd;have mI:=hz;obtain⟨Yv,rfl,qM,rU⟩:=T.fD mI;let A:Tree:=(bf bX n_1 s_1 dH aU bN);have hA:T .aG A:=bw;let B:Tree:=(bf Yk n_2 s_2 iY b8 Gb);have hB:T .aG B:=dB;let Q:Tree:=(qg Gg Lc LO Sk HM LP Ld Sl Sm Sn Sq HN Le);have hQ:T .bQ Q:=jd;let L:Tree:=.sl Yv;have hL:T .aQ L:=mI;refine AX.start 126 4 Tryz.func4 rfl (by decide) rfl rfl (by decide) ?_;refine AX.frames ?_;have c5:=fG jZ (x:=.int .u8 25) (y:=A) (z:=B) ⟨⟨_,rfl⟩,hA,hB⟩;have tc5:T .aG (aC 25 [A,B]):=cz (by decide) hA hB;obtain⟨g_6,Yt,akW,ari⟩:∃g w,k9 m (aC 25 [A,B]) Q L=(g,w)/\T .av g:=⟨_,_,rfl,(Em m tc5 hQ hL).2⟩;have AP:=ari;obtain⟨sx,HG,M1,M3,HH,nF,sy,rfl,TQ,acQ,acR,acS,acT,acU⟩:=T.aB AP;have Yy:ev 11 [.t (aC 25 [A,B]),.t Q,.t L] []=some (bh.ret (.t (.bU [(aA sx HG M1 M3 HH nF sy),.int .i64 Yt])) [] []):=(fG Pc (x:=(aC 25 [A,B])) (y:=Q) (z:=L) ⟨tc5,hQ,hL⟩).trans (congrArg (λz:Tree×Int=>some (bh.ret (.t (.bU [z.1,.int .i64 z.2])) [] [])) akW);have c8:=fG jZ (x:=.int .u8 24) (y:=A) (z:=(aC 13 [B])) ⟨⟨_,rfl⟩,hA,(.aG _ _ _ _ _ _ (by first|assumption|omega|decide) cc cc cc (by simp) cc (bD hB (λ_ h=>absurd h (by simp))))⟩;have tc8:T .aG (aC 24 [A,(aC 13 [B])]):=cz (by decide) hA (.aG _ _ _ _ _ _ (by first|assumption|omega|decide) cc cc cc (by simp) cc (bD hB (λ_ h=>absurd h (by simp))));obtain⟨g_9,w_9,akX,arj⟩:∃g w,k9 m (aC 24 [A,(aC 13 [B])]) Q L=(g,w)/\T .av g:=⟨_,_,rfl,(Em m tc8 hQ hL).2⟩;have vA:=arj;obtain⟨AI,MK,XX,XY,ML,xd,AJ,rfl,DG,Ig,Ih,Ii,Ij,Ik⟩:=T.aB vA;have Yz:ev 11 [.t (aC 24 [A,(aC 13 [B])]),.t Q,.t L] []=some (bh.ret (.t (.bU [(aA AI MK XX XY ML xd AJ),.int .i64 w_9])) [] []):=(fG Pc (x:=(aC 24 [A,(aC 13 [B])])) (y:=Q) (z:=L) ⟨tc8,hQ,hL⟩).trans (congrArg (λz:Tree×Int=>some (bh.ret (.t (.bU [z.1,.int .i64 z.2])) [] [])) akX);rcases aM ((Yt==0)) with eA|eA
 ·have RF:=eq_of_beq eA;rcases aM ((w_9==0)) with cE|cE
  ·have KC:=eq_of_beq cE;have ark:∃n,(aA sx HG M1 M3 HH nF sy)=nt n/\(aA AI MK XX XY ML xd AJ)=nt n:=by
    have h:=ag0 m hA hB hQ hL (by rw[akW];exact eq_of_beq eA) (by rw[akX];exact eq_of_beq cE);rw[akW,akX] at h;exact h
   have c13:=eL akV (x:=(aA sx HG M1 M3 HH nF sy)) (y:=(aA AI MK XX XY ML xd AJ)) ark;have c14:=fG jZ (x:=.int .u8 19) (y:=A) (z:=B) ⟨⟨_,rfl⟩,hA,hB⟩;have aoQ:T .aG (aC 19 [A,B]):=cz (by decide) hA hB;rcases Gf m hA hB hba hbb hQ hL with ⟨sG,hl2⟩|⟨d3,sG,hl2⟩
   ·obtain⟨p3,w3,Sy⟩:∃p w,ov (k9 m (aC 19 [A,B]) Q L)=(p,w):=⟨_,_,rfl⟩;rw[Sy] at sG;replace sG:w3≠0:=sG;have c15:ev 10 [.t (aC 19 [A,B]),.t Q,.t L] []=some (bh.ret (.t (.bU [.bool p3,.int .i64 w3])) [] []):=(fG l8 (x:=(aC 19 [A,B])) (y:=Q) (z:=L) ⟨aoQ,hQ,hL⟩).trans (congrArg rB (show ov (k9 m (aC 19 [A,B]) Q L)=(p3,w3) from Sy));have c17:=fG jZ (x:=.int .u8 20) (y:=B) (z:=A) ⟨⟨_,rfl⟩,hB,hA⟩;have arl:T .aG (aC 20 [B,A]):=cz (by decide) hB hA;obtain⟨p4,w4,hp4⟩:∃p w,ov (k9 m (aC 20 [B,A]) Q L)=(p,w):=⟨_,_,rfl⟩;rw[hp4] at hl2;replace hl2:w4≠0:=hl2;have c18:ev 10 [.t (aC 20 [B,A]),.t Q,.t L] []=some (bh.ret (.t (.bU [.bool p4,.int .i64 w4])) [] []):=(fG l8 (x:=(aC 20 [B,A])) (y:=Q) (z:=L) ⟨arl,hQ,hL⟩).trans (congrArg rB (show ov (k9 m (aC 20 [B,A]) Q L)=(p4,w4) from hp4));have c19:=fG jZ (x:=.int .u8 17) (y:=A) (z:=B) ⟨⟨_,rfl⟩,hA,hB⟩;have aoR:T .aG (aC 17 [A,B]):=cz (by decide) hA hB;rcases tj m hA hB hQ hL with ⟨w5,Eo,lS,jB⟩|⟨d5,lS,jB⟩
    ·have c20:ev 10 [.t (aC 17 [A,B]),.t Q,.t L] []=some (bh.ret (.t (.bU [.bool false,.int .i64 w5])) [] []):=(fG l8 (x:=(aC 17 [A,B])) (y:=Q) (z:=L) ⟨aoR,hQ,hL⟩).trans (congrArg rB (show ov (k9 m (aC 17 [A,B]) Q L)=(false,w5) from lS));have c22:=fG jZ (x:=.int .u8 18) (y:=A) (z:=B) ⟨⟨_,rfl⟩,hA,hB⟩;have arn:T .aG (aC 18 [A,B]):=cz (by decide) hA hB;obtain⟨w6,Sr⟩:∃k,k=w5:=⟨_,rfl⟩;have c23:ev 10 [.t (aC 18 [A,B]),.t Q,.t L] []=some (bh.ret (.t (.bU [.bool false,.int .i64 w6])) [] []):=(fG l8 (x:=(aC 18 [A,B])) (y:=Q) (z:=L) ⟨arn,hQ,hL⟩).trans (congrArg rB (show ov (k9 m (aC 18 [A,B]) Q L)=(false,w6) from(by rw[Sr];exact jB)));exact⟨(),kf ah ([oC (Hv HK),oF,oC c5,oC Yy,oC c8,oC Yz,oB eA,oB eA,oB eA,oB cE,oB cE,oB cE,oC c13,oB cE,oB cE,oF,oC c14,oC c15,oC c17,oC c18,oC c19,oC c20,oC c22,oC c23]++rq 4 (oB (Ym sG hl2)) ([oB (neI Sr)]++rq 4 (oB (bne_iff_ne.mpr sG)) ([oT,oT,oT,oB (bne_iff_ne.mpr Eo),oB (bne_iff_ne.mpr Eo),oB (bne_iff_ne.mpr Eo),oT,oB (bne_iff_ne.mpr Eo),oT])))⟩
    ·have c21:ev 10 [.t (aC 17 [A,B]),.t Q,.t L] []=some (bh.ret (.t (.bU [.bool d5,.int .i64 0])) [] []):=(fG l8 (x:=(aC 17 [A,B])) (y:=Q) (z:=L) ⟨aoR,hQ,hL⟩).trans (congrArg rB (show ov (k9 m (aC 17 [A,B]) Q L)=(d5,0) from lS));have c24:=fG jZ (x:=.int .u8 18) (y:=A) (z:=B) ⟨⟨_,rfl⟩,hA,hB⟩;have aro:T .aG (aC 18 [A,B]):=cz (by decide) hA hB;have c25:ev 10 [.t (aC 18 [A,B]),.t Q,.t L] []=some (bh.ret (.t (.bU [.bool (!d5),.int .i64 0])) [] []):=(fG l8 (x:=(aC 18 [A,B])) (y:=Q) (z:=L) ⟨aro,hQ,hL⟩).trans (congrArg rB (show ov (k9 m (aC 18 [A,B]) Q L)=(!d5,0) from jB));have hs:(!(d5==(!d5)))=true:=(l7 d5);exact⟨(),cast (congrArg (λz=>KE (cf m) (q8 (cf m) _ 0 (.ret (.t (.bool z)) [] [])) _ _ _) hs) (kf ah ([oC (Hv HK),oF,oC c5,oC Yy,oC c8,oC Yz,oB eA,oB eA,oB eA,oB cE,oB cE,oB cE,oC c13,oB cE,oB cE,oF,oC c14,oC c15,oC c17,oC c18,oC c19,oC c21,oC c24,oC c25]++rq 4 (oB (Ym sG hl2)) ([oF]++rq 4 (oB (bne_iff_ne.mpr sG)) ([oT,oT,oT,oF,oF,oF,oT,oF,oT]))))⟩
   ·have c16:ev 10 [.t (aC 19 [A,B]),.t Q,.t L] []=some (bh.ret (.t (.bU [.bool d3,.int .i64 0])) [] []):=(fG l8 (x:=(aC 19 [A,B])) (y:=Q) (z:=L) ⟨aoQ,hQ,hL⟩).trans (congrArg rB (show ov (k9 m (aC 19 [A,B]) Q L)=(d3,0) from sG));have c26:=fG jZ (x:=.int .u8 20) (y:=B) (z:=A) ⟨⟨_,rfl⟩,hB,hA⟩;have arp:T .aG (aC 20 [B,A]):=cz (by decide) hB hA;have c27:ev 10 [.t (aC 20 [B,A]),.t Q,.t L] []=some (bh.ret (.t (.bU [.bool (!d3),.int .i64 0])) [] []):=(fG l8 (x:=(aC 20 [B,A])) (y:=Q) (z:=L) ⟨arp,hQ,hL⟩).trans (congrArg rB (show ov (k9 m (aC 20 [B,A]) Q L)=(!d3,0) from hl2));have c28:=fG jZ (x:=.int .u8 17) (y:=A) (z:=B) ⟨⟨_,rfl⟩,hA,hB⟩;have aoS:T .aG (aC 17 [A,B]):=cz (by decide) hA hB;rcases tj m hA hB hQ hL with ⟨w5,Eo,lS,jB⟩|⟨d5,lS,jB⟩
    ·have c29:ev 10 [.t (aC 17 [A,B]),.t Q,.t L] []=some (bh.ret (.t (.bU [.bool false,.int .i64 w5])) [] []):=(fG l8 (x:=(aC 17 [A,B])) (y:=Q) (z:=L) ⟨aoS,hQ,hL⟩).trans (congrArg rB (show ov (k9 m (aC 17 [A,B]) Q L)=(false,w5) from lS));have c31:=fG jZ (x:=.int .u8 18) (y:=A) (z:=B) ⟨⟨_,rfl⟩,hA,hB⟩;have arq:T .aG (aC 18 [A,B]):=cz (by decide) hA hB;obtain⟨w6,Sr⟩:∃k,k=w5:=⟨_,rfl⟩;have c32:ev 10 [.t (aC 18 [A,B]),.t Q,.t L] []=some (bh.ret (.t (.bU [.bool false,.int .i64 w6])) [] []):=(fG l8 (x:=(aC 18 [A,B])) (y:=Q) (z:=L) ⟨arq,hQ,hL⟩).trans (congrArg rB (show ov (k9 m (aC 18 [A,B]) Q L)=(false,w6) from(by rw[Sr];exact jB)));exact⟨(),kf ah ([oC (Hv HK),oF,oC c5,oC Yy,oC c8,oC Yz,oB eA,oB eA,oB eA,oB cE,oB cE,oB cE,oC c13,oB cE,oB cE,oF,oC c14,oC c16,oC c26,oC c27,oC c28,oC c29,oC c31,oC c32]++rq 4 oF ([oB (neI Sr)]++rq 4 oF ([oB (l7 d3),oB (l7 d3),oB (l7 d3),oB (bne_iff_ne.mpr Eo),oB (bne_iff_ne.mpr Eo),oB (bne_iff_ne.mpr Eo),oB (l7 d3),oB (bne_iff_ne.mpr Eo),oB (l7 d3)])))⟩
    ·have c30:ev 10 [.t (aC 17 [A,B]),.t Q,.t L] []=some (bh.ret (.t (.bU [.bool d5,.int .i64 0])) [] []):=(fG l8 (x:=(aC 17 [A,B])) (y:=Q) (z:=L) ⟨aoS,hQ,hL⟩).trans (congrArg rB (show ov (k9 m (aC 17 [A,B]) Q L)=(d5,0) from lS));have c33:=fG jZ (x:=.int .u8 18) (y:=A) (z:=B) ⟨⟨_,rfl⟩,hA,hB⟩;have ars:T .aG (aC 18 [A,B]):=cz (by decide) hA hB;have c34:ev 10 [.t (aC 18 [A,B]),.t Q,.t L] []=some (bh.ret (.t (.bU [.bool (!d5),.int .i64 0])) [] []):=(fG l8 (x:=(aC 18 [A,B])) (y:=Q) (z:=L) ⟨ars,hQ,hL⟩).trans (congrArg rB (show ov (k9 m (aC 18 [A,B]) Q L)=(!d5,0) from jB));have hs:(!(d5==(!d5)))=true:=(l7 d5);exact⟨(),cast (congrArg (λz=>KE (cf m) (q8 (cf m) _ 0 (.ret (.t (.bool z)) [] [])) _ _ _) hs) (kf ah ([oC (Hv HK),oF,oC c5,oC Yy,oC c8,oC Yz,oB eA,oB eA,oB eA,oB cE,oB cE,oB cE,oC c13,oB cE,oB cE,oF,oC c14,oC c16,oC c26,oC c27,oC c28,oC c30,oC c33,oC c34]++rq 9 oF ([oB (l7 d3),oB (l7 d3),oB (l7 d3),oF,oF,oF,oB (l7 d3),oF,oB (l7 d3)])))⟩
  ·have KC:=ne_of_beq_false cE;have c35:=fG jZ (x:=.int .u8 19) (y:=A) (z:=B) ⟨⟨_,rfl⟩,hA,hB⟩;have aoT:T .aG (aC 19 [A,B]):=cz (by decide) hA hB;rcases Gf m hA hB hba hbb hQ hL with ⟨sG,hl2⟩|⟨d3,sG,hl2⟩
   ·obtain⟨p3,w3,Sy⟩:∃p w,ov (k9 m (aC 19 [A,B]) Q L)=(p,w):=⟨_,_,rfl⟩;rw[Sy] at sG;replace sG:w3≠0:=sG;have c36:ev 10 [.t (aC 19 [A,B]),.t Q,.t L] []=some (bh.ret (.t (.bU [.bool p3,.int .i64 w3])) [] []):=(fG l8 (x:=(aC 19 [A,B])) (y:=Q) (z:=L) ⟨aoT,hQ,hL⟩).trans (congrArg rB (show ov (k9 m (aC 19 [A,B]) Q L)=(p3,w3) from Sy));have c38:=fG jZ (x:=.int .u8 20) (y:=B) (z:=A) ⟨⟨_,rfl⟩,hB,hA⟩;have art:T .aG (aC 20 [B,A]):=cz (by decide) hB hA;obtain⟨p4,w4,hp4⟩:∃p w,ov (k9 m (aC 20 [B,A]) Q L)=(p,w):=⟨_,_,rfl⟩;rw[hp4] at hl2;replace hl2:w4≠0:=hl2;have c39:ev 10 [.t (aC 20 [B,A]),.t Q,.t L] []=some (bh.ret (.t (.bU [.bool p4,.int .i64 w4])) [] []):=(fG l8 (x:=(aC 20 [B,A])) (y:=Q) (z:=L) ⟨art,hQ,hL⟩).trans (congrArg rB (show ov (k9 m (aC 20 [B,A]) Q L)=(p4,w4) from hp4));have c40:=fG jZ (x:=.int .u8 17) (y:=A) (z:=B) ⟨⟨_,rfl⟩,hA,hB⟩;have aoU:T .aG (aC 17 [A,B]):=cz (by decide) hA hB;rcases tj m hA hB hQ hL with ⟨w5,Eo,lS,jB⟩|⟨d5,lS,jB⟩
    ·have c41:ev 10 [.t (aC 17 [A,B]),.t Q,.t L] []=some (bh.ret (.t (.bU [.bool false,.int .i64 w5])) [] []):=(fG l8 (x:=(aC 17 [A,B])) (y:=Q) (z:=L) ⟨aoU,hQ,hL⟩).trans (congrArg rB (show ov (k9 m (aC 17 [A,B]) Q L)=(false,w5) from lS));have c43:=fG jZ (x:=.int .u8 18) (y:=A) (z:=B) ⟨⟨_,rfl⟩,hA,hB⟩;have aru:T .aG (aC 18 [A,B]):=cz (by decide) hA hB;obtain⟨w6,Sr⟩:∃k,k=w5:=⟨_,rfl⟩;have c44:ev 10 [.t (aC 18 [A,B]),.t Q,.t L] []=some (bh.ret (.t (.bU [.bool false,.int .i64 w6])) [] []):=(fG l8 (x:=(aC 18 [A,B])) (y:=Q) (z:=L) ⟨aru,hQ,hL⟩).trans (congrArg rB (show ov (k9 m (aC 18 [A,B]) Q L)=(false,w6) from(by rw[Sr];exact jB)));exact⟨(),kf ah ([oC (Hv HK),oF,oC c5,oC Yy,oC c8,oC Yz,oB eA,oB eA,oB eA]++rq 5 (oB cE) ([oF,oC c35,oC c36,oC c38,oC c39,oC c40,oC c41,oC c43,oC c44]++rq 4 (oB (Ym sG hl2)) ([oB (neI Sr)]++rq 4 (oB (bne_iff_ne.mpr sG)) ([oT,oT,oT,oB (bne_iff_ne.mpr Eo),oB (bne_iff_ne.mpr Eo),oB (bne_iff_ne.mpr Eo),oT,oB (bne_iff_ne.mpr Eo),oT]))))⟩
    ·have c42:ev 10 [.t (aC 17 [A,B]),.t Q,.t L] []=some (bh.ret (.t (.bU [.bool d5,.int .i64 0])) [] []):=(fG l8 (x:=(aC 17 [A,B])) (y:=Q) (z:=L) ⟨aoU,hQ,hL⟩).trans (congrArg rB (show ov (k9 m (aC 17 [A,B]) Q L)=(d5,0) from lS));have c45:=fG jZ (x:=.int .u8 18) (y:=A) (z:=B) ⟨⟨_,rfl⟩,hA,hB⟩;have arv:T .aG (aC 18 [A,B]):=cz (by decide) hA hB;have c46:ev 10 [.t (aC 18 [A,B]),.t Q,.t L] []=some (bh.ret (.t (.bU [.bool (!d5),.int .i64 0])) [] []):=(fG l8 (x:=(aC 18 [A,B])) (y:=Q) (z:=L) ⟨arv,hQ,hL⟩).trans (congrArg rB (show ov (k9 m (aC 18 [A,B]) Q L)=(!d5,0) from jB));have hs:(!(d5==(!d5)))=true:=(l7 d5);exact⟨(),cast (congrArg (λz=>KE (cf m) (q8 (cf m) _ 0 (.ret (.t (.bool z)) [] [])) _ _ _) hs) (kf ah ([oC (Hv HK),oF,oC c5,oC Yy,oC c8,oC Yz,oB eA,oB eA,oB eA]++rq 5 (oB cE) ([oF,oC c35,oC c36,oC c38,oC c39,oC c40,oC c42,oC c45,oC c46]++rq 4 (oB (Ym sG hl2)) ([oF]++rq 4 (oB (bne_iff_ne.mpr sG)) ([oT,oT,oT,oF,oF,oF,oT,oF,oT])))))⟩
   ·have c37:ev 10 [.t (aC 19 [A,B]),.t Q,.t L] []=some (bh.ret (.t (.bU [.bool d3,.int .i64 0])) [] []):=(fG l8 (x:=(aC 19 [A,B])) (y:=Q) (z:=L) ⟨aoT,hQ,hL⟩).trans (congrArg rB (show ov (k9 m (aC 19 [A,B]) Q L)=(d3,0) from sG));have c47:=fG jZ (x:=.int .u8 20) (y:=B) (z:=A) ⟨⟨_,rfl⟩,hB,hA⟩;have arw:T .aG (aC 20 [B,A]):=cz (by decide) hB hA;have c48:ev 10 [.t (aC 20 [B,A]),.t Q,.t L] []=some (bh.ret (.t (.bU [.bool (!d3),.int .i64 0])) [] []):=(fG l8 (x:=(aC 20 [B,A])) (y:=Q) (z:=L) ⟨arw,hQ,hL⟩).trans (congrArg rB (show ov (k9 m (aC 20 [B,A]) Q L)=(!d3,0) from hl2));have c49:=fG jZ (x:=.int .u8 17) (y:=A) (z:=B) ⟨⟨_,rfl⟩,hA,hB⟩;have aoV:T .aG (aC 17 [A,B]):=cz (by decide) hA hB;rcases tj m hA hB hQ hL with ⟨w5,Eo,lS,jB⟩|⟨d5,lS,jB⟩
    ·have c50:ev 10 [.t (aC 17 [A,B]),.t Q,.t L] []=some (bh.ret (.t (.bU [.bool false,.int .i64 w5])) [] []):=(fG l8 (x:=(aC 17 [A,B])) (y:=Q) (z:=L) ⟨aoV,hQ,hL⟩).trans (congrArg rB (show ov (k9 m (aC 17 [A,B]) Q L)=(false,w5) from lS));have c52:=fG jZ (x:=.int .u8 18) (y:=A) (z:=B) ⟨⟨_,rfl⟩,hA,hB⟩;have arx:T .aG (aC 18 [A,B]):=cz (by decide) hA hB;obtain⟨w6,Sr⟩:∃k,k=w5:=⟨_,rfl⟩;have c53:ev 10 [.t (aC 18 [A,B]),.t Q,.t L] []=some (bh.ret (.t (.bU [.bool false,.int .i64 w6])) [] []):=(fG l8 (x:=(aC 18 [A,B])) (y:=Q) (z:=L) ⟨arx,hQ,hL⟩).trans (congrArg rB (show ov (k9 m (aC 18 [A,B]) Q L)=(false,w6) from(by rw[Sr];exact jB)));exact⟨(),kf ah ([oC (Hv HK),oF,oC c5,oC Yy,oC c8,oC Yz,oB eA,oB eA,oB eA]++rq 5 (oB cE) ([oF,oC c35,oC c37,oC c47,oC c48,oC c49,oC c50,oC c52,oC c53]++rq 4 oF ([oB (neI Sr)]++rq 4 oF ([oB (l7 d3),oB (l7 d3),oB (l7 d3),oB (bne_iff_ne.mpr Eo),oB (bne_iff_ne.mpr Eo),oB (bne_iff_ne.mpr Eo),oB (l7 d3),oB (bne_iff_ne.mpr Eo),oB (l7 d3)]))))⟩
    ·have c51:ev 10 [.t (aC 17 [A,B]),.t Q,.t L] []=some (bh.ret (.t (.bU [.bool d5,.int .i64 0])) [] []):=(fG l8 (x:=(aC 17 [A,B])) (y:=Q) (z:=L) ⟨aoV,hQ,hL⟩).trans (congrArg rB (show ov (k9 m (aC 17 [A,B]) Q L)=(d5,0) from lS));have c54:=fG jZ (x:=.int .u8 18) (y:=A) (z:=B) ⟨⟨_,rfl⟩,hA,hB⟩;have ary:T .aG (aC 18 [A,B]):=cz (by decide) hA hB;have c55:ev 10 [.t (aC 18 [A,B]),.t Q,.t L] []=some (bh.ret (.t (.bU [.bool (!d5),.int .i64 0])) [] []):=(fG l8 (x:=(aC 18 [A,B])) (y:=Q) (z:=L) ⟨ary,hQ,hL⟩).trans (congrArg rB (show ov (k9 m (aC 18 [A,B]) Q L)=(!d5,0) from jB));have hs:(!(d5==(!d5)))=true:=(l7 d5);exact⟨(),cast (congrArg (λz=>KE (cf m) (q8 (cf m) _ 0 (.ret (.t (.bool z)) [] [])) _ _ _) hs) (kf ah ([oC (Hv HK),oF,oC c5,oC Yy,oC c8,oC Yz,oB eA,oB eA,oB eA]++rq 5 (oB cE) ([oF,oC c35,oC c37,oC c47,oC c48,oC c49,oC c51,oC c54,oC c55]++rq 9 oF ([oB (l7 d3),oB (l7 d3),oB (l7 d3),oF,oF,oF,oB (l7 d3),oF,oB (l7 d3)]))))⟩
 ·have RF:=ne_of_beq_false eA;have c56:=fG jZ (x:=.int .u8 19) (y:=A) (z:=B) ⟨⟨_,rfl⟩,hA,hB⟩;have aoW:T .aG (aC 19 [A,B]):=cz (by decide) hA hB;rcases Gf m hA hB hba hbb hQ hL with ⟨sG,hl2⟩|⟨d3,sG,hl2⟩
  ·obtain⟨p3,w3,Sy⟩:∃p w,ov (k9 m (aC 19 [A,B]) Q L)=(p,w):=⟨_,_,rfl⟩;rw[Sy] at sG;replace sG:w3≠0:=sG;have c57:ev 10 [.t (aC 19 [A,B]),.t Q,.t L] []=some (bh.ret (.t (.bU [.bool p3,.int .i64 w3])) [] []):=(fG l8 (x:=(aC 19 [A,B])) (y:=Q) (z:=L) ⟨aoW,hQ,hL⟩).trans (congrArg rB (show ov (k9 m (aC 19 [A,B]) Q L)=(p3,w3) from Sy));have c59:=fG jZ (x:=.int .u8 20) (y:=B) (z:=A) ⟨⟨_,rfl⟩,hB,hA⟩;have arz:T .aG (aC 20 [B,A]):=cz (by decide) hB hA;obtain⟨p4,w4,hp4⟩:∃p w,ov (k9 m (aC 20 [B,A]) Q L)=(p,w):=⟨_,_,rfl⟩;rw[hp4] at hl2;replace hl2:w4≠0:=hl2;have c60:ev 10 [.t (aC 20 [B,A]),.t Q,.t L] []=some (bh.ret (.t (.bU [.bool p4,.int .i64 w4])) [] []):=(fG l8 (x:=(aC 20 [B,A])) (y:=Q) (z:=L) ⟨arz,hQ,hL⟩).trans (congrArg rB (show ov (k9 m (aC 20 [B,A]) Q L)=(p4,w4) from hp4));have c61:=fG jZ (x:=.int .u8 17) (y:=A) (z:=B) ⟨⟨_,rfl⟩,hA,hB⟩;have aoX:T .aG (aC 17 [A,B]):=cz (by decide) hA hB;rcases tj m hA hB hQ hL with ⟨w5,Eo,lS,jB⟩|⟨d5,lS,jB⟩
   ·have c62:ev 10 [.t (aC 17 [A,B]),.t Q,.t L] []=some (bh.ret (.t (.bU [.bool false,.int .i64 w5])) [] []):=(fG l8 (x:=(aC 17 [A,B])) (y:=Q) (z:=L) ⟨aoX,hQ,hL⟩).trans (congrArg rB (show ov (k9 m (aC 17 [A,B]) Q L)=(false,w5) from lS));have c64:=fG jZ (x:=.int .u8 18) (y:=A) (z:=B) ⟨⟨_,rfl⟩,hA,hB⟩;have arA:T .aG (aC 18 [A,B]):=cz (by decide) hA hB;obtain⟨w6,Sr⟩:∃k,k=w5:=⟨_,rfl⟩;have c65:ev 10 [.t (aC 18 [A,B]),.t Q,.t L] []=some (bh.ret (.t (.bU [.bool false,.int .i64 w6])) [] []):=(fG l8 (x:=(aC 18 [A,B])) (y:=Q) (z:=L) ⟨arA,hQ,hL⟩).trans (congrArg rB (show ov (k9 m (aC 18 [A,B]) Q L)=(false,w6) from(by rw[Sr];exact jB)));exact⟨(),kf ah ([oC (Hv HK),oF,oC c5,oC Yy,oC c8,oC Yz,oB eA,oB eA,oB eA]++rq 6 oF ([oC c56,oC c57,oC c59,oC c60,oC c61,oC c62,oC c64,oC c65]++rq 4 (oB (Ym sG hl2)) ([oB (neI Sr)]++rq 4 (oB (bne_iff_ne.mpr sG)) ([oT,oT,oT,oB (bne_iff_ne.mpr Eo),oB (bne_iff_ne.mpr Eo),oB (bne_iff_ne.mpr Eo),oT,oB (bne_iff_ne.mpr Eo),oT]))))⟩
   ·have c63:ev 10 [.t (aC 17 [A,B]),.t Q,.t L] []=some (bh.ret (.t (.bU [.bool d5,.int .i64 0])) [] []):=(fG l8 (x:=(aC 17 [A,B])) (y:=Q) (z:=L) ⟨aoX,hQ,hL⟩).trans (congrArg rB (show ov (k9 m (aC 17 [A,B]) Q L)=(d5,0) from lS));have c66:=fG jZ (x:=.int .u8 18) (y:=A) (z:=B) ⟨⟨_,rfl⟩,hA,hB⟩;have arB:T .aG (aC 18 [A,B]):=cz (by decide) hA hB;have c67:ev 10 [.t (aC 18 [A,B]),.t Q,.t L] []=some (bh.ret (.t (.bU [.bool (!d5),.int .i64 0])) [] []):=(fG l8 (x:=(aC 18 [A,B])) (y:=Q) (z:=L) ⟨arB,hQ,hL⟩).trans (congrArg rB (show ov (k9 m (aC 18 [A,B]) Q L)=(!d5,0) from jB));have hs:(!(d5==(!d5)))=true:=(l7 d5);exact⟨(),cast (congrArg (λz=>KE (cf m) (q8 (cf m) _ 0 (.ret (.t (.bool z)) [] [])) _ _ _) hs) (kf ah ([oC (Hv HK),oF,oC c5,oC Yy,oC c8,oC Yz,oB eA,oB eA,oB eA]++rq 6 oF ([oC c56,oC c57,oC c59,oC c60,oC c61,oC c63,oC c66,oC c67]++rq 4 (oB (Ym sG hl2)) ([oF]++rq 4 (oB (bne_iff_ne.mpr sG)) ([oT,oT,oT,oF,oF,oF,oT,oF,oT])))))⟩
  ·have c58:ev 10 [.t (aC 19 [A,B]),.t Q,.t L] []=some (bh.ret (.t (.bU [.bool d3,.int .i64 0])) [] []):=(fG l8 (x:=(aC 19 [A,B])) (y:=Q) (z:=L) ⟨aoW,hQ,hL⟩).trans (congrArg rB (show ov (k9 m (aC 19 [A,B]) Q L)=(d3,0) from sG));have c68:=fG jZ (x:=.int .u8 20) (y:=B) (z:=A) ⟨⟨_,rfl⟩,hB,hA⟩;have arC:T .aG (aC 20 [B,A]):=cz (by decide) hB hA;have c69:ev 10 [.t (aC 20 [B,A]),.t Q,.t L] []=some (bh.ret (.t (.bU [.bool (!d3),.int .i64 0])) [] []):=(fG l8 (x:=(aC 20 [B,A])) (y:=Q) (z:=L) ⟨arC,hQ,hL⟩).trans (congrArg rB (show ov (k9 m (aC 20 [B,A]) Q L)=(!d3,0) from hl2));have c70:=fG jZ (x:=.int .u8 17) (y:=A) (z:=B) ⟨⟨_,rfl⟩,hA,hB⟩;have aoY:T .aG (aC 17 [A,B]):=cz (by decide) hA hB;rcases tj m hA hB hQ hL with ⟨w5,Eo,lS,jB⟩|⟨d5,lS,jB⟩
   ·have c71:ev 10 [.t (aC 17 [A,B]),.t Q,.t L] []=some (bh.ret (.t (.bU [.bool false,.int .i64 w5])) [] []):=(fG l8 (x:=(aC 17 [A,B])) (y:=Q) (z:=L) ⟨aoY,hQ,hL⟩).trans (congrArg rB (show ov (k9 m (aC 17 [A,B]) Q L)=(false,w5) from lS));have c73:=fG jZ (x:=.int .u8 18) (y:=A) (z:=B) ⟨⟨_,rfl⟩,hA,hB⟩;have arD:T .aG (aC 18 [A,B]):=cz (by decide) hA hB;obtain⟨w6,Sr⟩:∃k,k=w5:=⟨_,rfl⟩;have c74:ev 10 [.t (aC 18 [A,B]),.t Q,.t L] []=some (bh.ret (.t (.bU [.bool false,.int .i64 w6])) [] []):=(fG l8 (x:=(aC 18 [A,B])) (y:=Q) (z:=L) ⟨arD,hQ,hL⟩).trans (congrArg rB (show ov (k9 m (aC 18 [A,B]) Q L)=(false,w6) from(by rw[Sr];exact jB)));exact⟨(),kf ah ([oC (Hv HK),oF,oC c5,oC Yy,oC c8,oC Yz,oB eA,oB eA,oB eA]++rq 6 oF ([oC c56,oC c58,oC c68,oC c69,oC c70,oC c71,oC c73,oC c74]++rq 4 oF ([oB (neI Sr)]++rq 4 oF ([oB (l7 d3),oB (l7 d3),oB (l7 d3),oB (bne_iff_ne.mpr Eo),oB (bne_iff_ne.mpr Eo),oB (bne_iff_ne.mpr Eo),oB (l7 d3),oB (bne_iff_ne.mpr Eo),oB (l7 d3)]))))⟩
   ·have c72:ev 10 [.t (aC 17 [A,B]),.t Q,.t L] []=some (bh.ret (.t (.bU [.bool d5,.int .i64 0])) [] []):=(fG l8 (x:=(aC 17 [A,B])) (y:=Q) (z:=L) ⟨aoY,hQ,hL⟩).trans (congrArg rB (show ov (k9 m (aC 17 [A,B]) Q L)=(d5,0) from lS));have c75:=fG jZ (x:=.int .u8 18) (y:=A) (z:=B) ⟨⟨_,rfl⟩,hA,hB⟩;have arE:T .aG (aC 18 [A,B]):=cz (by decide) hA hB;have c76:ev 10 [.t (aC 18 [A,B]),.t Q,.t L] []=some (bh.ret (.t (.bU [.bool (!d5),.int .i64 0])) [] []):=(fG l8 (x:=(aC 18 [A,B])) (y:=Q) (z:=L) ⟨arE,hQ,hL⟩).trans (congrArg rB (show ov (k9 m (aC 18 [A,B]) Q L)=(!d5,0) from jB));have hs:(!(d5==(!d5)))=true:=(l7 d5);exact⟨(),cast (congrArg (λz=>KE (cf m) (q8 (cf m) _ 0 (.ret (.t (.bool z)) [] [])) _ _ _) hs) (kf ah ([oC (Hv HK),oF,oC c5,oC Yy,oC c8,oC Yz,oB eA,oB eA,oB eA]++rq 6 oF ([oC c56,oC c58,oC c68,oC c69,oC c70,oC c72,oC c75,oC c76]++rq 9 oF ([oB (l7 d3),oB (l7 d3),oB (l7 d3),oF,oF,oF,oB (l7 d3),oF,oB (l7 d3)]))))⟩
end
end Go.Proofs.YtfdnciimclnncaaGreatDoor.w.e
