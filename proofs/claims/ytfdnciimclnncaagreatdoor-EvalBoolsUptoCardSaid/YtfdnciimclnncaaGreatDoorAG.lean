/- Plain laws over what expressions come to: numbers, and truths. -/
import Derived.Test.YtfdnciimclnncaaGreatDoorAF
set_option linter.unusedVariables false
set_option linter.unusedSimpArgs false
namespace Go.Proofs.YtfdnciimclnncaaGreatDoor.w.e
open Go Go.Abs
set_option maxRecDepth 100000
noncomputable section
open Go.Abs.Ty
theorem R5 {op:Int}{ks:List Tree}(h0:0<=op)(h1:ks.length<=4194304)(h:∀k∈ks,T .aD k):T .aD (cz op ks):=.aD _ _ _ _ _ _ h0 (by simp) (by simp) (by simp) (λ_ h=>by cases h) h1 h
theorem gp {op:Int}{a:Tree}(h0:0<=op)(h:T .aD a):T .aD (cz op [a]):=R5 h0 (by simp) (by simpa using h)
theorem jG {op:Int}{a b:Tree}(h0:0<=op)(h:T .aD a)(h2:T .aD b):T .aD (cz op [a,b]):=R5 h0 (by simp) (by simpa using ⟨h,h2⟩)
theorem akP (m:Int){x:Tree}{n:Nat}(hx:T .aD x)(hd:Dx n x):yy m x=I6 (A0 (oh m) n x):=by
 obtain⟨k,h1,h2⟩:=ahO m hx;rw[h2,Bx k n x h1 hd]
theorem qU (m:Int){x:Tree}{n:Nat}(hx:T .aD x)(hd:Dx n x)(hb:bulk x<=1099511627776):yy m x=0↔(A0 (oh m) n x).2.2=true/\By n x<=16/\rL n x<=128:=by
 rw[akP m hx hd,WX];obtain⟨e1,e2⟩:=Y9 (b:=oh m) n x (Nat.le_trans (PK n x) hb);rw[e1,e2];constructor<;>(rintro ⟨a,b,c⟩;exact⟨a,by omega,by omega⟩)
theorem R6 {m:Int}{n:Nat}{op:Int}{ks:List Tree}(h:mR op ks):(A0 (oh m) (n+1) (cz op ks)).2.2=true↔∀k∈ks,(A0 (oh m) n k).2.2=true:=by
 rw[ah5];exact⟨λh=>h.2,λh'=>⟨XY h,h'⟩⟩
theorem ok1 {m:Int}{n:Nat}{op:Int}{a:Tree}(h:mR op [a]):(A0 (oh m) (n+1) (cz op [a])).2.2=true↔(A0 (oh m) n a).2.2=true:=by rw[R6 h];simp
theorem ok2 {m:Int}{n:Nat}{op:Int}{a b:Tree}(h:mR op [a,b]):(A0 (oh m) (n+1) (cz op [a,b])).2.2=true↔(A0 (oh m) n a).2.2=true/\(A0 (oh m) n b).2.2=true:=by rw[R6 h];simp
theorem KT {n:Nat}{op:Int}{a:Tree}:By (n+1) (cz op [a])=By n a+1:=by simp[By,fZ,cz]
theorem Ya {n:Nat}{op:Int}{a b:Tree}:By (n+1) (cz op [a,b])=max (By n a) (By n b)+1:=by simp[By,fZ,cz]
theorem KU {n:Nat}{op:Int}{a:Tree}:rL (n+1) (cz op [a])=rL n a+1:=by simp[rL,fZ,cz]
theorem cnt2 {n:Nat}{op:Int}{a b:Tree}:rL (n+1) (cz op [a,b])=rL n a+rL n b+1:=by simp[rL,fZ,cz]
theorem aoP {op:Int}{a:Tree}:bulk (cz op [a])=bulk a+7:=by simp only[cz,bulk,bulks];omega
theorem ahT {op:Int}{a b:Tree}:bulk (cz op [a,b])=bulk a+bulk b+7:=by simp only[cz,bulk,bulks];omega
theorem dx1 {n:Nat}{op:Int}{a:Tree}(h:Dx n a):Dx (n+1) (cz op [a]):=λk hk=>by
 rw[List.mem_singleton.1 hk];exact h
theorem dx2 {n:Nat}{op:Int}{a b:Tree}(h:Dx n a)(h2:Dx n b):Dx (n+1) (cz op [a,b]):=λk hk=>by
 have hk:k∈[a,b]:=hk;simp only[List.mem_cons,List.not_mem_nil,or_false] at hk;rcases hk with rfl|rfl<;>assumption
theorem akQ (m:Int){a b:Tree}(ha:T .aD a)(hb:T .aD b):∃n,Dx n a/\Dx n b:=by
 obtain⟨n,h1⟩:=adq m ha;obtain⟨k,h2⟩:=adq m hb;exact⟨max (n+1) (k+1),Dx.mono (Nat.le_max_left _ _) h1,Dx.mono (Nat.le_max_right _ _) h2⟩
theorem F2 (m:Int){q:Sc}(hs:Rq q){e:Tree}(hE:T .aD e)(hR:Rt e):Cf m q (Bi m q) e (Bi m q e):=by
 obtain⟨n,h1,h2,h3⟩:=R4 m hs hE hR;rwa [KQ hR (g:=Bi m q) λk hk=> ?_] at h3;obtain⟨d,g1,g2⟩:=adr m (OW hE k hk);show _=evN m q (dep k) k;rw[g1];exact KR m q n (d+1) k (h2 k hk) g2 (ya hR k hk)
theorem agJ (m:Int){q:Sc}(hs:Rq q){op:Int}{a:Tree}(hE:T .aD (cz op [a]))(hR:Rt (cz op [a]))(Sj:op≠14)(Ql:op≠15)(h16:op≠16):
 (∃w,Bi m q a=.inr w/\Bi m q (cz op [a])=.inr w)\/∃v,Bi m q a=.inl v/\T .az v/\QO m (cz op [a]) [v] (Bi m q (cz op [a])):=by
 have h:=(F2 m hs hE hR).2.2.2.2 Sj Ql h16
 have h:EvO m (Bi m q) (cz op [a]) [a] _:=h
 unfold EvO ja at h
 cases ha:Bi m q a with
 |inr w=>
  rw[ha] at h
  rcases h with ⟨w',h1,h2⟩|⟨l,h1,_⟩
  · cases h1;exact .inl ⟨w,rfl,h2⟩
  · cases h1
 |inl v=>
  rw[ha] at h
  rcases h with ⟨w',h1,h2⟩|⟨l,h1,_,hT,hQ⟩
  · cases h1
  · cases h1;exact .inr ⟨v,rfl,hT v List.mem_cons_self,hQ⟩
theorem Wi (m:Int){q:Sc}(hs:Rq q){op:Int}{a b:Tree}(hE:T .aD (cz op [a,b]))(hR:Rt (cz op [a,b]))(h:op=15\/op=16):Bi m q (cz op [a,b])=dJ op (Bi m q a) (Bi m q b):=(F2 m hs hE hR).2.2.2.1 h
theorem O1 (m:Int){q:Sc}(hs:Rq q){e:Tree}(hE:T .aD e)(hR:Rt e):MQ (Bi m q e):=(F2 m hs hE hR).2.1
theorem akR {m:Int}{x y z:Tree}(h1:yy m x=0)(h2:X9 m y=0)(h3:crF m z=0):vO m x y z=akM (Bi m (Cg y z) x):=by
 unfold vO;rw[if_neg (by simpa using h1),if_neg (by simpa using h2),if_neg (by simpa using h3)]
theorem agK (m:Int){y z:Tree}(h:¬(X9 m y=0/\crF m z=0)):∃w,w≠0/\∀x,yy m x=0->vO m x y z=(zeroV,w):=by
 by_cases h2:X9 m y=0
 ·have h3:crF m z≠0:=λh3=>h ⟨h2,h3⟩
  exact⟨_,h3,λx h1=>by unfold vO;rw[if_neg (by simpa using h1),if_neg (by simpa using h2),if_pos h3]⟩
 ·exact⟨_,h2,λx h1=>by unfold vO;rw[if_neg (by simpa using h1),if_pos h2]⟩
theorem agL {w:Int}(v:Tree)(h:w≠0):yJ (v,w)=(false,w):=by
 show cond (w != 0) _ _=_;rw[bne_iff_ne.mpr h];rfl
theorem ot2 {op:Int}{a b:Tree}(h:op∈[(15:Int),16,17,18,19,20,24,25]):mR op [a,b]:=by
 simp only[List.mem_cons,List.not_mem_nil,or_false] at h;rcases h with rfl|rfl|rfl|rfl|rfl|rfl|rfl|rfl<;>simp[mR]
theorem ot1 {op:Int}{a:Tree}(h:op∈[(12:Int),13]):mR op [a]:=by
 simp only[List.mem_cons,List.not_mem_nil,or_false] at h;rcases h with rfl|rfl<;>simp[mR]
def Ib (r:Tree ⊕ Int):Bool×Int:=match kd 0 r with
 |.inl v=>(k6 v,0)
 |.inr w=>(false,w)
theorem aoQ {r:Tree ⊕ Int}(h:MQ r):yJ (akM r)=Ib r:=by
 cases r with
 |inr w=>exact agL _ (h.2 w rfl)
 |inl v=>
  show cond ((0:Int) != 0) _ (cond (iJ v != 0) (false,7) (k6 v,0))=(match(cond (iJ v==0) (.inl v) (.inr 7):Tree ⊕ Int) with|.inl v=>(k6 v,0)|.inr w=>(false,w))
  rw[show(iJ v != 0)= !(iJ v==0) from rfl]
  cases iJ v==0<;>rfl
theorem adu {r:Tree ⊕ Int}(h:MQ r):(∃w,w≠0/\kd 0 r=.inr w/\Ib r=(false,w))\/∃v,iJ v=0/\kd 0 r=.inl v/\r=.inl v/\Ib r=(k6 v,0):=by
 have hk:=Wc h 0;unfold Ib;cases hr:kd 0 r with
 |inr w=>rw[hr] at hk;exact .inl ⟨w,hk.2 w rfl,rfl,rfl⟩
 | inl v=>
  refine .inr ⟨v, ?_⟩
  cases r with
  |inr w=>cases hr
  |inl u=>
   have hr:cond (iJ u==0) (.inl u) (.inr 7)=(.inl v:Tree ⊕ Int):=hr
   cases hu:iJ u==0 with
   |false=>rw[hu] at hr;cases hr
   |true=>rw[hu] at hr;cases hr;exact⟨eq_of_beq hu,rfl,rfl,rfl⟩
theorem agM {w:Int}:Ib (.inr w)=(false,w):=rfl
theorem akS (r:Tree ⊕ Int):Ib (kd 0 r)=Ib r:=by
 unfold Ib;cases r with
 |inr w=>rfl
 | inl v=>
  show(match kd 0 (cond (iJ v==0) (.inl v) (.inr 7)) with|.inl v=>(k6 v,(0:Int))|.inr w=>(false,w))=(match(cond (iJ v==0) (.inl v) (.inr 7):Tree ⊕ Int) with|.inl v=>(k6 v,0)|.inr w=>(false,w))
  cases hv:iJ v==0 with
  |false=>rfl
  |true=>
   show(match(cond (iJ v==0) (.inl v) (.inr 7):Tree ⊕ Int) with|.inl v=>(k6 v,(0:Int))|.inr w=>(false,w))=_
   rw[hv]
def KV (x:Bool×Int):Bool×Int:=if x.2=0 then(!x.1,0) else x
def R7 (s:Bool)(x y:Bool×Int):Bool×Int:=if x.2=0 then if x.1=s then x else y else x
theorem Wj {op:Int}{r s:Tree ⊕ Int}(hr:MQ r):Ib (dJ op r s)=R7 (op==16) (Ib r) (Ib s):=by
 rcases adu hr with ⟨w,hw,h1,h2⟩|⟨v,hv,h1,h3,h2⟩
 ·unfold dJ;rw[h1,h2];show _=if w=0 then _ else _
  rw[if_neg hw];rfl
 ·unfold dJ;rw[h1,h2];show Ib (cond (k6 v==(op==16)) (.inl v) (kd 0 s))=if(0:Int)=0 then if k6 v=(op==16) then _ else _ else _
  rw[if_pos rfl];cases hb:k6 v==(op==16) with
  |true=>rw[if_pos (eq_of_beq hb),← h2,h3];rfl
  |false=>rw[if_neg (by simpa using hb),← akS s];rfl
theorem agN (m:Int){q:Sc}(hs:Rq q){a:Tree}(hE:T .aD (cz 12 [a]))(hR:Rt (cz 12 [a])):Ib (Bi m q (cz 12 [a]))=KV (Ib (Bi m q a)):=by
 have hA:T .aD a:=OW hE a (by simp[fZ,cz]);have hra:Rt a:=ya hR a (by simp[fZ,cz]);have ty:=O1 m hs hA hra;rcases agJ m hs hE hR (by decide) (by decide) (by decide) with ⟨w,h1,h2⟩|⟨v,h1,_,hq⟩
 ·rw[h1,h2,agM];rw[h1] at ty;unfold KV;rw[if_neg (ty.2 w rfl)]
 ·have e:Bi m q (cz 12 [a])=abB v:=hq.2.1 rfl;rw[e,h1];show Ib (cond (iJ v==0) (.inl (boolT (!(k6 v)))) (.inr 7))=KV (match(cond (iJ v==0) (.inl v) (.inr 7):Tree ⊕ Int) with|.inl v=>(k6 v,0)|.inr w=>(false,w));cases iJ v==0<;>rfl
theorem adv (x y:Bool×Int):KV (R7 false x y)=R7 true (KV x) (KV y):=by
 obtain⟨b,w⟩:=x;unfold KV R7;by_cases hw:w=0
 ·subst hw;cases b
  ·rfl
  ·simp
 ·simp[hw]
theorem adw (x:Bool×Int):KV (KV x)=x:=by
 obtain⟨b,w⟩:=x;unfold KV;by_cases hw:w=0
 ·subst hw;simp
 ·simp[hw]
theorem MU (s:Bool)(x:Bool×Int):R7 s x x=x:=by
 unfold R7;split
 ·split<;>rfl
 ·rfl
def nE (a:Tree):Tree:=cz 12 [a]
def aE (a b:Tree):Tree:=cz 15 [a,b]
def yK (a b:Tree):Tree:=cz 16 [a,b]
theorem aoR (m:Int){a b y z:Tree}(ha:T .aD a)(hb:T .aD b)(hba:bulk a<=1073741824)(hbb:bulk b<=1073741824)(hy:T .cE y)(hz:T .aS z)
 (h1:yy m (nE (aE a b))=0)(h2:yy m (aE (nE (nE a)) (nE (nE b)))=0)(h3:yy m (aE a a)=0):
 yJ (vO m (nE (nE a)) y z)=yJ (vO m a y z)/\yJ (vO m (aE a a) y z)=yJ (vO m a y z)/\yJ (vO m (yK a a) y z)=yJ (vO m a y z)/\yJ (vO m (nE (aE a b)) y z)=yJ (vO m (yK (nE a) (nE b)) y z):=by
 have tn:∀{x},T .aD x->T .aD (nE x):=λh=>gp (by decide) h
 have ta:∀{x y},T .aD x->T .aD y->T .aD (aE x y):=λh g=>jG (by decide) h g
 have to:∀{x y},T .aD x->T .aD y->T .aD (yK x y):=λh g=>jG (by decide) h g
 obtain⟨n,da,db⟩:=akQ m ha hb
 have bn:∀x,bulk (nE x)=bulk x+7:=λx=>aoP
 have ba:∀x y,bulk (aE x y)=bulk x+bulk y+7:=λx y=>ahT
 have bo:∀x y,bulk (yK x y)=bulk x+bulk y+7:=λx y=>ahT
 have on:∀{x},mR 12 [x]:=λ{x}=>ot1 (by decide)
 have oa:∀{x y},mR 15 [x,y]:=λ{x y}=>ot2 (by decide)
 have oo:∀{x y},mR 16 [x,y]:=λ{x y}=>ot2 (by decide)
 have g1:=(qU m (tn (ta ha hb)) (dx1 (dx2 da db)) (by rw[bn,ba];omega)).1 h1
 have g2:=(qU m (ta (tn (tn ha)) (tn (tn hb))) (dx2 (dx1 (dx1 da)) (dx1 (dx1 db))) (by rw[ba,bn,bn,bn,bn];omega)).1 h2
 have g3:=(qU m (ta ha ha) (dx2 da da) (by rw[ba];omega)).1 h3
 unfold nE aE at g1 g2 g3
 rw[ok1 on,ok2 oa,KT,Ya,KU,cnt2] at g1
 rw[ok2 oa,ok1 on,ok1 on,ok1 on,ok1 on,Ya,KT,KT,KT,KT,cnt2,KU,KU,KU,KU] at g2
 rw[ok2 oa,Ya,cnt2] at g3
 obtain⟨⟨ka,kb⟩,l1,n1⟩:=g1
 obtain⟨_,l2,n2⟩:=g2
 obtain⟨_,l3,n3⟩:=g3
 have ca:yy m a=0:=(qU m ha da (by omega)).2 ⟨ka,by omega,by omega⟩
 have cna:yy m (nE a)=0:=(qU m (tn ha) (dx1 da) (by rw[bn];omega)).2 (by unfold nE;rw[ok1 on,KT,KU];exact⟨ka,by omega,by omega⟩)
 have cnb:yy m (nE b)=0:=(qU m (tn hb) (dx1 db) (by rw[bn];omega)).2 (by unfold nE;rw[ok1 on,KT,KU];exact⟨kb,by omega,by omega⟩)
 have akT:yy m (nE (nE a))=0:=(qU m (tn (tn ha)) (dx1 (dx1 da)) (by rw[bn,bn];omega)).2 (by unfold nE;rw[ok1 on,ok1 on,KT,KT,KU,KU];exact⟨ka,by omega,by omega⟩)
 have cab:yy m (aE a b)=0:=(qU m (ta ha hb) (dx2 da db) (by rw[ba];omega)).2 (by unfold aE;rw[ok2 oa,Ya,cnt2];exact⟨⟨ka,kb⟩,by omega,by omega⟩)
 have akU:yy m (yK a a)=0:=(qU m (to ha ha) (dx2 da da) (by rw[bo];omega)).2 (by unfold yK;rw[ok2 oo,Ya,cnt2];exact⟨⟨ka,ka⟩,by omega,by omega⟩)
 have cob:yy m (yK (nE a) (nE b))=0:=(qU m (to (tn ha) (tn hb)) (dx2 (dx1 da) (dx1 db)) (by rw[bo,bn,bn];omega)).2 (by unfold yK nE;rw[ok2 oo,ok1 on,ok1 on,Ya,KT,KT,cnt2,KU,KU];exact⟨⟨ka,kb⟩,by omega,by omega⟩)
 by_cases hS:X9 m y=0/\crF m z=0
 ·have hs:=ads hy hz;have K:∀{x},T .aD x->yy m x=0->yJ (vO m x y z)=Ib (Bi m (Cg y z) x):=λhx hc=>by
   rw[akR hc hS.1 hS.2];exact aoQ (O1 m hs hx (KS m hx hc))
  have N:∀{x},T .aD x->yy m (nE x)=0->Ib (Bi m (Cg y z) (nE x))=KV (Ib (Bi m (Cg y z) x)):=λhx hc=>agN m hs (tn hx) (KS m (tn hx) hc)
  have A:∀{x w},T .aD x->T .aD w->yy m (aE x w)=0->Ib (Bi m (Cg y z) (aE x w))=R7 false (Ib (Bi m (Cg y z) x)) (Ib (Bi m (Cg y z) w)):=λ{x w} hx hw hc=>by
   have hr:=KS m (ta hx hw) hc;rw[show Bi m (Cg y z) (aE x w)=_ from Wi m hs (ta hx hw) hr (.inl rfl)];exact Wj (O1 m hs hx (ya hr x (by simp[fZ,aE,cz])))
  have O:∀{x w},T .aD x->T .aD w->yy m (yK x w)=0->Ib (Bi m (Cg y z) (yK x w))=R7 true (Ib (Bi m (Cg y z) x)) (Ib (Bi m (Cg y z) w)):=λ{x w} hx hw hc=>by
   have hr:=KS m (to hx hw) hc;rw[show Bi m (Cg y z) (yK x w)=_ from Wi m hs (to hx hw) hr (.inr rfl)];exact Wj (O1 m hs hx (ya hr x (by simp[fZ,yK,cz])))
  rw[K (tn (tn ha)) akT,K ha ca,K (ta ha ha) h3,K (to ha ha) akU,K (tn (ta ha hb)) h1,K (to (tn ha) (tn hb)) cob,N (tn ha) akT,N ha cna,A ha ha h3,O ha ha akU,N (ta ha hb) h1,A ha hb cab,O (tn ha) (tn hb) cob,N ha cna,N hb cnb];exact⟨adw _,MU _ _,MU _ _,adv _ _⟩
 ·obtain⟨w,hw,h⟩:=agK m hS;rw[h _ akT,h _ ca,h _ h3,h _ akU,h _ h1,h _ cob];exact⟨rfl,rfl,rfl,rfl⟩
end
end Go.Proofs.YtfdnciimclnncaaGreatDoor.w.e
namespace Go.Proofs.YtfdnciimclnncaaGreatDoor.w.e
open Go Go.Abs
set_option maxRecDepth 100000
set_option maxHeartbeats 2000000
noncomputable section
open Go.Abs.Ty
def iOf:Tree->Int
 |.int _ k=>k
 |_=>0
def rB (z:Bool×Int):Option br:=some (.ret (.t (.cF [.bool z.1,.int .i64 z.2])) [] [])
theorem yE (c:Bool):(!(c==c))=false:=by cases c<;>rfl
theorem aoS (c:Bool):(c==c)=true:=by cases c<;>rfl
theorem aoT {a b:Int}(h:a≠0)(g:b≠0):(!((a==0)==(b==0)))=false:=by rw[beq_false_of_ne h,beq_false_of_ne g];rfl
theorem Lv {a b:Int}(h:a≠0)(g:b≠0):((a==0)==(b==0))=true:=by rw[beq_false_of_ne h,beq_false_of_ne g];rfl
theorem Ym {a b:Int}(h:b=a):(a != b)=false:=bne_eq_false_iff_eq.mpr h.symm
theorem agO (m k:Int)(a b:Tree)(ha:T .aD a)(hb:T .aD b):ai (cf m) 18 [.t (.int .u8 k),.t a,.t b] [] (.ret (.t (cz k [a,b])) [] []):=by
 obtain⟨ev,aJ⟩:∃ev,aC (cf m) ev:=⟨_,aF⟩;refine ai.gO ?_;have bw:=ha;obtain⟨bW,n_1,s_1,dD,aT,bO,rfl,cI,cH,fK,dS,eW,eM,jc⟩:=T.bz bw;have dB:=hb;obtain⟨X8,n_2,s_2,iX,b8,F0,rfl,gx,kB,tM,rS,tN,qG,N9⟩:=T.bz dB;refine AX.start 12 3 Tryz.func18 rfl (by decide) rfl rfl (by decide) ?_;refine AX.frames ?_;exact⟨(),kf ah []⟩
theorem akV (m:Int)(a:Tree)(ha:T .aD a):ai (cf m) 17 [.t a] [] (.ret (.t (nE a)) [] []):=by
 obtain⟨ev,aJ⟩:∃ev,aC (cf m) ev:=⟨_,aF⟩;refine ai.gO ?_;have bw:=ha;obtain⟨bW,n_1,s_1,dD,aT,bO,rfl,cI,cH,fK,dS,eW,eM,jc⟩:=T.bz bw;refine AX.start 6 1 Tryz.func17 rfl (by decide) rfl rfl (by decide) ?_;refine AX.frames ?_;exact⟨(),kf ah []⟩
theorem adx (m:Int)(hlv:R0 (cf m) 7 (.bool true))(a b y z:Tree)(ha:T .aD a)(hb:T .aD b)(hba:bulk a<=1073741824)(hbb:bulk b<=1073741824)(hy:T .cE y)(hz:T .aS z):ai (cf m) 6 [.t a,.t b,.t y,.t z] [] (.ret (.t (.bool true)) [] []):=by
 obtain⟨ev,aJ,UH,yb,qM,z6,AO⟩:∃ev,aC (cf m) ev/\Has ev 7 (pc0 (.bool true))/\Has ev 17 (mL (λa=>T .aD a) (λa=>nE a))/\Has ev 18 (pc3 (λo a b=>(∃k,o=.int .u8 k)/\T .aD a/\T .aD b) (λo a b=>cz (iOf o) [a,b]))/\Has ev 8 (mL (T .aD) λx=>.int .i64 (yy m x))/\Has ev 10 (pc3 (λx y z=>T .aD x/\T .cE y/\T .aS z) (λx y z=>.cF [.bool (yJ (vO m x y z)).1,.int .i64 (yJ (vO m x y z)).2])):=⟨_,(aq ((aik hlv)) (aq ((bR λa h=>akV m a h)) (aq ((Jk λo a b h=>by obtain⟨⟨k,rfl⟩,h2,h3⟩:=h;exact agO m k a b h2 h3)) (aq ((bR (F1 m))) (aq ((Jk (λx y z h=>by obtain⟨⟨r,hr⟩,h2⟩:=adt m x y z h.1 h.2.1 h.2.2;subst hr;exact h2))) aF))))),au,(av rfl au),(av rfl (av rfl au)),(av rfl (av rfl (av rfl au))),(av rfl (av rfl (av rfl (av rfl au))))⟩;refine ai.gO ?_;have bw:=ha;obtain⟨bW,n_1,s_1,dD,aT,bO,rfl,cI,cH,fK,dS,eW,eM,jc⟩:=T.bz bw;have dB:=hb;obtain⟨X8,n_2,s_2,iX,b8,F0,rfl,gx,kB,tM,rS,tN,qG,N9⟩:=T.bz dB;have jd:=hy;obtain⟨F3,KW,Lw,R8,Hw,Lx,KX,R9,Sb,Sd,Se,Hy,KY,rfl,r5,r6,tZ,ua,uf,ug,arp,arq,ars,art,ap3,ap4⟩:=T.mB jd;have mD:=hz;obtain⟨Yj,rfl,qF,rQ⟩:=T.fB mD;let A:Tree:=(aY bW n_1 s_1 dD aT bO);have hA:T .aD A:=bw;let B:Tree:=(aY X8 n_2 s_2 iX b8 F0);have hB:T .aD B:=dB;let Q:Tree:=(p6 F3 KW Lw R8 Hw Lx KX R9 Sb Sd Se Hy KY);have hQ:T .cE Q:=jd;let L:Tree:=.sl Yj;have hL:T .aS L:=mD;refine AX.start 171 4 Tryz.func6 rfl (by decide) rfl rfl (by decide) ?_;refine AX.frames ?_;have c5:=bS yb (x:=A) hA;have tc5:T .aD (nE A):=gp (by decide) hA;have c6:=bS yb (x:=(nE A)) tc5;have tc6:T .aD (nE (nE A)):=gp (by decide) tc5;have c7:=bS yb (x:=B) hB;have tc7:T .aD (nE B):=gp (by decide) hB;have c8:=bS yb (x:=(nE B)) tc7;have tc8:T .aD (nE (nE B)):=gp (by decide) tc7;have c9:=mZ qM (x:=.int .u8 15) (y:=(nE (nE A))) (z:=(nE (nE B))) ⟨⟨_,rfl⟩,tc6,tc8⟩;have tc9:T .aD (aE (nE (nE A)) (nE (nE B))):=jG (by decide) tc6 tc8;have c10:=mZ qM (x:=.int .u8 15) (y:=A) (z:=B) ⟨⟨_,rfl⟩,hA,hB⟩;have aoU:T .aD (aE A B):=jG (by decide) hA hB;have c11:=bS yb (x:=(aE A B)) aoU;have aru:T .aD (nE (aE A B)):=gp (by decide) aoU;have UI:=show ev 8 [.t (aY 12 0 [] [] [] [(aE A B)])] []=some (br.ret (.t (.int .i64 (yy m (nE (aE A B))))) [] []) from(bS z6 (x:=(nE (aE A B))) aru);rcases aL (((yy m (nE (aE A B))) != 0)) with cC|cC
 ·have Kh:=cG cC;exact⟨(),kf ah ([oC (Tk UH),oF,oC c5,oC c6,oC c7,oC c8,oC c9,oC c10,oC c11,oC UI]++rq 4 (oB cC) (rq 8 oT ([])))⟩
 ·have Kh:=bE cC;have Yb:=show ev 8 [.t (aY 15 0 [] [] [] [(nE (nE A)),(nE (nE B))])] []=some (br.ret (.t (.int .i64 (yy m (aE (nE (nE A)) (nE (nE B)))))) [] []) from(bS z6 (x:=(aE (nE (nE A)) (nE (nE B)))) tc9);rcases aL (((yy m (aE (nE (nE A)) (nE (nE B)))) != 0)) with eS|eS
  ·have Dq:=cG eS;exact⟨(),kf ah ([oC (Tk UH),oF,oC c5,oC c6,oC c7,oC c8,oC c9,oC c10,oC c11,oC UI,oB cC,oB cC,oC Yb,oB cC,oB cC]++rq 7 (oB eS) ([oT]))⟩
  ·have Dq:=bE eS;have c14:=mZ qM (x:=.int .u8 15) (y:=A) (z:=A) ⟨⟨_,rfl⟩,hA,hA⟩;have arv:T .aD (aE A A):=jG (by decide) hA hA;have ady:=show ev 8 [.t (aY 15 0 [] [] [] [A,A])] []=some (br.ret (.t (.int .i64 (yy m (aE A A)))) [] []) from(bS z6 (x:=(aE A A)) arv);rcases aL (((yy m (aE A A)) != 0)) with ez|ez
   ·have DH:=cG ez;exact⟨(),kf ah ([oC (Tk UH),oF,oC c5,oC c6,oC c7,oC c8,oC c9,oC c10,oC c11,oC UI,oB cC,oB cC,oC Yb,oB cC,oB cC]++rq 4 (oB eS) ([oC c14,oB eS,oC ady,oB eS,oB eS,oB ez]))⟩
   ·have DH:=bE ez;obtain⟨hb1,hb2,hb3,hb4⟩:=aoR m hA hB hba hbb hQ hL (bE cC) (bE eS) (bE ez);obtain⟨p0,w0,hp0⟩:∃p w,yJ (vO m A Q L)=(p,w):=⟨_,_,rfl⟩;rw[hp0] at hb1 hb2 hb3;rcases Classical.em (w0=0) with hw0|hw0
    ·subst hw0;have c17:ev 10 [.t A,.t Q,.t L] []=some (br.ret (.t (.cF [.bool p0,.int .i64 0])) [] []):=(mZ AO (x:=A) (y:=Q) (z:=L) ⟨hA,hQ,hL⟩).trans (congrArg rB (show yJ (vO m A Q L)=(p0,0) from hp0));have c18:=bS yb (x:=A) hA;have aoV:T .aD (nE A):=gp (by decide) hA;have c19:=bS yb (x:=(nE A)) aoV;have arw:T .aD (nE (nE A)):=gp (by decide) aoV;have c20:ev 10 [.t (nE (nE A)),.t Q,.t L] []=some (br.ret (.t (.cF [.bool p0,.int .i64 0])) [] []):=(mZ AO (x:=(nE (nE A))) (y:=Q) (z:=L) ⟨arw,hQ,hL⟩).trans (congrArg rB (show yJ (vO m (nE (nE A)) Q L)=(p0,0) from hb1));have c21:=mZ qM (x:=.int .u8 15) (y:=A) (z:=A) ⟨⟨_,rfl⟩,hA,hA⟩;have arx:T .aD (aE A A):=jG (by decide) hA hA;have c22:ev 10 [.t (aE A A),.t Q,.t L] []=some (br.ret (.t (.cF [.bool p0,.int .i64 0])) [] []):=(mZ AO (x:=(aE A A)) (y:=Q) (z:=L) ⟨arx,hQ,hL⟩).trans (congrArg rB (show yJ (vO m (aE A A) Q L)=(p0,0) from hb2));have c23:=mZ qM (x:=.int .u8 16) (y:=A) (z:=A) ⟨⟨_,rfl⟩,hA,hA⟩;have ary:T .aD (yK A A):=jG (by decide) hA hA;have c24:ev 10 [.t (yK A A),.t Q,.t L] []=some (br.ret (.t (.cF [.bool p0,.int .i64 0])) [] []):=(mZ AO (x:=(yK A A)) (y:=Q) (z:=L) ⟨ary,hQ,hL⟩).trans (congrArg rB (show yJ (vO m (yK A A) Q L)=(p0,0) from hb3));have c25:=mZ qM (x:=.int .u8 15) (y:=A) (z:=B) ⟨⟨_,rfl⟩,hA,hB⟩;have aoW:T .aD (aE A B):=jG (by decide) hA hB;have c26:=bS yb (x:=(aE A B)) aoW;have aoX:T .aD (nE (aE A B)):=gp (by decide) aoW;obtain⟨p4,w4,hp4⟩:∃p w,yJ (vO m (nE (aE A B)) Q L)=(p,w):=⟨_,_,rfl⟩;replace hb4:=hb4.symm.trans hp4;rcases Classical.em (w4=0) with AP|AP
     ·subst AP;have c28:ev 10 [.t (nE (aE A B)),.t Q,.t L] []=some (br.ret (.t (.cF [.bool p4,.int .i64 0])) [] []):=(mZ AO (x:=(nE (aE A B))) (y:=Q) (z:=L) ⟨aoX,hQ,hL⟩).trans (congrArg rB (show yJ (vO m (nE (aE A B)) Q L)=(p4,0) from hp4));have c29:=bS yb (x:=A) hA;have aoY:T .aD (nE A):=gp (by decide) hA;have c30:=bS yb (x:=B) hB;have aoZ:T .aD (nE B):=gp (by decide) hB;have c31:=mZ qM (x:=.int .u8 16) (y:=(nE A)) (z:=(nE B)) ⟨⟨_,rfl⟩,aoY,aoZ⟩;have arz:T .aD (yK (nE A) (nE B)):=jG (by decide) aoY aoZ;have c32:ev 10 [.t (yK (nE A) (nE B)),.t Q,.t L] []=some (br.ret (.t (.cF [.bool p4,.int .i64 0])) [] []):=(mZ AO (x:=(yK (nE A) (nE B))) (y:=Q) (z:=L) ⟨arz,hQ,hL⟩).trans (congrArg rB (show yJ (vO m (yK (nE A) (nE B)) Q L)=(p4,0) from hb4));have hs:(p4==p4)=true:=(aoS p4);exact⟨(),cast (congrArg (λz=>KE (cf m) (uD (cf m) _ 0 (.ret (.t (.bool z)) [] [])) _ _ _) hs) (kf ah ([oC (Tk UH),oF,oC c5,oC c6,oC c7,oC c8,oC c9,oC c10,oC c11,oC UI,oB cC,oB cC,oC Yb,oB cC,oB cC]++rq 4 (oB eS) ([oC c14,oB eS,oC ady,oB eS,oB eS,oB ez,oC c17,oC c18,oC c19,oC c20,oC c21,oC c22,oC c23,oC c24]++rq 11 oF (rq 4 oT ([oB (yE p0),oB (yE p0),oB (yE p0),oT,oB (yE p0),oT,oB (yE p0),oB (yE p0),oB (yE p0),oT,oB (yE p0),oF,oT,oF,oB (yE p0),oC c25,oC c26,oC c28,oC c29,oC c30,oC c31,oC c32,oT,oT,oT,oF,oF,oF,oT,oF,oT])))))⟩
     ·have c27:ev 10 [.t (nE (aE A B)),.t Q,.t L] []=some (br.ret (.t (.cF [.bool p4,.int .i64 w4])) [] []):=(mZ AO (x:=(nE (aE A B))) (y:=Q) (z:=L) ⟨aoX,hQ,hL⟩).trans (congrArg rB (show yJ (vO m (nE (aE A B)) Q L)=(p4,w4) from hp4));have c33:=bS yb (x:=A) hA;have ao0:T .aD (nE A):=gp (by decide) hA;have c34:=bS yb (x:=B) hB;have ao1:T .aD (nE B):=gp (by decide) hB;have c35:=mZ qM (x:=.int .u8 16) (y:=(nE A)) (z:=(nE B)) ⟨⟨_,rfl⟩,ao0,ao1⟩;have arA:T .aD (yK (nE A) (nE B)):=jG (by decide) ao0 ao1;obtain⟨w5,Yc⟩:∃k,k=w4:=⟨_,rfl⟩;have c36:ev 10 [.t (yK (nE A) (nE B)),.t Q,.t L] []=some (br.ret (.t (.cF [.bool p4,.int .i64 w5])) [] []):=(mZ AO (x:=(yK (nE A) (nE B))) (y:=Q) (z:=L) ⟨arA,hQ,hL⟩).trans (congrArg rB (show yJ (vO m (yK (nE A) (nE B)) Q L)=(p4,w5) from(by rw[Yc];exact hb4)));exact⟨(),kf ah ([oC (Tk UH),oF,oC c5,oC c6,oC c7,oC c8,oC c9,oC c10,oC c11,oC UI,oB cC,oB cC,oC Yb,oB cC,oB cC]++rq 4 (oB eS) ([oC c14,oB eS,oC ady,oB eS,oB eS,oB ez,oC c17,oC c18,oC c19,oC c20,oC c21,oC c22,oC c23,oC c24]++rq 11 oF (rq 4 oT ([oB (yE p0),oB (yE p0),oB (yE p0),oT,oB (yE p0),oT,oB (yE p0),oB (yE p0),oB (yE p0),oT,oB (yE p0),oF,oT,oF,oB (yE p0),oC c25,oC c26,oC c27,oC c33,oC c34,oC c35,oC c36,oB (Lv AP (Yc▸AP)),oB (Lv AP (Yc▸AP)),oB (Lv AP (Yc▸AP)),oB (bne_iff_ne.mpr AP),oB (bne_iff_ne.mpr AP),oB (bne_iff_ne.mpr AP),oB (Lv AP (Yc▸AP)),oB (bne_iff_ne.mpr AP),oB (Lv AP (Yc▸AP))]))))⟩
    ·have c16:ev 10 [.t A,.t Q,.t L] []=some (br.ret (.t (.cF [.bool p0,.int .i64 w0])) [] []):=(mZ AO (x:=A) (y:=Q) (z:=L) ⟨hA,hQ,hL⟩).trans (congrArg rB (show yJ (vO m A Q L)=(p0,w0) from hp0));have c37:=bS yb (x:=A) hA;have ao2:T .aD (nE A):=gp (by decide) hA;have c38:=bS yb (x:=(nE A)) ao2;have arB:T .aD (nE (nE A)):=gp (by decide) ao2;obtain⟨w1,hw1⟩:∃k,k=w0:=⟨_,rfl⟩;have c39:ev 10 [.t (nE (nE A)),.t Q,.t L] []=some (br.ret (.t (.cF [.bool p0,.int .i64 w1])) [] []):=(mZ AO (x:=(nE (nE A))) (y:=Q) (z:=L) ⟨arB,hQ,hL⟩).trans (congrArg rB (show yJ (vO m (nE (nE A)) Q L)=(p0,w1) from(by rw[hw1];exact hb1)));have c40:=mZ qM (x:=.int .u8 15) (y:=A) (z:=A) ⟨⟨_,rfl⟩,hA,hA⟩;have arC:T .aD (aE A A):=jG (by decide) hA hA;obtain⟨w2,hw2⟩:∃k,k=w0:=⟨_,rfl⟩;have c41:ev 10 [.t (aE A A),.t Q,.t L] []=some (br.ret (.t (.cF [.bool p0,.int .i64 w2])) [] []):=(mZ AO (x:=(aE A A)) (y:=Q) (z:=L) ⟨arC,hQ,hL⟩).trans (congrArg rB (show yJ (vO m (aE A A) Q L)=(p0,w2) from(by rw[hw2];exact hb2)));have c42:=mZ qM (x:=.int .u8 16) (y:=A) (z:=A) ⟨⟨_,rfl⟩,hA,hA⟩;have arD:T .aD (yK A A):=jG (by decide) hA hA;obtain⟨w3,hw3⟩:∃k,k=w0:=⟨_,rfl⟩;have c43:ev 10 [.t (yK A A),.t Q,.t L] []=some (br.ret (.t (.cF [.bool p0,.int .i64 w3])) [] []):=(mZ AO (x:=(yK A A)) (y:=Q) (z:=L) ⟨arD,hQ,hL⟩).trans (congrArg rB (show yJ (vO m (yK A A) Q L)=(p0,w3) from(by rw[hw3];exact hb3)));have c44:=mZ qM (x:=.int .u8 15) (y:=A) (z:=B) ⟨⟨_,rfl⟩,hA,hB⟩;have ao3:T .aD (aE A B):=jG (by decide) hA hB;have c45:=bS yb (x:=(aE A B)) ao3;have ao4:T .aD (nE (aE A B)):=gp (by decide) ao3;obtain⟨p4,w4,hp4⟩:∃p w,yJ (vO m (nE (aE A B)) Q L)=(p,w):=⟨_,_,rfl⟩;replace hb4:=hb4.symm.trans hp4;rcases Classical.em (w4=0) with AP|AP
     ·subst AP;have c47:ev 10 [.t (nE (aE A B)),.t Q,.t L] []=some (br.ret (.t (.cF [.bool p4,.int .i64 0])) [] []):=(mZ AO (x:=(nE (aE A B))) (y:=Q) (z:=L) ⟨ao4,hQ,hL⟩).trans (congrArg rB (show yJ (vO m (nE (aE A B)) Q L)=(p4,0) from hp4));have c48:=bS yb (x:=A) hA;have ao5:T .aD (nE A):=gp (by decide) hA;have c49:=bS yb (x:=B) hB;have ao6:T .aD (nE B):=gp (by decide) hB;have c50:=mZ qM (x:=.int .u8 16) (y:=(nE A)) (z:=(nE B)) ⟨⟨_,rfl⟩,ao5,ao6⟩;have arE:T .aD (yK (nE A) (nE B)):=jG (by decide) ao5 ao6;have c51:ev 10 [.t (yK (nE A) (nE B)),.t Q,.t L] []=some (br.ret (.t (.cF [.bool p4,.int .i64 0])) [] []):=(mZ AO (x:=(yK (nE A) (nE B))) (y:=Q) (z:=L) ⟨arE,hQ,hL⟩).trans (congrArg rB (show yJ (vO m (yK (nE A) (nE B)) Q L)=(p4,0) from hb4));have hs:(p4==p4)=true:=(aoS p4);exact⟨(),cast (congrArg (λz=>KE (cf m) (uD (cf m) _ 0 (.ret (.t (.bool z)) [] [])) _ _ _) hs) (kf ah ([oC (Tk UH),oF,oC c5,oC c6,oC c7,oC c8,oC c9,oC c10,oC c11,oC UI,oB cC,oB cC,oC Yb,oB cC,oB cC]++rq 4 (oB eS) ([oC c14,oB eS,oC ady,oB eS,oB eS,oB ez,oC c16,oC c37,oC c38,oC c39,oC c40,oC c41,oC c42,oC c43]++rq 4 (oB (aoT hw0 (hw1▸hw0))) (rq 4 (oB (Ym hw2)) ([oB (Ym hw3),oB (Ym hw3),oB (Ym hw3)]++rq 7 (oB (beq_false_of_ne hw0)) ([oB (Ym hw3),oB (beq_false_of_ne hw0),oB (Ym hw3),oF,oC c44,oC c45,oC c47,oC c48,oC c49,oC c50,oC c51,oT,oT,oT,oF,oF,oF,oT,oF,oT]))))))⟩
     ·have c46:ev 10 [.t (nE (aE A B)),.t Q,.t L] []=some (br.ret (.t (.cF [.bool p4,.int .i64 w4])) [] []):=(mZ AO (x:=(nE (aE A B))) (y:=Q) (z:=L) ⟨ao4,hQ,hL⟩).trans (congrArg rB (show yJ (vO m (nE (aE A B)) Q L)=(p4,w4) from hp4));have c52:=bS yb (x:=A) hA;have ao7:T .aD (nE A):=gp (by decide) hA;have c53:=bS yb (x:=B) hB;have ao8:T .aD (nE B):=gp (by decide) hB;have c54:=mZ qM (x:=.int .u8 16) (y:=(nE A)) (z:=(nE B)) ⟨⟨_,rfl⟩,ao7,ao8⟩;have arF:T .aD (yK (nE A) (nE B)):=jG (by decide) ao7 ao8;obtain⟨w5,Yc⟩:∃k,k=w4:=⟨_,rfl⟩;have c55:ev 10 [.t (yK (nE A) (nE B)),.t Q,.t L] []=some (br.ret (.t (.cF [.bool p4,.int .i64 w5])) [] []):=(mZ AO (x:=(yK (nE A) (nE B))) (y:=Q) (z:=L) ⟨arF,hQ,hL⟩).trans (congrArg rB (show yJ (vO m (yK (nE A) (nE B)) Q L)=(p4,w5) from(by rw[Yc];exact hb4)));exact⟨(),kf ah ([oC (Tk UH),oF,oC c5,oC c6,oC c7,oC c8,oC c9,oC c10,oC c11,oC UI,oB cC,oB cC,oC Yb,oB cC,oB cC]++rq 4 (oB eS) ([oC c14,oB eS,oC ady,oB eS,oB eS,oB ez,oC c16,oC c37,oC c38,oC c39,oC c40,oC c41,oC c42,oC c43]++rq 4 (oB (aoT hw0 (hw1▸hw0))) (rq 4 (oB (Ym hw2)) ([oB (Ym hw3),oB (Ym hw3),oB (Ym hw3)]++rq 7 (oB (beq_false_of_ne hw0)) ([oB (Ym hw3),oB (beq_false_of_ne hw0),oB (Ym hw3),oF,oC c44,oC c45,oC c46,oC c52,oC c53,oC c54,oC c55,oB (Lv AP (Yc▸AP)),oB (Lv AP (Yc▸AP)),oB (Lv AP (Yc▸AP)),oB (bne_iff_ne.mpr AP),oB (bne_iff_ne.mpr AP),oB (bne_iff_ne.mpr AP),oB (Lv AP (Yc▸AP)),oB (bne_iff_ne.mpr AP),oB (Lv AP (Yc▸AP))])))))⟩
end
end Go.Proofs.YtfdnciimclnncaaGreatDoor.w.e
