/- scene.eval: a step. -/
import Derived.Test.YtfdnciimclnncaaGreatDoorAE
import Derived.Test.YtfdnciimclnncaaGreatDoorZ
import Derived.Test.YtfdnciimclnncaaGreatDoorAC
import Derived.Test.YtfdnciimclnncaaGreatDoorR
import Derived.Defers
import Derived.Recover
set_option linter.unusedVariables false
set_option linter.unusedSimpArgs false
namespace Go.Proofs.YtfdnciimclnncaaGreatDoor.w.e
open Go Go.Abs
set_option maxRecDepth 100000
set_option maxHeartbeats 2000000
noncomputable section
theorem mK {l:List Tree}{i:Nat}(h:i<l.length):jP l i∈l:=by
 rw[fM (List.getElem?_eq_getElem h)];exact List.getElem_mem h
open Classical in
def OT (pt:List TV)(ob:List aO)(n:Nat)(F:Nat->Tree ⊕ Int):List TV->List aO->Option br:=λa o=>if h:∃i:Nat,i<n/\a=.t (.int .i64 (i:Int))::pt/\o=ob then some (aM (F h.choose) ob) else none
theorem Eg {C:ey}{g:FuncId}{pt:List TV}{ob:List aO}{n:Nat}{F:Nat->Tree ⊕ Int}(h:∀i,i<n->ai C g (.t (.int .i64 (i:Int))::pt) ob (aM (F i) ob)):kN C g (OT pt ob n F):=λa o q hq=>by
 unfold OT at hq;split at hq
 ·rename_i hp;cases hq;obtain⟨h1,h2,h3⟩:=hp.choose_spec;have h4:=h _ h1;have key:∀a' o',a'=TV.t (.int .i64 ((hp.choose:Nat):Int))::pt->o'=ob->ai C g a' o' (aM (F hp.choose) ob):=λa' o' e1 e2=>by
   rw[e1,e2];exact h4
  exact key a o h2 h3
 ·cases hq
theorem fk {ev:bt}{g:FuncId}{pt:List TV}{ob:List aO}{n:Nat}{F:Nat->Tree ⊕ Int}(h:Has ev g (OT pt ob n F))(i:Nat)(hi:i<n):ev g (.t (.int .i64 (i:Int))::pt) ob=some (aM (F i) ob):=by
 refine h _ _ _ ?_;have hp:∃j:Nat,j<n/\TV.t (.int .i64 (i:Int))::pt=.t (.int .i64 (j:Int))::pt/\ob=ob:=⟨i,hi,rfl,rfl⟩;unfold OT;rw[dif_pos hp];have e:=hp.choose_spec.2.1;have e2:((i:Nat):Int)=((hp.choose:Nat):Int):=by
  injection e with e _;injection e with e;injection e
 rw[← Int.ofNat.inj e2]
open Classical in
def agy (q:Sc)(e:Tree)(G:List Tree->Tree ⊕ Int):List TV->List aO->Option br:=λa o=>match a with
 | [.ptr (.arg 0) 0,.t x,.t (.sl l)]=>if x=e/\o=[Ss q]/\PO q e l then some (aM (G l) [Ss q]) else none
 |_=>none
theorem agz {C:ey}{g:FuncId}{q:Sc}{e:Tree}{G:List Tree->Tree ⊕ Int}(h:∀l,PO q e l->ai C g [.ptr (.arg 0) 0,.t e,.t (.sl l)] [Ss q] (aM (G l) [Ss q])):kN C g (agy q e G):=λa o r hq=>by
 unfold agy at hq;split at hq
 ·split at hq
  ·rename_i hp;obtain⟨rfl,rfl,hp⟩:=hp;cases hq;exact h _ hp
  ·cases hq
 ·cases hq
theorem agA {ev:bt}{g:FuncId}{q:Sc}{e:Tree}{G:List Tree->Tree ⊕ Int}(h:Has ev g (agy q e G)){l:List Tree}(hl:PO q e l):ev g [.ptr (.arg 0) 0,.t e,.t (.sl l)] [Ss q]=some (aM (G l) [Ss q]):=h _ _ _ (if_pos ⟨rfl,rfl,hl⟩)
theorem arh {c:Prop}[Decidable c]{a b k:Nat}(h:Nat.beq a k=false)(h2:Nat.beq b k=false):Nat.beq (if c then a else b) k=false:=by
 by_cases hc:c
 ·rw[if_pos hc];exact h
 ·rw[if_neg hc];exact h2
theorem akw (op:Int):Nat.beq (gOf op) 51=false:=by
 unfold gOf;repeat refine arh rfl ?_
 rfl
theorem Eh (m:Int){op:Int}(h0:1<=op)(h1:op<30)(Sj:op≠14)(Ql:op≠15)(h16:op≠16):A5 (cf m).P 66 aP (.t (.int .u8 op)) false=some (.t (.fn (.func (gOf op)))):=by
 have II:op=1\/op=2\/op=3\/op=4\/op=5\/op=6\/op=7\/op=8\/op=9\/op=10\/op=11\/op=12\/op=13\/op=17\/op=18\/op=19\/op=20\/op=21\/op=22\/op=23\/op=24\/op=25\/op=26\/op=27\/op=28\/op=29:=by omega
 rcases II with rfl|rfl|rfl|rfl|rfl|rfl|rfl|rfl|rfl|rfl|rfl|rfl|rfl|rfl|rfl|rfl|rfl|rfl|rfl|rfl|rfl|rfl|rfl|rfl|rfl|rfl<;>exact(show A5 _ _ _ _ _=some _ by kernel_rfl)
theorem aoE (m:Int)(q:Sc)(n:Int)(s t:List UInt8)(ns ks:List Tree)(hE:T .aD (aY 14 n s t ns ks))(lk:ks.length<=4194304)(hks:∀y∈ks,T .aD y)(f:Tree->Tree ⊕ Int)(hf:∀x∈ks,ai (cf m) 27 [.ptr (.arg 0) 0,.t x,.map (.arg 1)] [.cells 63 (aU q),.map aP 26] (aM (f x) [.cells 63 (aU q),.map aP 26]))(Em:∀x∈ks,∀v,f x=.inl v->T .az v)(hlen:ks.length=3):∃r:{r:Tree ⊕ Int // r=gD (f (jP ks 0)) (f (jP ks 1)) (f (jP ks 2))},ai (cf m) 27 [.ptr (.arg 0) 0,.t (aY 14 n s t ns ks),.map (.arg 1)] [.cells 63 (aU q),.map aP 26] (aM r.1 [.cells 63 (aU q),.map aP 26]):=by
 obtain⟨ev,aJ,gA,bD⟩:∃ev,aC (cf m) ev/\Has ev 51 (OT [.ptr (.arg 0) 0,.ptr (.arg 1) 0,.ptr (.arg 2) 0] [.cells 61 [.ptr (.arg 3) 0],.cells 26 (bg 14 n s t ns ks),.cells 66 [.map (.arg 4)],.cells 63 (aU q),.map aP 26] ks.length (λi=>f (jP ks i)))/\Has ev 52 sw:=⟨_,(aq (Eg (λi hi=>by obtain⟨⟨r,rfl⟩,h⟩:=KO m q 14 n s t ns ks lk hks f hf Em i hi;exact h)) (aq (jX m) aF)),au,(av rfl au)⟩;refine AX.start 61 3 Tryz.func27 rfl (by decide) rfl rfl (by decide) ?_;refine AX.frames ?_;rcases hr_1:f (jP ks 0) with v_1|w_1
 ·have adb:=Em _ (mK (by omega)) _ hr_1;obtain⟨k_1,b_1,n_1,s_1,t_1,je,vS,rfl,_⟩:=T.aB adb;rcases aL ((k_1==0)) with hk2|hk2
  ·have Uf:=eq_of_beq hk2;rcases aL (b_1) with bL|bL
   ·rcases hr_4:f (jP ks 1) with Yj|Uw
    ·have OU:=Em _ (mK (by omega)) _ hr_4;obtain⟨En,K3,yj,yl,K4,K5,K6,rfl,_⟩:=T.aB OU;refine⟨⟨.inl (aA En K3 yj yl K4 K5 K6),(by first|(simp only[gD,dJ,kd,iJ,k6,hr_1,hr_4,hk2,bL,cond_true,cond_false];done)|(simp[gD,dJ,kd,iJ,k6,hr_1,hr_4,hk2,bL];done)|(simp_all [gD,dJ,kd,iJ,k6];done))⟩,kf ah [oT,oN (o:=.map aP 26) bf,oC (show ev 51 (.t (.int .i64 ((0:Nat):Int))::[.ptr (.arg 0) 0,.ptr (.arg 1) 0,.ptr (.arg 2) 0]) [.cells 61 [.ptr (.arg 3) 0],.cells 26 (bg 14 n s t ns ks),.cells 66 [.map (.arg 4)],.cells 63 (aU q),.map aP 26]=some (aM (.inl (aA k_1 b_1 n_1 s_1 t_1 je vS)) [.cells 61 [.ptr (.arg 3) 0],.cells 26 (bg 14 n s t ns ks),.cells 66 [.map (.arg 4)],.cells 63 (aU q),.map aP 26]) from(fk gA 0 (by omega)).trans (congrArg (λz=>some (aM z [.cells 61 [.ptr (.arg 3) 0],.cells 26 (bg 14 n s t ns ks),.cells 66 [.map (.arg 4)],.cells 63 (aU q),.map aP 26])) hr_1)),oN (o:=.map aP 26) bf,oC (show ev 52 [.t (aA k_1 b_1 n_1 s_1 t_1 je vS),.t (.int .u8 0)] []=some (aM (.inl (aA k_1 b_1 n_1 s_1 t_1 je vS)) []) from bD _ _ _ (by show some (aM (cond ((k_1==0)) _ _) [])=_;rw[hk2];rfl)),oB bL,oN (o:=.map aP 26) bf,oC (show ev 51 (.t (.int .i64 ((1:Nat):Int))::[.ptr (.arg 0) 0,.ptr (.arg 1) 0,.ptr (.arg 2) 0]) [.cells 61 [.ptr (.arg 3) 0],.cells 26 (bg 14 n s t ns ks),.cells 66 [.map (.arg 4)],.cells 63 (aU q),.map aP 26]=some (aM (.inl (aA En K3 yj yl K4 K5 K6)) [.cells 61 [.ptr (.arg 3) 0],.cells 26 (bg 14 n s t ns ks),.cells 66 [.map (.arg 4)],.cells 63 (aU q),.map aP 26]) from(fk gA 1 (by omega)).trans (congrArg (λz=>some (aM z [.cells 61 [.ptr (.arg 3) 0],.cells 26 (bg 14 n s t ns ks),.cells 66 [.map (.arg 4)],.cells 63 (aU q),.map aP 26])) hr_4)),oN (o:=.map aP 26) bf,oN (o:=.map aP 26) (λ_=>rfl)]⟩
    ·refine⟨⟨.inr (Uw),(by first|(simp only[gD,dJ,kd,iJ,k6,hr_1,hr_4,hk2,bL,cond_true,cond_false];done)|(simp[gD,dJ,kd,iJ,k6,hr_1,hr_4,hk2,bL];done)|(simp_all [gD,dJ,kd,iJ,k6];done))⟩,kf ah [oT,oN (o:=.map aP 26) bf,oC (show ev 51 (.t (.int .i64 ((0:Nat):Int))::[.ptr (.arg 0) 0,.ptr (.arg 1) 0,.ptr (.arg 2) 0]) [.cells 61 [.ptr (.arg 3) 0],.cells 26 (bg 14 n s t ns ks),.cells 66 [.map (.arg 4)],.cells 63 (aU q),.map aP 26]=some (aM (.inl (aA k_1 b_1 n_1 s_1 t_1 je vS)) [.cells 61 [.ptr (.arg 3) 0],.cells 26 (bg 14 n s t ns ks),.cells 66 [.map (.arg 4)],.cells 63 (aU q),.map aP 26]) from(fk gA 0 (by omega)).trans (congrArg (λz=>some (aM z [.cells 61 [.ptr (.arg 3) 0],.cells 26 (bg 14 n s t ns ks),.cells 66 [.map (.arg 4)],.cells 63 (aU q),.map aP 26])) hr_1)),oN (o:=.map aP 26) bf,oC (show ev 52 [.t (aA k_1 b_1 n_1 s_1 t_1 je vS),.t (.int .u8 0)] []=some (aM (.inl (aA k_1 b_1 n_1 s_1 t_1 je vS)) []) from bD _ _ _ (by show some (aM (cond ((k_1==0)) _ _) [])=_;rw[hk2];rfl)),oB bL,oN (o:=.map aP 26) bf,oC (show ev 51 (.t (.int .i64 ((1:Nat):Int))::[.ptr (.arg 0) 0,.ptr (.arg 1) 0,.ptr (.arg 2) 0]) [.cells 61 [.ptr (.arg 3) 0],.cells 26 (bg 14 n s t ns ks),.cells 66 [.map (.arg 4)],.cells 63 (aU q),.map aP 26]=some (aM (.inr Uw) [.cells 61 [.ptr (.arg 3) 0],.cells 26 (bg 14 n s t ns ks),.cells 66 [.map (.arg 4)],.cells 63 (aU q),.map aP 26]) from(fk gA 1 (by omega)).trans (congrArg (λz=>some (aM z [.cells 61 [.ptr (.arg 3) 0],.cells 26 (bg 14 n s t ns ks),.cells 66 [.map (.arg 4)],.cells 63 (aU q),.map aP 26])) hr_4))]⟩
   ·rcases Ux:f (jP ks 2) with v_5|Ci
    ·have ari:=Em _ (mK (by omega)) _ Ux;obtain⟨k_5,b_5,rD,Be,t_5,N_5,L_5,rfl,_⟩:=T.aB ari;refine⟨⟨.inl (aA k_5 b_5 rD Be t_5 N_5 L_5),(by first|(simp only[gD,dJ,kd,iJ,k6,hr_1,Ux,hk2,bL,cond_true,cond_false];done)|(simp[gD,dJ,kd,iJ,k6,hr_1,Ux,hk2,bL];done)|(simp_all [gD,dJ,kd,iJ,k6];done))⟩,kf ah [oT,oN (o:=.map aP 26) bf,oC (show ev 51 (.t (.int .i64 ((0:Nat):Int))::[.ptr (.arg 0) 0,.ptr (.arg 1) 0,.ptr (.arg 2) 0]) [.cells 61 [.ptr (.arg 3) 0],.cells 26 (bg 14 n s t ns ks),.cells 66 [.map (.arg 4)],.cells 63 (aU q),.map aP 26]=some (aM (.inl (aA k_1 b_1 n_1 s_1 t_1 je vS)) [.cells 61 [.ptr (.arg 3) 0],.cells 26 (bg 14 n s t ns ks),.cells 66 [.map (.arg 4)],.cells 63 (aU q),.map aP 26]) from(fk gA 0 (by omega)).trans (congrArg (λz=>some (aM z [.cells 61 [.ptr (.arg 3) 0],.cells 26 (bg 14 n s t ns ks),.cells 66 [.map (.arg 4)],.cells 63 (aU q),.map aP 26])) hr_1)),oN (o:=.map aP 26) bf,oC (show ev 52 [.t (aA k_1 b_1 n_1 s_1 t_1 je vS),.t (.int .u8 0)] []=some (aM (.inl (aA k_1 b_1 n_1 s_1 t_1 je vS)) []) from bD _ _ _ (by show some (aM (cond ((k_1==0)) _ _) [])=_;rw[hk2];rfl)),oB bL,oN (o:=.map aP 26) bf,oC (show ev 51 (.t (.int .i64 ((2:Nat):Int))::[.ptr (.arg 0) 0,.ptr (.arg 1) 0,.ptr (.arg 2) 0]) [.cells 61 [.ptr (.arg 3) 0],.cells 26 (bg 14 n s t ns ks),.cells 66 [.map (.arg 4)],.cells 63 (aU q),.map aP 26]=some (aM (.inl (aA k_5 b_5 rD Be t_5 N_5 L_5)) [.cells 61 [.ptr (.arg 3) 0],.cells 26 (bg 14 n s t ns ks),.cells 66 [.map (.arg 4)],.cells 63 (aU q),.map aP 26]) from(fk gA 2 (by omega)).trans (congrArg (λz=>some (aM z [.cells 61 [.ptr (.arg 3) 0],.cells 26 (bg 14 n s t ns ks),.cells 66 [.map (.arg 4)],.cells 63 (aU q),.map aP 26])) Ux)),oN (o:=.map aP 26) bf,oN (o:=.map aP 26) (λ_=>rfl)]⟩
    ·refine⟨⟨.inr (Ci),(by first|(simp only[gD,dJ,kd,iJ,k6,hr_1,Ux,hk2,bL,cond_true,cond_false];done)|(simp[gD,dJ,kd,iJ,k6,hr_1,Ux,hk2,bL];done)|(simp_all [gD,dJ,kd,iJ,k6];done))⟩,kf ah [oT,oN (o:=.map aP 26) bf,oC (show ev 51 (.t (.int .i64 ((0:Nat):Int))::[.ptr (.arg 0) 0,.ptr (.arg 1) 0,.ptr (.arg 2) 0]) [.cells 61 [.ptr (.arg 3) 0],.cells 26 (bg 14 n s t ns ks),.cells 66 [.map (.arg 4)],.cells 63 (aU q),.map aP 26]=some (aM (.inl (aA k_1 b_1 n_1 s_1 t_1 je vS)) [.cells 61 [.ptr (.arg 3) 0],.cells 26 (bg 14 n s t ns ks),.cells 66 [.map (.arg 4)],.cells 63 (aU q),.map aP 26]) from(fk gA 0 (by omega)).trans (congrArg (λz=>some (aM z [.cells 61 [.ptr (.arg 3) 0],.cells 26 (bg 14 n s t ns ks),.cells 66 [.map (.arg 4)],.cells 63 (aU q),.map aP 26])) hr_1)),oN (o:=.map aP 26) bf,oC (show ev 52 [.t (aA k_1 b_1 n_1 s_1 t_1 je vS),.t (.int .u8 0)] []=some (aM (.inl (aA k_1 b_1 n_1 s_1 t_1 je vS)) []) from bD _ _ _ (by show some (aM (cond ((k_1==0)) _ _) [])=_;rw[hk2];rfl)),oB bL,oN (o:=.map aP 26) bf,oC (show ev 51 (.t (.int .i64 ((2:Nat):Int))::[.ptr (.arg 0) 0,.ptr (.arg 1) 0,.ptr (.arg 2) 0]) [.cells 61 [.ptr (.arg 3) 0],.cells 26 (bg 14 n s t ns ks),.cells 66 [.map (.arg 4)],.cells 63 (aU q),.map aP 26]=some (aM (.inr Ci) [.cells 61 [.ptr (.arg 3) 0],.cells 26 (bg 14 n s t ns ks),.cells 66 [.map (.arg 4)],.cells 63 (aU q),.map aP 26]) from(fk gA 2 (by omega)).trans (congrArg (λz=>some (aM z [.cells 61 [.ptr (.arg 3) 0],.cells 26 (bg 14 n s t ns ks),.cells 66 [.map (.arg 4)],.cells 63 (aU q),.map aP 26])) Ux))]⟩
  ·have Uf:=ne_of_beq_false hk2;refine⟨⟨.inr (7),(by first|(simp only[gD,dJ,kd,iJ,k6,hr_1,hk2,cond_true,cond_false];done)|(simp[gD,dJ,kd,iJ,k6,hr_1,hk2];done)|(simp_all [gD,dJ,kd,iJ,k6];done))⟩,kf ah [oT,oN (o:=.map aP 26) bf,oC (show ev 51 (.t (.int .i64 ((0:Nat):Int))::[.ptr (.arg 0) 0,.ptr (.arg 1) 0,.ptr (.arg 2) 0]) [.cells 61 [.ptr (.arg 3) 0],.cells 26 (bg 14 n s t ns ks),.cells 66 [.map (.arg 4)],.cells 63 (aU q),.map aP 26]=some (aM (.inl (aA k_1 b_1 n_1 s_1 t_1 je vS)) [.cells 61 [.ptr (.arg 3) 0],.cells 26 (bg 14 n s t ns ks),.cells 66 [.map (.arg 4)],.cells 63 (aU q),.map aP 26]) from(fk gA 0 (by omega)).trans (congrArg (λz=>some (aM z [.cells 61 [.ptr (.arg 3) 0],.cells 26 (bg 14 n s t ns ks),.cells 66 [.map (.arg 4)],.cells 63 (aU q),.map aP 26])) hr_1)),oN (o:=.map aP 26) bf,oC (show ev 52 [.t (aA k_1 b_1 n_1 s_1 t_1 je vS),.t (.int .u8 0)] []=some (aM (.inr (7)) []) from bD _ _ _ (by show some (aM (cond ((k_1==0)) _ _) [])=_;rw[hk2];rfl))]⟩
 ·refine⟨⟨.inr (w_1),(by first|(simp only[gD,dJ,kd,iJ,k6,hr_1,cond_true,cond_false];done)|(simp[gD,dJ,kd,iJ,k6,hr_1];done)|(simp_all [gD,dJ,kd,iJ,k6];done))⟩,kf ah [oT,oN (o:=.map aP 26) bf,oC (show ev 51 (.t (.int .i64 ((0:Nat):Int))::[.ptr (.arg 0) 0,.ptr (.arg 1) 0,.ptr (.arg 2) 0]) [.cells 61 [.ptr (.arg 3) 0],.cells 26 (bg 14 n s t ns ks),.cells 66 [.map (.arg 4)],.cells 63 (aU q),.map aP 26]=some (aM (.inr w_1) [.cells 61 [.ptr (.arg 3) 0],.cells 26 (bg 14 n s t ns ks),.cells 66 [.map (.arg 4)],.cells 63 (aU q),.map aP 26]) from(fk gA 0 (by omega)).trans (congrArg (λz=>some (aM z [.cells 61 [.ptr (.arg 3) 0],.cells 26 (bg 14 n s t ns ks),.cells 66 [.map (.arg 4)],.cells 63 (aU q),.map aP 26])) hr_1))]⟩
theorem akx (m:Int)(q:Sc)(n:Int)(s t:List UInt8)(ns ks:List Tree)(hE:T .aD (aY 15 n s t ns ks))(lk:ks.length<=4194304)(hks:∀y∈ks,T .aD y)(f:Tree->Tree ⊕ Int)(hf:∀x∈ks,ai (cf m) 27 [.ptr (.arg 0) 0,.t x,.map (.arg 1)] [.cells 63 (aU q),.map aP 26] (aM (f x) [.cells 63 (aU q),.map aP 26]))(Em:∀x∈ks,∀v,f x=.inl v->T .az v)(hlen:ks.length=2):∃r:{r:Tree ⊕ Int // r=dJ 15 (f (jP ks 0)) (f (jP ks 1))},ai (cf m) 27 [.ptr (.arg 0) 0,.t (aY 15 n s t ns ks),.map (.arg 1)] [.cells 63 (aU q),.map aP 26] (aM r.1 [.cells 63 (aU q),.map aP 26]):=by
 obtain⟨ev,aJ,gA,bD⟩:∃ev,aC (cf m) ev/\Has ev 51 (OT [.ptr (.arg 0) 0,.ptr (.arg 1) 0,.ptr (.arg 2) 0] [.cells 61 [.ptr (.arg 3) 0],.cells 26 (bg 15 n s t ns ks),.cells 66 [.map (.arg 4)],.cells 63 (aU q),.map aP 26] ks.length (λi=>f (jP ks i)))/\Has ev 52 sw:=⟨_,(aq (Eg (λi hi=>by obtain⟨⟨r,rfl⟩,h⟩:=KO m q 15 n s t ns ks lk hks f hf Em i hi;exact h)) (aq (jX m) aF)),au,(av rfl au)⟩;refine AX.start 61 3 Tryz.func27 rfl (by decide) rfl rfl (by decide) ?_;refine AX.frames ?_;rcases hr_1:f (jP ks 0) with v_1|w_1
 ·have adb:=Em _ (mK (by omega)) _ hr_1;obtain⟨k_1,b_1,n_1,s_1,t_1,je,vS,rfl,_⟩:=T.aB adb;rcases aL ((k_1==0)) with hk2|hk2
  ·have Uf:=eq_of_beq hk2;rcases aL ((b_1==false)) with bL|bL
   ·have mC:=eq_of_beq bL;refine⟨⟨.inl (aA k_1 b_1 n_1 s_1 t_1 je vS),(by first|(simp only[gD,dJ,kd,iJ,k6,hr_1,hk2,bL,cond_true,cond_false];done)|(simp[gD,dJ,kd,iJ,k6,hr_1,hk2,bL];done)|(simp_all [gD,dJ,kd,iJ,k6];done))⟩,kf ah [oF,oT,oT,oN (o:=.map aP 26) bf,oC (show ev 51 (.t (.int .i64 ((0:Nat):Int))::[.ptr (.arg 0) 0,.ptr (.arg 1) 0,.ptr (.arg 2) 0]) [.cells 61 [.ptr (.arg 3) 0],.cells 26 (bg 15 n s t ns ks),.cells 66 [.map (.arg 4)],.cells 63 (aU q),.map aP 26]=some (aM (.inl (aA k_1 b_1 n_1 s_1 t_1 je vS)) [.cells 61 [.ptr (.arg 3) 0],.cells 26 (bg 15 n s t ns ks),.cells 66 [.map (.arg 4)],.cells 63 (aU q),.map aP 26]) from(fk gA 0 (by omega)).trans (congrArg (λz=>some (aM z [.cells 61 [.ptr (.arg 3) 0],.cells 26 (bg 15 n s t ns ks),.cells 66 [.map (.arg 4)],.cells 63 (aU q),.map aP 26])) hr_1)),oN (o:=.map aP 26) bf,oC (show ev 52 [.t (aA k_1 b_1 n_1 s_1 t_1 je vS),.t (.int .u8 0)] []=some (aM (.inl (aA k_1 b_1 n_1 s_1 t_1 je vS)) []) from bD _ _ _ (by show some (aM (cond ((k_1==0)) _ _) [])=_;rw[hk2];rfl)),oB bL,oN (o:=.map aP 26) (λ_=>rfl)]⟩
   ·have mC:=ne_of_beq_false bL;rcases hr_4:f (jP ks 1) with Yj|Uw
    ·have OU:=Em _ (mK (by omega)) _ hr_4;obtain⟨En,K3,yj,yl,K4,K5,K6,rfl,_⟩:=T.aB OU;have aoF:=show ev 52 [.t (aA k_1 b_1 n_1 s_1 t_1 je vS),.t (.int .u8 0)] []=some (aM (.inl (aA k_1 b_1 n_1 s_1 t_1 je vS)) []) from bD _ _ _ (by show some (aM (cond ((k_1==0)) _ _) [])=_;rw[hk2];rfl);rcases aL ((En==0)) with OV|OV
     ·have aky:=eq_of_beq OV;refine⟨⟨.inl (aA En K3 yj yl K4 K5 K6),(by first|(simp only[gD,dJ,kd,iJ,k6,hr_1,hr_4,hk2,bL,OV,cond_true,cond_false];done)|(simp[gD,dJ,kd,iJ,k6,hr_1,hr_4,hk2,bL,OV];done)|(simp_all [gD,dJ,kd,iJ,k6];done))⟩,kf ah [oF,oT,oT,oN (o:=.map aP 26) bf,oC (show ev 51 (.t (.int .i64 ((0:Nat):Int))::[.ptr (.arg 0) 0,.ptr (.arg 1) 0,.ptr (.arg 2) 0]) [.cells 61 [.ptr (.arg 3) 0],.cells 26 (bg 15 n s t ns ks),.cells 66 [.map (.arg 4)],.cells 63 (aU q),.map aP 26]=some (aM (.inl (aA k_1 b_1 n_1 s_1 t_1 je vS)) [.cells 61 [.ptr (.arg 3) 0],.cells 26 (bg 15 n s t ns ks),.cells 66 [.map (.arg 4)],.cells 63 (aU q),.map aP 26]) from(fk gA 0 (by omega)).trans (congrArg (λz=>some (aM z [.cells 61 [.ptr (.arg 3) 0],.cells 26 (bg 15 n s t ns ks),.cells 66 [.map (.arg 4)],.cells 63 (aU q),.map aP 26])) hr_1)),oN (o:=.map aP 26) bf,oC aoF,oB bL,oN (o:=.map aP 26) bf,oC (show ev 51 (.t (.int .i64 ((1:Nat):Int))::[.ptr (.arg 0) 0,.ptr (.arg 1) 0,.ptr (.arg 2) 0]) [.cells 61 [.ptr (.arg 3) 0],.cells 26 (bg 15 n s t ns ks),.cells 66 [.map (.arg 4)],.cells 63 (aU q),.map aP 26]=some (aM (.inl (aA En K3 yj yl K4 K5 K6)) [.cells 61 [.ptr (.arg 3) 0],.cells 26 (bg 15 n s t ns ks),.cells 66 [.map (.arg 4)],.cells 63 (aU q),.map aP 26]) from(fk gA 1 (by omega)).trans (congrArg (λz=>some (aM z [.cells 61 [.ptr (.arg 3) 0],.cells 26 (bg 15 n s t ns ks),.cells 66 [.map (.arg 4)],.cells 63 (aU q),.map aP 26])) hr_4)),oN (o:=.map aP 26) bf,oC (show ev 52 [.t (aA En K3 yj yl K4 K5 K6),.t (.int .u8 0)] []=some (aM (.inl (aA En K3 yj yl K4 K5 K6)) []) from bD _ _ _ (by show some (aM (cond ((En==0)) _ _) [])=_;rw[OV];rfl)),oN (o:=.map aP 26) (λ_=>rfl)]⟩
     ·have aky:=ne_of_beq_false OV;refine⟨⟨.inr (7),(by first|(simp only[gD,dJ,kd,iJ,k6,hr_1,hr_4,hk2,bL,OV,cond_true,cond_false];done)|(simp[gD,dJ,kd,iJ,k6,hr_1,hr_4,hk2,bL,OV];done)|(simp_all [gD,dJ,kd,iJ,k6];done))⟩,kf ah [oF,oT,oT,oN (o:=.map aP 26) bf,oC (show ev 51 (.t (.int .i64 ((0:Nat):Int))::[.ptr (.arg 0) 0,.ptr (.arg 1) 0,.ptr (.arg 2) 0]) [.cells 61 [.ptr (.arg 3) 0],.cells 26 (bg 15 n s t ns ks),.cells 66 [.map (.arg 4)],.cells 63 (aU q),.map aP 26]=some (aM (.inl (aA k_1 b_1 n_1 s_1 t_1 je vS)) [.cells 61 [.ptr (.arg 3) 0],.cells 26 (bg 15 n s t ns ks),.cells 66 [.map (.arg 4)],.cells 63 (aU q),.map aP 26]) from(fk gA 0 (by omega)).trans (congrArg (λz=>some (aM z [.cells 61 [.ptr (.arg 3) 0],.cells 26 (bg 15 n s t ns ks),.cells 66 [.map (.arg 4)],.cells 63 (aU q),.map aP 26])) hr_1)),oN (o:=.map aP 26) bf,oC aoF,oB bL,oN (o:=.map aP 26) bf,oC (show ev 51 (.t (.int .i64 ((1:Nat):Int))::[.ptr (.arg 0) 0,.ptr (.arg 1) 0,.ptr (.arg 2) 0]) [.cells 61 [.ptr (.arg 3) 0],.cells 26 (bg 15 n s t ns ks),.cells 66 [.map (.arg 4)],.cells 63 (aU q),.map aP 26]=some (aM (.inl (aA En K3 yj yl K4 K5 K6)) [.cells 61 [.ptr (.arg 3) 0],.cells 26 (bg 15 n s t ns ks),.cells 66 [.map (.arg 4)],.cells 63 (aU q),.map aP 26]) from(fk gA 1 (by omega)).trans (congrArg (λz=>some (aM z [.cells 61 [.ptr (.arg 3) 0],.cells 26 (bg 15 n s t ns ks),.cells 66 [.map (.arg 4)],.cells 63 (aU q),.map aP 26])) hr_4)),oN (o:=.map aP 26) bf,oC (show ev 52 [.t (aA En K3 yj yl K4 K5 K6),.t (.int .u8 0)] []=some (aM (.inr (7)) []) from bD _ _ _ (by show some (aM (cond ((En==0)) _ _) [])=_;rw[OV];rfl))]⟩
    ·refine⟨⟨.inr (Uw),(by first|(simp only[gD,dJ,kd,iJ,k6,hr_1,hr_4,hk2,bL,cond_true,cond_false];done)|(simp[gD,dJ,kd,iJ,k6,hr_1,hr_4,hk2,bL];done)|(simp_all [gD,dJ,kd,iJ,k6];done))⟩,kf ah [oF,oT,oT,oN (o:=.map aP 26) bf,oC (show ev 51 (.t (.int .i64 ((0:Nat):Int))::[.ptr (.arg 0) 0,.ptr (.arg 1) 0,.ptr (.arg 2) 0]) [.cells 61 [.ptr (.arg 3) 0],.cells 26 (bg 15 n s t ns ks),.cells 66 [.map (.arg 4)],.cells 63 (aU q),.map aP 26]=some (aM (.inl (aA k_1 b_1 n_1 s_1 t_1 je vS)) [.cells 61 [.ptr (.arg 3) 0],.cells 26 (bg 15 n s t ns ks),.cells 66 [.map (.arg 4)],.cells 63 (aU q),.map aP 26]) from(fk gA 0 (by omega)).trans (congrArg (λz=>some (aM z [.cells 61 [.ptr (.arg 3) 0],.cells 26 (bg 15 n s t ns ks),.cells 66 [.map (.arg 4)],.cells 63 (aU q),.map aP 26])) hr_1)),oN (o:=.map aP 26) bf,oC (show ev 52 [.t (aA k_1 b_1 n_1 s_1 t_1 je vS),.t (.int .u8 0)] []=some (aM (.inl (aA k_1 b_1 n_1 s_1 t_1 je vS)) []) from bD _ _ _ (by show some (aM (cond ((k_1==0)) _ _) [])=_;rw[hk2];rfl)),oB bL,oN (o:=.map aP 26) bf,oC (show ev 51 (.t (.int .i64 ((1:Nat):Int))::[.ptr (.arg 0) 0,.ptr (.arg 1) 0,.ptr (.arg 2) 0]) [.cells 61 [.ptr (.arg 3) 0],.cells 26 (bg 15 n s t ns ks),.cells 66 [.map (.arg 4)],.cells 63 (aU q),.map aP 26]=some (aM (.inr Uw) [.cells 61 [.ptr (.arg 3) 0],.cells 26 (bg 15 n s t ns ks),.cells 66 [.map (.arg 4)],.cells 63 (aU q),.map aP 26]) from(fk gA 1 (by omega)).trans (congrArg (λz=>some (aM z [.cells 61 [.ptr (.arg 3) 0],.cells 26 (bg 15 n s t ns ks),.cells 66 [.map (.arg 4)],.cells 63 (aU q),.map aP 26])) hr_4))]⟩
  ·have Uf:=ne_of_beq_false hk2;refine⟨⟨.inr (7),(by first|(simp only[gD,dJ,kd,iJ,k6,hr_1,hk2,cond_true,cond_false];done)|(simp[gD,dJ,kd,iJ,k6,hr_1,hk2];done)|(simp_all [gD,dJ,kd,iJ,k6];done))⟩,kf ah [oF,oT,oT,oN (o:=.map aP 26) bf,oC (show ev 51 (.t (.int .i64 ((0:Nat):Int))::[.ptr (.arg 0) 0,.ptr (.arg 1) 0,.ptr (.arg 2) 0]) [.cells 61 [.ptr (.arg 3) 0],.cells 26 (bg 15 n s t ns ks),.cells 66 [.map (.arg 4)],.cells 63 (aU q),.map aP 26]=some (aM (.inl (aA k_1 b_1 n_1 s_1 t_1 je vS)) [.cells 61 [.ptr (.arg 3) 0],.cells 26 (bg 15 n s t ns ks),.cells 66 [.map (.arg 4)],.cells 63 (aU q),.map aP 26]) from(fk gA 0 (by omega)).trans (congrArg (λz=>some (aM z [.cells 61 [.ptr (.arg 3) 0],.cells 26 (bg 15 n s t ns ks),.cells 66 [.map (.arg 4)],.cells 63 (aU q),.map aP 26])) hr_1)),oN (o:=.map aP 26) bf,oC (show ev 52 [.t (aA k_1 b_1 n_1 s_1 t_1 je vS),.t (.int .u8 0)] []=some (aM (.inr (7)) []) from bD _ _ _ (by show some (aM (cond ((k_1==0)) _ _) [])=_;rw[hk2];rfl))]⟩
 ·refine⟨⟨.inr (w_1),(by first|(simp only[gD,dJ,kd,iJ,k6,hr_1,cond_true,cond_false];done)|(simp[gD,dJ,kd,iJ,k6,hr_1];done)|(simp_all [gD,dJ,kd,iJ,k6];done))⟩,kf ah [oF,oT,oT,oN (o:=.map aP 26) bf,oC (show ev 51 (.t (.int .i64 ((0:Nat):Int))::[.ptr (.arg 0) 0,.ptr (.arg 1) 0,.ptr (.arg 2) 0]) [.cells 61 [.ptr (.arg 3) 0],.cells 26 (bg 15 n s t ns ks),.cells 66 [.map (.arg 4)],.cells 63 (aU q),.map aP 26]=some (aM (.inr w_1) [.cells 61 [.ptr (.arg 3) 0],.cells 26 (bg 15 n s t ns ks),.cells 66 [.map (.arg 4)],.cells 63 (aU q),.map aP 26]) from(fk gA 0 (by omega)).trans (congrArg (λz=>some (aM z [.cells 61 [.ptr (.arg 3) 0],.cells 26 (bg 15 n s t ns ks),.cells 66 [.map (.arg 4)],.cells 63 (aU q),.map aP 26])) hr_1))]⟩
theorem aoG (m:Int)(q:Sc)(n:Int)(s t:List UInt8)(ns ks:List Tree)(hE:T .aD (aY 16 n s t ns ks))(lk:ks.length<=4194304)(hks:∀y∈ks,T .aD y)(f:Tree->Tree ⊕ Int)(hf:∀x∈ks,ai (cf m) 27 [.ptr (.arg 0) 0,.t x,.map (.arg 1)] [.cells 63 (aU q),.map aP 26] (aM (f x) [.cells 63 (aU q),.map aP 26]))(Em:∀x∈ks,∀v,f x=.inl v->T .az v)(hlen:ks.length=2):∃r:{r:Tree ⊕ Int // r=dJ 16 (f (jP ks 0)) (f (jP ks 1))},ai (cf m) 27 [.ptr (.arg 0) 0,.t (aY 16 n s t ns ks),.map (.arg 1)] [.cells 63 (aU q),.map aP 26] (aM r.1 [.cells 63 (aU q),.map aP 26]):=by
 obtain⟨ev,aJ,gA,bD⟩:∃ev,aC (cf m) ev/\Has ev 51 (OT [.ptr (.arg 0) 0,.ptr (.arg 1) 0,.ptr (.arg 2) 0] [.cells 61 [.ptr (.arg 3) 0],.cells 26 (bg 16 n s t ns ks),.cells 66 [.map (.arg 4)],.cells 63 (aU q),.map aP 26] ks.length (λi=>f (jP ks i)))/\Has ev 52 sw:=⟨_,(aq (Eg (λi hi=>by obtain⟨⟨r,rfl⟩,h⟩:=KO m q 16 n s t ns ks lk hks f hf Em i hi;exact h)) (aq (jX m) aF)),au,(av rfl au)⟩;refine AX.start 61 3 Tryz.func27 rfl (by decide) rfl rfl (by decide) ?_;refine AX.frames ?_;rcases hr_1:f (jP ks 0) with v_1|w_1
 ·have adb:=Em _ (mK (by omega)) _ hr_1;obtain⟨k_1,b_1,n_1,s_1,t_1,je,vS,rfl,_⟩:=T.aB adb;rcases aL ((k_1==0)) with hk2|hk2
  ·have Uf:=eq_of_beq hk2;rcases aL ((b_1==true)) with bL|bL
   ·have mC:=eq_of_beq bL;refine⟨⟨.inl (aA k_1 b_1 n_1 s_1 t_1 je vS),(by first|(simp only[gD,dJ,kd,iJ,k6,hr_1,hk2,bL,cond_true,cond_false];done)|(simp[gD,dJ,kd,iJ,k6,hr_1,hk2,bL];done)|(simp_all [gD,dJ,kd,iJ,k6];done))⟩,kf ah [oF,oF,oT,oN (o:=.map aP 26) bf,oC (show ev 51 (.t (.int .i64 ((0:Nat):Int))::[.ptr (.arg 0) 0,.ptr (.arg 1) 0,.ptr (.arg 2) 0]) [.cells 61 [.ptr (.arg 3) 0],.cells 26 (bg 16 n s t ns ks),.cells 66 [.map (.arg 4)],.cells 63 (aU q),.map aP 26]=some (aM (.inl (aA k_1 b_1 n_1 s_1 t_1 je vS)) [.cells 61 [.ptr (.arg 3) 0],.cells 26 (bg 16 n s t ns ks),.cells 66 [.map (.arg 4)],.cells 63 (aU q),.map aP 26]) from(fk gA 0 (by omega)).trans (congrArg (λz=>some (aM z [.cells 61 [.ptr (.arg 3) 0],.cells 26 (bg 16 n s t ns ks),.cells 66 [.map (.arg 4)],.cells 63 (aU q),.map aP 26])) hr_1)),oN (o:=.map aP 26) bf,oC (show ev 52 [.t (aA k_1 b_1 n_1 s_1 t_1 je vS),.t (.int .u8 0)] []=some (aM (.inl (aA k_1 b_1 n_1 s_1 t_1 je vS)) []) from bD _ _ _ (by show some (aM (cond ((k_1==0)) _ _) [])=_;rw[hk2];rfl)),oB bL,oN (o:=.map aP 26) (λ_=>rfl)]⟩
   ·have mC:=ne_of_beq_false bL;rcases hr_4:f (jP ks 1) with Yj|Uw
    ·have OU:=Em _ (mK (by omega)) _ hr_4;obtain⟨En,K3,yj,yl,K4,K5,K6,rfl,_⟩:=T.aB OU;have aoH:=show ev 52 [.t (aA k_1 b_1 n_1 s_1 t_1 je vS),.t (.int .u8 0)] []=some (aM (.inl (aA k_1 b_1 n_1 s_1 t_1 je vS)) []) from bD _ _ _ (by show some (aM (cond ((k_1==0)) _ _) [])=_;rw[hk2];rfl);rcases aL ((En==0)) with OV|OV
     ·have aky:=eq_of_beq OV;refine⟨⟨.inl (aA En K3 yj yl K4 K5 K6),(by first|(simp only[gD,dJ,kd,iJ,k6,hr_1,hr_4,hk2,bL,OV,cond_true,cond_false];done)|(simp[gD,dJ,kd,iJ,k6,hr_1,hr_4,hk2,bL,OV];done)|(simp_all [gD,dJ,kd,iJ,k6];done))⟩,kf ah [oF,oF,oT,oN (o:=.map aP 26) bf,oC (show ev 51 (.t (.int .i64 ((0:Nat):Int))::[.ptr (.arg 0) 0,.ptr (.arg 1) 0,.ptr (.arg 2) 0]) [.cells 61 [.ptr (.arg 3) 0],.cells 26 (bg 16 n s t ns ks),.cells 66 [.map (.arg 4)],.cells 63 (aU q),.map aP 26]=some (aM (.inl (aA k_1 b_1 n_1 s_1 t_1 je vS)) [.cells 61 [.ptr (.arg 3) 0],.cells 26 (bg 16 n s t ns ks),.cells 66 [.map (.arg 4)],.cells 63 (aU q),.map aP 26]) from(fk gA 0 (by omega)).trans (congrArg (λz=>some (aM z [.cells 61 [.ptr (.arg 3) 0],.cells 26 (bg 16 n s t ns ks),.cells 66 [.map (.arg 4)],.cells 63 (aU q),.map aP 26])) hr_1)),oN (o:=.map aP 26) bf,oC aoH,oB bL,oN (o:=.map aP 26) bf,oC (show ev 51 (.t (.int .i64 ((1:Nat):Int))::[.ptr (.arg 0) 0,.ptr (.arg 1) 0,.ptr (.arg 2) 0]) [.cells 61 [.ptr (.arg 3) 0],.cells 26 (bg 16 n s t ns ks),.cells 66 [.map (.arg 4)],.cells 63 (aU q),.map aP 26]=some (aM (.inl (aA En K3 yj yl K4 K5 K6)) [.cells 61 [.ptr (.arg 3) 0],.cells 26 (bg 16 n s t ns ks),.cells 66 [.map (.arg 4)],.cells 63 (aU q),.map aP 26]) from(fk gA 1 (by omega)).trans (congrArg (λz=>some (aM z [.cells 61 [.ptr (.arg 3) 0],.cells 26 (bg 16 n s t ns ks),.cells 66 [.map (.arg 4)],.cells 63 (aU q),.map aP 26])) hr_4)),oN (o:=.map aP 26) bf,oC (show ev 52 [.t (aA En K3 yj yl K4 K5 K6),.t (.int .u8 0)] []=some (aM (.inl (aA En K3 yj yl K4 K5 K6)) []) from bD _ _ _ (by show some (aM (cond ((En==0)) _ _) [])=_;rw[OV];rfl)),oN (o:=.map aP 26) (λ_=>rfl)]⟩
     ·have aky:=ne_of_beq_false OV;refine⟨⟨.inr (7),(by first|(simp only[gD,dJ,kd,iJ,k6,hr_1,hr_4,hk2,bL,OV,cond_true,cond_false];done)|(simp[gD,dJ,kd,iJ,k6,hr_1,hr_4,hk2,bL,OV];done)|(simp_all [gD,dJ,kd,iJ,k6];done))⟩,kf ah [oF,oF,oT,oN (o:=.map aP 26) bf,oC (show ev 51 (.t (.int .i64 ((0:Nat):Int))::[.ptr (.arg 0) 0,.ptr (.arg 1) 0,.ptr (.arg 2) 0]) [.cells 61 [.ptr (.arg 3) 0],.cells 26 (bg 16 n s t ns ks),.cells 66 [.map (.arg 4)],.cells 63 (aU q),.map aP 26]=some (aM (.inl (aA k_1 b_1 n_1 s_1 t_1 je vS)) [.cells 61 [.ptr (.arg 3) 0],.cells 26 (bg 16 n s t ns ks),.cells 66 [.map (.arg 4)],.cells 63 (aU q),.map aP 26]) from(fk gA 0 (by omega)).trans (congrArg (λz=>some (aM z [.cells 61 [.ptr (.arg 3) 0],.cells 26 (bg 16 n s t ns ks),.cells 66 [.map (.arg 4)],.cells 63 (aU q),.map aP 26])) hr_1)),oN (o:=.map aP 26) bf,oC aoH,oB bL,oN (o:=.map aP 26) bf,oC (show ev 51 (.t (.int .i64 ((1:Nat):Int))::[.ptr (.arg 0) 0,.ptr (.arg 1) 0,.ptr (.arg 2) 0]) [.cells 61 [.ptr (.arg 3) 0],.cells 26 (bg 16 n s t ns ks),.cells 66 [.map (.arg 4)],.cells 63 (aU q),.map aP 26]=some (aM (.inl (aA En K3 yj yl K4 K5 K6)) [.cells 61 [.ptr (.arg 3) 0],.cells 26 (bg 16 n s t ns ks),.cells 66 [.map (.arg 4)],.cells 63 (aU q),.map aP 26]) from(fk gA 1 (by omega)).trans (congrArg (λz=>some (aM z [.cells 61 [.ptr (.arg 3) 0],.cells 26 (bg 16 n s t ns ks),.cells 66 [.map (.arg 4)],.cells 63 (aU q),.map aP 26])) hr_4)),oN (o:=.map aP 26) bf,oC (show ev 52 [.t (aA En K3 yj yl K4 K5 K6),.t (.int .u8 0)] []=some (aM (.inr (7)) []) from bD _ _ _ (by show some (aM (cond ((En==0)) _ _) [])=_;rw[OV];rfl))]⟩
    ·refine⟨⟨.inr (Uw),(by first|(simp only[gD,dJ,kd,iJ,k6,hr_1,hr_4,hk2,bL,cond_true,cond_false];done)|(simp[gD,dJ,kd,iJ,k6,hr_1,hr_4,hk2,bL];done)|(simp_all [gD,dJ,kd,iJ,k6];done))⟩,kf ah [oF,oF,oT,oN (o:=.map aP 26) bf,oC (show ev 51 (.t (.int .i64 ((0:Nat):Int))::[.ptr (.arg 0) 0,.ptr (.arg 1) 0,.ptr (.arg 2) 0]) [.cells 61 [.ptr (.arg 3) 0],.cells 26 (bg 16 n s t ns ks),.cells 66 [.map (.arg 4)],.cells 63 (aU q),.map aP 26]=some (aM (.inl (aA k_1 b_1 n_1 s_1 t_1 je vS)) [.cells 61 [.ptr (.arg 3) 0],.cells 26 (bg 16 n s t ns ks),.cells 66 [.map (.arg 4)],.cells 63 (aU q),.map aP 26]) from(fk gA 0 (by omega)).trans (congrArg (λz=>some (aM z [.cells 61 [.ptr (.arg 3) 0],.cells 26 (bg 16 n s t ns ks),.cells 66 [.map (.arg 4)],.cells 63 (aU q),.map aP 26])) hr_1)),oN (o:=.map aP 26) bf,oC (show ev 52 [.t (aA k_1 b_1 n_1 s_1 t_1 je vS),.t (.int .u8 0)] []=some (aM (.inl (aA k_1 b_1 n_1 s_1 t_1 je vS)) []) from bD _ _ _ (by show some (aM (cond ((k_1==0)) _ _) [])=_;rw[hk2];rfl)),oB bL,oN (o:=.map aP 26) bf,oC (show ev 51 (.t (.int .i64 ((1:Nat):Int))::[.ptr (.arg 0) 0,.ptr (.arg 1) 0,.ptr (.arg 2) 0]) [.cells 61 [.ptr (.arg 3) 0],.cells 26 (bg 16 n s t ns ks),.cells 66 [.map (.arg 4)],.cells 63 (aU q),.map aP 26]=some (aM (.inr Uw) [.cells 61 [.ptr (.arg 3) 0],.cells 26 (bg 16 n s t ns ks),.cells 66 [.map (.arg 4)],.cells 63 (aU q),.map aP 26]) from(fk gA 1 (by omega)).trans (congrArg (λz=>some (aM z [.cells 61 [.ptr (.arg 3) 0],.cells 26 (bg 16 n s t ns ks),.cells 66 [.map (.arg 4)],.cells 63 (aU q),.map aP 26])) hr_4))]⟩
  ·have Uf:=ne_of_beq_false hk2;refine⟨⟨.inr (7),(by first|(simp only[gD,dJ,kd,iJ,k6,hr_1,hk2,cond_true,cond_false];done)|(simp[gD,dJ,kd,iJ,k6,hr_1,hk2];done)|(simp_all [gD,dJ,kd,iJ,k6];done))⟩,kf ah [oF,oF,oT,oN (o:=.map aP 26) bf,oC (show ev 51 (.t (.int .i64 ((0:Nat):Int))::[.ptr (.arg 0) 0,.ptr (.arg 1) 0,.ptr (.arg 2) 0]) [.cells 61 [.ptr (.arg 3) 0],.cells 26 (bg 16 n s t ns ks),.cells 66 [.map (.arg 4)],.cells 63 (aU q),.map aP 26]=some (aM (.inl (aA k_1 b_1 n_1 s_1 t_1 je vS)) [.cells 61 [.ptr (.arg 3) 0],.cells 26 (bg 16 n s t ns ks),.cells 66 [.map (.arg 4)],.cells 63 (aU q),.map aP 26]) from(fk gA 0 (by omega)).trans (congrArg (λz=>some (aM z [.cells 61 [.ptr (.arg 3) 0],.cells 26 (bg 16 n s t ns ks),.cells 66 [.map (.arg 4)],.cells 63 (aU q),.map aP 26])) hr_1)),oN (o:=.map aP 26) bf,oC (show ev 52 [.t (aA k_1 b_1 n_1 s_1 t_1 je vS),.t (.int .u8 0)] []=some (aM (.inr (7)) []) from bD _ _ _ (by show some (aM (cond ((k_1==0)) _ _) [])=_;rw[hk2];rfl))]⟩
 ·refine⟨⟨.inr (w_1),(by first|(simp only[gD,dJ,kd,iJ,k6,hr_1,cond_true,cond_false];done)|(simp[gD,dJ,kd,iJ,k6,hr_1];done)|(simp_all [gD,dJ,kd,iJ,k6];done))⟩,kf ah [oF,oF,oT,oN (o:=.map aP 26) bf,oC (show ev 51 (.t (.int .i64 ((0:Nat):Int))::[.ptr (.arg 0) 0,.ptr (.arg 1) 0,.ptr (.arg 2) 0]) [.cells 61 [.ptr (.arg 3) 0],.cells 26 (bg 16 n s t ns ks),.cells 66 [.map (.arg 4)],.cells 63 (aU q),.map aP 26]=some (aM (.inr w_1) [.cells 61 [.ptr (.arg 3) 0],.cells 26 (bg 16 n s t ns ks),.cells 66 [.map (.arg 4)],.cells 63 (aU q),.map aP 26]) from(fk gA 0 (by omega)).trans (congrArg (λz=>some (aM z [.cells 61 [.ptr (.arg 3) 0],.cells 26 (bg 16 n s t ns ks),.cells 66 [.map (.arg 4)],.cells 63 (aU q),.map aP 26])) hr_1))]⟩
theorem agB {C:ey}{g:FuncId}{a b:TV}{o:List aO}{r:br}(h:ai C g [a,b,.t (.sl [])] o r):ai C g [a,b,.bX] o r:=λG w vs hw hg hd hH hv=>h G w vs hw hg hd hH ⟨hv.1,λj c u hc hu=>by
 match j,hc with
 |0,hc=>exact hv.2 0 c u hc hu
 |1,hc=>exact hv.2 1 c u hc hu
 |2,hc=>
  cases hc
  have h2:=hv.2 2 .bX u rfl hu
  cases h2
  exact .t _ _ (.Ek _ _)
 |n+3,hc=>simp at hc⟩
theorem vw {l:List Tree}{i:Nat}(h:i<l.length):l[i]?=some (jP l i):=by
 rw[fM (List.getElem?_eq_getElem h)];exact List.getElem?_eq_getElem h
def EvO (m:Int)(f:Tree->Tree ⊕ Int)(e:Tree)(ks:List Tree)(r:Tree ⊕ Int):Prop:=(∃w,ja f ks=.inr w/\r=.inr w)\/∃l,ja f ks=.inl l/\l.length=ks.length/\(∀y∈l,T .az y)/\QO m e l r
theorem Uy {f:_->Bool×List Tree×Tree}{a:List TV}{r1:br}(q:Sc):∀x o r,px a [Ss q] r1 x o=some r->iP x7 Ce (λx=>OS x (f x)) x o=none:=λx o r hr=>by
 unfold px at hr;split at hr
 ·rename_i hp;unfold iP;refine dif_neg λ⟨z,_,hz⟩=> ?_
  rw[hp.2] at hz;exact absurd (congrArg (λp=>p.2.length) hz) (by simp[x7])
 ·cases hr
theorem aoI (m:Int)(q:Sc)(op:Int)(n:Int)(s t:List UInt8)(ns ks:List Tree)(hE:T .aD (aY op n s t ns ks))(lk:ks.length<=4194304)(hks:∀y∈ks,T .aD y)(f:Tree->Tree ⊕ Int)(hf:∀x∈ks,ai (cf m) 27 [.ptr (.arg 0) 0,.t x,.map (.arg 1)] [.cells 63 (aU q),.map aP 26] (aM (f x) [.cells 63 (aU q),.map aP 26]))(Em:∀x∈ks,∀v,f x=.inl v->T .az v)(hM:DW op ns.length ks.length)(h6:op≠6)(Sj:op≠14)(Ql:op≠15)(h16:op≠16)(hs:Rq q):∃r:{r:Tree ⊕ Int // EvO m f (aY op n s t ns ks) ks r},ai (cf m) 27 [.ptr (.arg 0) 0,.t (aY op n s t ns ks),.map (.arg 1)] [.cells 63 (aU q),.map aP 26] (aM r.1 [.cells 63 (aU q),.map aP 26]):=by
 obtain⟨⟨hM1,hM2⟩,_⟩:=id hM;obtain⟨G,hG⟩:=bK (α:=List Tree) (P:=PO q (aY op n s t ns ks)) (Q:=λl (r:Tree ⊕ Int)=>ai (cf m) (gOf op) [.ptr (.arg 0) 0,.t (aY op n s t ns ks),.t (.sl l)] [Ss q] (aM r [Ss q])/\QO m (aY op n s t ns ks) l r) λl hl=>akt m q (aY op n s t ns ks) l hl h6 Sj Ql h16
 obtain⟨ev,aJ,gA,Bh⟩:∃ev,aC (cf m) ev/\Has ev 51 (OT [.ptr (.arg 0) 0,.ptr (.arg 1) 0,.ptr (.arg 2) 0] [.cells 61 [.ptr (.arg 3) 0],.cells 26 (bg op n s t ns ks),.cells 66 [.map (.arg 4)],.cells 63 (aU q),.map aP 26] ks.length (λi=>f (jP ks i)))/\Has ev (gOf op) (agy q (aY op n s t ns ks) G):=⟨_,(aq (Eg (λi hi=>by obtain⟨⟨r,rfl⟩,h⟩:=KO m q op n s t ns ks lk hks f hf Em i hi;exact h)) (aq (agz (λl hl=>(hG l hl).1)) aF)),au,(av (akw op) au)⟩;refine AX.start 61 3 Tryz.func27 rfl (by decide) rfl rfl (by decide) ?_;refine AX.frames ?_;refine kl (α:=Nat×List Tree) ah 0 [] 61 4 [.loc [0],.loc [1],.loc [2],.loc [3]] [.loc [0],.loc [1],.loc [2],.loc [3],.arg 0,.arg 1] [3,4,5,6,7,9,42,43] (λx=>(match x.2 with| []=>⟨eC 61 [(3,.ptr (.loc [0]) 0),(4,.ptr (.loc [1]) 0),(5,.ptr (.loc [2]) 0),(6,.ptr (.loc [3]) 0),(7,.fn (.func 51) [] [.ptr (.loc [0]) 0,.ptr (.loc [1]) 0,.ptr (.loc [2]) 0]),(9,.bX),(42,.t (.int .i64 ((ks.length:Nat):Int))),(43,.t (.int .i64 ((x.1:Nat):Int)))],[(.loc [0],.cells 61 [.ptr (.arg 0) 0]),(.loc [1],.cells 26 (bg op n s t ns ks)),(.loc [2],.cells 66 [.map (.arg 1)]),(.loc [3],.cells 32 [.t (.int .u8 0),.t (.bool false),.t (.int .i64 0),.t (.str []),.t (.str []),.bX,.bX]),(.arg 0,.cells 63 (aU q)),(.arg 1,.map aP 26)],4⟩|_::_=>⟨eC 61 [(3,.ptr (.loc [0]) 0),(4,.ptr (.loc [1]) 0),(5,.ptr (.loc [2]) 0),(6,.ptr (.loc [3]) 0),(7,.fn (.func 51) [] [.ptr (.loc [0]) 0,.ptr (.loc [1]) 0,.ptr (.loc [2]) 0]),(9,.ref (.loc [4]) 0 x.2.length),(42,.t (.int .i64 ((ks.length:Nat):Int))),(43,.t (.int .i64 ((x.1:Nat):Int)))],[(.loc [0],.cells 61 [.ptr (.arg 0) 0]),(.loc [1],.cells 26 (bg op n s t ns ks)),(.loc [2],.cells 66 [.map (.arg 1)]),(.loc [3],.cells 32 [.t (.int .u8 0),.t (.bool false),.t (.int .i64 0),.t (.str []),.t (.str []),.bX,.bX]),(.loc [4],.arr (32,true) 7 false ((flat x.2).map .t)),(.arg 0,.cells 63 (aU q)),(.arg 1,.map aP 26)],5⟩)) (λx=>(x.1<=ks.length)/\(∀y∈x.2,T .az y)/\(x.2.length=x.1)/\(ja f (ks.take x.1)=.inl x.2)) (λx=>ks.length - x.1) (⟨0,[]⟩) (j4 (Tryz.f27.body.getD .skip) 15) [oB (beq_eq_false_iff_ne.mpr Sj),oB (beq_eq_false_iff_ne.mpr Ql),oB (beq_eq_false_iff_ne.mpr h16),oN (o:=.map aP 26) (λ_=>rfl)] ⟨Nat.zero_le _,λy hy=>(by cases hy),rfl,rfl⟩ (λx hok=> ?_);obtain⟨i_1,iZ⟩:=x;replace hok:(i_1<=ks.length)/\(∀y∈iZ,T .az y)/\(iZ.length=i_1)/\(ja f (ks.take i_1)=.inl iZ):=hok;obtain⟨cO,bP,fL,gT⟩:=hok;rcases iZ with _|⟨jD,jE⟩
 ·rcases aL (decide (((i_1:Nat):Int)<((ks.length:Nat):Int))) with cq|cq
  ·have jN:=of_decide_eq_true cq;rcases zZ:f (jP ks i_1) with v_3|w_3
   ·have ade:=Em _ (mK (by omega)) _ zZ;obtain⟨V7,V8,jv,iu,V9,fV,Wa,rfl,_⟩:=T.aB ade;exact⟨.inl ⟨⟨i_1+1,([(aA V7 V8 jv iu V9 fV Wa)]:List Tree)⟩,⟨⟨(by show(i_1+1)<=ks.length;omega),(λy hy=>by rw[List.mem_singleton.1 hy];exact ade),(by have h9:=fL;(try dsimp only at h9 ⊢);(try simp only[List.length_append,List.length_cons,List.length_nil] at h9 ⊢);omega),(x8 gT (vw (by omega)) zZ)⟩,(by show(ks.length - (i_1+1))<(ks.length - i_1);omega)⟩⟩,vH ah 0 [] 61 5 [.loc [0],.loc [1],.loc [2],.loc [3],.loc [12]] [.loc [0],.loc [1],.loc [2],.loc [3],.loc [12],.arg 0,.arg 1] [3,4,5,6,7,9,42,43] [oB cq,oN (o:=.map aP 26) bf,oC (show ev 51 (.t (.int .i64 ((i_1:Nat):Int))::[.ptr (.arg 0) 0,.ptr (.arg 1) 0,.ptr (.arg 2) 0]) [.cells 61 [.ptr (.arg 3) 0],.cells 26 (bg op n s t ns ks),.cells 66 [.map (.arg 4)],.cells 63 (aU q),.map aP 26]=some (aM (.inl (aA V7 V8 jv iu V9 fV Wa)) [.cells 61 [.ptr (.arg 3) 0],.cells 26 (bg op n s t ns ks),.cells 66 [.map (.arg 4)],.cells 63 (aU q),.map aP 26]) from(fk gA i_1 (by omega)).trans (congrArg (λz=>some (aM z [.cells 61 [.ptr (.arg 3) 0],.cells 26 (bg op n s t ns ks),.cells 66 [.map (.arg 4)],.cells 63 (aU q),.map aP 26])) zZ)),oN (o:=.map aP 26) bf,oU true 7 ([(aA V7 V8 jv iu V9 fV Wa)]:List Tree) (eP.cons ⟨rfl,rfl,rfl⟩ eP.nil) (by simp),oA (([(aA V7 V8 jv iu V9 fV Wa)]:List Tree).length*96) cU,oI (i_1) (by omega),dc 32 7 ([(aA V7 V8 jv iu V9 fV Wa)]:List Tree),oN (o:=.map aP 26) (λ_=>rfl)]⟩
   ·refine kx ah [oB cq,oN (o:=.map aP 26) bf,oC (show ev 51 (.t (.int .i64 ((i_1:Nat):Int))::[.ptr (.arg 0) 0,.ptr (.arg 1) 0,.ptr (.arg 2) 0]) [.cells 61 [.ptr (.arg 3) 0],.cells 26 (bg op n s t ns ks),.cells 66 [.map (.arg 4)],.cells 63 (aU q),.map aP 26]=some (aM (.inr w_3) [.cells 61 [.ptr (.arg 3) 0],.cells 26 (bg op n s t ns ks),.cells 66 [.map (.arg 4)],.cells 63 (aU q),.map aP 26]) from(fk gA i_1 (by omega)).trans (congrArg (λz=>some (aM z [.cells 61 [.ptr (.arg 3) 0],.cells 26 (bg op n s t ns ks),.cells 66 [.map (.arg 4)],.cells 63 (aU q),.map aP 26])) zZ))] ?_;refine⟨⟨.inr (w_3),.inl ⟨_,x9 gT (vw (by omega)) zZ,rfl⟩⟩,kf ah []⟩
  ·have jN:=of_decide_eq_false cq;refine kx ah [oB cq] ?_;have Wb:ja f ks=.inl ([]:List Tree):=by have h:=gT;rw[show i_1=ks.length by omega,List.take_length] at h;exact h
   have RU:List.length ([]:List Tree)=ks.length:=by have h:=fL;omega
   have RV:PO q (aY op n s t ns ks) ([]:List Tree):=⟨hs,hE,by omega,bP,by show DW op ns.length _;rw[RU];exact hM⟩;have akz:=(hG _ RV).2;rcases hr_4:G ([]:List Tree) with Yj|Uw
   ·have OU:=akz.1.1 _ hr_4;obtain⟨En,K3,yj,yl,K4,K5,K6,rfl,_⟩:=T.aB OU;refine⟨⟨.inl (aA En K3 yj yl K4 K5 K6),.inr ⟨([]:List Tree),Wb,RU,RV.2.2.2.1,by rw[← hr_4];exact akz⟩⟩,kf ah [oO (Eh m (op:=op) (by omega) (by omega) Sj Ql h16),oC (show ev (gOf op) [.ptr (.arg 0) 0,.t (aY op n s t ns ks),.t (.sl ([]:List Tree))] [.cells 63 (aU q)]=some (aM (.inl (aA En K3 yj yl K4 K5 K6)) [.cells 63 (aU q)]) from(agA Bh RV).trans (congrArg (λz=>some (aM z [Ss q])) hr_4)),oN (o:=.map aP 26) (λ_=>rfl)]⟩
   ·refine⟨⟨.inr (Uw),.inr ⟨([]:List Tree),Wb,RU,RV.2.2.2.1,by rw[← hr_4];exact akz⟩⟩,kf ah [oO (Eh m (op:=op) (by omega) (by omega) Sj Ql h16),oC (show ev (gOf op) [.ptr (.arg 0) 0,.t (aY op n s t ns ks),.t (.sl ([]:List Tree))] [.cells 63 (aU q)]=some (aM (.inr Uw) [.cells 63 (aU q)]) from(agA Bh RV).trans (congrArg (λz=>some (aM z [Ss q])) hr_4))]⟩
 ·rcases aL (decide (((i_1:Nat):Int)<((ks.length:Nat):Int))) with jl|jl
  ·have BT:=of_decide_eq_true jl;rcases AL:f (jP ks i_1) with v_6|w_6
   ·have adf:=Em _ (mK (by omega)) _ AL;obtain⟨k_6,b_6,qh,q8,t_6,N_6,L_6,rfl,_⟩:=T.aB adf;exact⟨.inl ⟨⟨i_1+1,(jD::jE)++([(aA k_6 b_6 qh q8 t_6 N_6 L_6)]:List Tree)⟩,⟨⟨(by show(i_1+1)<=ks.length;omega),(λy hy=>(List.mem_append.1 hy).elim (bP y) (λh=>by rw[List.mem_singleton.1 h];exact adf)),(by have h9:=fL;(try dsimp only at h9 ⊢);(try simp only[List.length_append,List.length_cons,List.length_nil] at h9 ⊢);omega),(x8 gT (vw (by omega)) AL)⟩,(by show(ks.length - (i_1+1))<(ks.length - i_1);omega)⟩⟩,vH ah 0 [] 61 5 [.loc [0],.loc [1],.loc [2],.loc [3],.loc [4]] [.loc [0],.loc [1],.loc [2],.loc [3],.loc [4],.arg 0,.arg 1] [3,4,5,6,7,9,42,43] [oB jl,oN (o:=.map aP 26) bf,oC (show ev 51 (.t (.int .i64 ((i_1:Nat):Int))::[.ptr (.arg 0) 0,.ptr (.arg 1) 0,.ptr (.arg 2) 0]) [.cells 61 [.ptr (.arg 3) 0],.cells 26 (bg op n s t ns ks),.cells 66 [.map (.arg 4)],.cells 63 (aU q),.map aP 26]=some (aM (.inl (aA k_6 b_6 qh q8 t_6 N_6 L_6)) [.cells 61 [.ptr (.arg 3) 0],.cells 26 (bg op n s t ns ks),.cells 66 [.map (.arg 4)],.cells 63 (aU q),.map aP 26]) from(fk gA i_1 (by omega)).trans (congrArg (λz=>some (aM z [.cells 61 [.ptr (.arg 3) 0],.cells 26 (bg op n s t ns ks),.cells 66 [.map (.arg 4)],.cells 63 (aU q),.map aP 26])) AL)),oN (o:=.map aP 26) bf,oU true 7 ([(aA k_6 b_6 qh q8 t_6 N_6 L_6)]:List Tree) (eP.cons ⟨rfl,rfl,rfl⟩ eP.nil) (by simp),oW true 7 (jD::jE) (aG bP),oA (((jD::jE).length+([(aA k_6 b_6 qh q8 t_6 N_6 L_6)]:List Tree).length) *96) cU,oI (i_1) (by omega),dc 32 7 ((jD::jE)++([(aA k_6 b_6 qh q8 t_6 N_6 L_6)]:List Tree)),oN (o:=.map aP 26) (λ_=>rfl)]⟩
   ·refine kx ah [oB jl,oN (o:=.map aP 26) bf,oC (show ev 51 (.t (.int .i64 ((i_1:Nat):Int))::[.ptr (.arg 0) 0,.ptr (.arg 1) 0,.ptr (.arg 2) 0]) [.cells 61 [.ptr (.arg 3) 0],.cells 26 (bg op n s t ns ks),.cells 66 [.map (.arg 4)],.cells 63 (aU q),.map aP 26]=some (aM (.inr w_6) [.cells 61 [.ptr (.arg 3) 0],.cells 26 (bg op n s t ns ks),.cells 66 [.map (.arg 4)],.cells 63 (aU q),.map aP 26]) from(fk gA i_1 (by omega)).trans (congrArg (λz=>some (aM z [.cells 61 [.ptr (.arg 3) 0],.cells 26 (bg op n s t ns ks),.cells 66 [.map (.arg 4)],.cells 63 (aU q),.map aP 26])) AL))] ?_;refine⟨⟨.inr (w_6),.inl ⟨_,x9 gT (vw (by omega)) AL,rfl⟩⟩,kf ah []⟩
  ·have BT:=of_decide_eq_false jl;refine kx ah [oB jl] ?_;have RW:ja f ks=.inl (jD::jE):=by have h:=gT;rw[show i_1=ks.length by omega,List.take_length] at h;exact h
   have KP:List.length (jD::jE)=ks.length:=by have h:=fL;omega
   have RX:PO q (aY op n s t ns ks) (jD::jE):=⟨hs,hE,by omega,bP,by show DW op ns.length _;rw[KP];exact hM⟩;have akA:=(hG _ RX).2;rcases adg:G (jD::jE) with v_7|w_7
   ·have adh:=akA.1.1 _ adg;obtain⟨k_7,b_7,Sq,Sr,t_7,N_7,L_7,rfl,_⟩:=T.aB adh;refine⟨⟨.inl (aA k_7 b_7 Sq Sr t_7 N_7 L_7),.inr ⟨(jD::jE),RW,KP,RX.2.2.2.1,by rw[← adg];exact akA⟩⟩,kf ah [oO (Eh m (op:=op) (by omega) (by omega) Sj Ql h16),oW true 7 (jD::jE) (aG bP),oC (show ev (gOf op) [.ptr (.arg 0) 0,.t (aY op n s t ns ks),.t (.sl (jD::jE))] [.cells 63 (aU q)]=some (aM (.inl (aA k_7 b_7 Sq Sr t_7 N_7 L_7)) [.cells 63 (aU q)]) from(agA Bh RX).trans (congrArg (λz=>some (aM z [Ss q])) adg)),oN (o:=.map aP 26) (λ_=>rfl)]⟩
   ·refine⟨⟨.inr (w_7),.inr ⟨(jD::jE),RW,KP,RX.2.2.2.1,by rw[← adg];exact akA⟩⟩,kf ah [oO (Eh m (op:=op) (by omega) (by omega) Sj Ql h16),oW true 7 (jD::jE) (aG bP),oC (show ev (gOf op) [.ptr (.arg 0) 0,.t (aY op n s t ns ks),.t (.sl (jD::jE))] [.cells 63 (aU q)]=some (aM (.inr w_7) [.cells 63 (aU q)]) from(agA Bh RX).trans (congrArg (λz=>some (aM z [Ss q])) adg))]⟩
theorem akB (m:Int)(q:Sc)(n:Int)(s t:List UInt8)(ns ks:List Tree)(hE:T .aD (aY 6 n s t ns ks))(lk:ks.length<=4194304)(hks:∀y∈ks,T .aD y)(f:Tree->Tree ⊕ Int)(hf:∀x∈ks,ai (cf m) 27 [.ptr (.arg 0) 0,.t x,.map (.arg 1)] [.cells 63 (aU q),.map aP 26] (aM (f x) [.cells 63 (aU q),.map aP 26]))(Em:∀x∈ks,∀v,f x=.inl v->T .az v)(h16:ks.length<=16):∃r:{r:Tree ⊕ Int // EvO m f (aY 6 n s t ns ks) ks r},ai (cf m) 27 [.ptr (.arg 0) 0,.t (aY 6 n s t ns ks),.map (.arg 1)] [.cells 63 (aU q),.map aP 26] (aM r.1 [.cells 63 (aU q),.map aP 26]):=by
 obtain⟨adi,adj⟩:=ada m;obtain⟨⟨v0,hv0⟩,hc0⟩:=ac8 m q (aY 6 n s t ns ks) hE;obtain⟨ev,aJ,gA,adk⟩:∃ev,aC (cf m) ev/\Has ev 51 (OT [.ptr (.arg 0) 0,.ptr (.arg 1) 0,.ptr (.arg 2) 0] [.cells 61 [.ptr (.arg 3) 0],.cells 26 (bg 6 n s t ns ks),.cells 66 [.map (.arg 4)],.cells 63 (aU q),.map aP 26] ks.length (λi=>f (jP ks i)))/\Has ev 55 (JX (iP x7 (Ce) (λx=>OS x (adi x))) (px [.ptr (.arg 0) 0,.t (aY 6 n s t ns ks),.bX] [.cells 63 (aU q)] (.ret (.t v0) [.cells 63 (aU q)] []))):=⟨_,(aq (Eg (λi hi=>by obtain⟨⟨r,rfl⟩,h⟩:=KO m q 6 n s t ns ks lk hks f hf Em i hi;exact h)) (aq (Ds (dF (λ⟨q,e,L,n⟩ hx=>(adj q e L n hx).1)) (fQ (agB hc0))) aF)),au,(av rfl au)⟩;refine AX.start 61 3 Tryz.func27 rfl (by decide) rfl rfl (by decide) ?_;refine AX.frames ?_;refine kl (α:=Nat×List Tree) ah 2305843009213693952 [] 61 4 [.loc [0],.loc [1],.loc [2],.loc [3]] [.loc [0],.loc [1],.loc [2],.loc [3],.arg 0,.arg 1] [3,4,5,6,7,9,42,43] (λx=>(match x.2 with| []=>⟨eC 61 [(3,.ptr (.loc [0]) 0),(4,.ptr (.loc [1]) 0),(5,.ptr (.loc [2]) 0),(6,.ptr (.loc [3]) 0),(7,.fn (.func 51) [] [.ptr (.loc [0]) 0,.ptr (.loc [1]) 0,.ptr (.loc [2]) 0]),(9,.bX),(42,.t (.int .i64 ((ks.length:Nat):Int))),(43,.t (.int .i64 ((x.1:Nat):Int)))],[(.loc [0],.cells 61 [.ptr (.arg 0) 0]),(.loc [1],.cells 26 (bg 6 n s t ns ks)),(.loc [2],.cells 66 [.map (.arg 1)]),(.loc [3],.cells 32 [.t (.int .u8 0),.t (.bool false),.t (.int .i64 0),.t (.str []),.t (.str []),.bX,.bX]),(.arg 0,.cells 63 (aU q)),(.arg 1,.map aP 26)],4⟩|_::_=>⟨eC 61 [(3,.ptr (.loc [0]) 0),(4,.ptr (.loc [1]) 0),(5,.ptr (.loc [2]) 0),(6,.ptr (.loc [3]) 0),(7,.fn (.func 51) [] [.ptr (.loc [0]) 0,.ptr (.loc [1]) 0,.ptr (.loc [2]) 0]),(9,.ref (.loc [4]) 0 x.2.length),(42,.t (.int .i64 ((ks.length:Nat):Int))),(43,.t (.int .i64 ((x.1:Nat):Int)))],[(.loc [0],.cells 61 [.ptr (.arg 0) 0]),(.loc [1],.cells 26 (bg 6 n s t ns ks)),(.loc [2],.cells 66 [.map (.arg 1)]),(.loc [3],.cells 32 [.t (.int .u8 0),.t (.bool false),.t (.int .i64 0),.t (.str []),.t (.str []),.bX,.bX]),(.loc [4],.arr (32,true) 7 false ((flat x.2).map .t)),(.arg 0,.cells 63 (aU q)),(.arg 1,.map aP 26)],5⟩)) (λx=>(x.1<=ks.length)/\(∀y∈x.2,T .az y)/\(x.2.length=x.1)/\(ja f (ks.take x.1)=.inl x.2)) (λx=>ks.length - x.1) (⟨0,[]⟩) (j4 (Tryz.f27.body.getD .skip) 15) [oF,oF,oF,oN (o:=.map aP 26) (λ_=>rfl)] ⟨Nat.zero_le _,λy hy=>(by cases hy),rfl,rfl⟩ (λx hok=> ?_);obtain⟨i_1,iZ⟩:=x;replace hok:(i_1<=ks.length)/\(∀y∈iZ,T .az y)/\(iZ.length=i_1)/\(ja f (ks.take i_1)=.inl iZ):=hok;obtain⟨cO,bP,fL,gT⟩:=hok;have akC:=Eh m (op:=6) (by decide) (by decide) (by decide) (by decide) (by decide);rcases iZ with _|⟨jD,jE⟩
 ·rcases aL (decide (((i_1:Nat):Int)<((ks.length:Nat):Int))) with cq|cq
  ·have jN:=of_decide_eq_true cq;rcases zZ:f (jP ks i_1) with v_3|w_3
   ·have ade:=Em _ (mK (by omega)) _ zZ;obtain⟨V7,V8,jv,iu,V9,fV,Wa,rfl,_⟩:=T.aB ade;exact⟨.inl ⟨⟨i_1+1,([(aA V7 V8 jv iu V9 fV Wa)]:List Tree)⟩,⟨⟨(by show(i_1+1)<=ks.length;omega),(λy hy=>by rw[List.mem_singleton.1 hy];exact ade),(by have h9:=fL;(try dsimp only at h9 ⊢);(try simp only[List.length_append,List.length_cons,List.length_nil] at h9 ⊢);omega),(x8 gT (vw (by omega)) zZ)⟩,(by show(ks.length - (i_1+1))<(ks.length - i_1);omega)⟩⟩,vH ah 2305843009213693952 [] 61 5 [.loc [0],.loc [1],.loc [2],.loc [3],.loc [12]] [.loc [0],.loc [1],.loc [2],.loc [3],.loc [12],.arg 0,.arg 1] [3,4,5,6,7,9,42,43] [oB cq,oN (o:=.map aP 26) bf,oC (show ev 51 (.t (.int .i64 ((i_1:Nat):Int))::[.ptr (.arg 0) 0,.ptr (.arg 1) 0,.ptr (.arg 2) 0]) [.cells 61 [.ptr (.arg 3) 0],.cells 26 (bg 6 n s t ns ks),.cells 66 [.map (.arg 4)],.cells 63 (aU q),.map aP 26]=some (aM (.inl (aA V7 V8 jv iu V9 fV Wa)) [.cells 61 [.ptr (.arg 3) 0],.cells 26 (bg 6 n s t ns ks),.cells 66 [.map (.arg 4)],.cells 63 (aU q),.map aP 26]) from(fk gA i_1 (by omega)).trans (congrArg (λz=>some (aM z [.cells 61 [.ptr (.arg 3) 0],.cells 26 (bg 6 n s t ns ks),.cells 66 [.map (.arg 4)],.cells 63 (aU q),.map aP 26])) zZ)),oN (o:=.map aP 26) bf,oU true 7 ([(aA V7 V8 jv iu V9 fV Wa)]:List Tree) (eP.cons ⟨rfl,rfl,rfl⟩ eP.nil) (by simp),oA (([(aA V7 V8 jv iu V9 fV Wa)]:List Tree).length*96) cU,oI (i_1) (by omega),dc 32 7 ([(aA V7 V8 jv iu V9 fV Wa)]:List Tree),oN (o:=.map aP 26) (λ_=>rfl)]⟩
   ·refine E8 ah 2305843009213693952 [] [oB cq,oN (o:=.map aP 26) bf,oC (show ev 51 (.t (.int .i64 ((i_1:Nat):Int))::[.ptr (.arg 0) 0,.ptr (.arg 1) 0,.ptr (.arg 2) 0]) [.cells 61 [.ptr (.arg 3) 0],.cells 26 (bg 6 n s t ns ks),.cells 66 [.map (.arg 4)],.cells 63 (aU q),.map aP 26]=some (aM (.inr w_3) [.cells 61 [.ptr (.arg 3) 0],.cells 26 (bg 6 n s t ns ks),.cells 66 [.map (.arg 4)],.cells 63 (aU q),.map aP 26]) from(fk gA i_1 (by omega)).trans (congrArg (λz=>some (aM z [.cells 61 [.ptr (.arg 3) 0],.cells 26 (bg 6 n s t ns ks),.cells 66 [.map (.arg 4)],.cells 63 (aU q),.map aP 26])) zZ))] ?_;refine⟨⟨.inr (w_3),.inl ⟨_,x9 gT (vw (by omega)) zZ,rfl⟩⟩,qQ ah 2305843009213693952 [] []⟩
  ·have jN:=of_decide_eq_false cq;refine E8 ah 2305843009213693952 [] [oB cq] ?_;have Wb:ja f ks=.inl ([]:List Tree):=by have h:=gT;rw[show i_1=ks.length by omega,List.take_length] at h;exact h
   have RU:List.length ([]:List Tree)=ks.length:=by have h:=fL;omega
   obtain⟨Yj,OU,aoJ⟩:∃v,v=v0/\T .az v:=⟨v0,rfl,hv0⟩;obtain⟨En,K3,yj,yl,K4,K5,K6,rfl,_⟩:=T.aB aoJ;refine⟨⟨.inl (aA En K3 yj yl K4 K5 K6),.inr ⟨([]:List Tree),Wb,RU,(λy hy=>by cases hy),⟨(λv hv=>by cases hv;exact aoJ),λw hw=>(by cases hw)⟩,(λh=>absurd h (by show(6:Int)≠12;decide)),(λh=>absurd h (by show(6:Int)≠13;decide)),(λh=>absurd h (by show ¬((6:Int)=17\/(6:Int)=18);decide)),(λh=>absurd h (by show ¬(19:Int)<=6;decide)),(λh=>absurd h (by show(6:Int)≠24;decide)),(λh=>absurd h (by show(6:Int)≠25;decide))⟩⟩,qQ ah 2305843009213693952 [] [oO akC,oC (show ev 55 [.ptr (.arg 0) 0,.t (aY 6 n s t ns ks),.bX] [.cells 63 (aU q)]=some (br.ret (.t (aA En K3 yj yl K4 K5 K6)) [.cells 63 (aU q)] []) from(jm (Dt adk (Uy _))).trans (congrArg (λz=>some (br.ret (.t z) [.cells 63 (aU q)] [])) OU.symm)),oN (o:=.map aP 26) (λ_=>rfl)]⟩
 ·rcases aL (decide (((i_1:Nat):Int)<((ks.length:Nat):Int))) with jl|jl
  ·have BT:=of_decide_eq_true jl;rcases AL:f (jP ks i_1) with v_6|w_6
   ·have adf:=Em _ (mK (by omega)) _ AL;obtain⟨k_6,b_6,qh,q8,t_6,N_6,L_6,rfl,_⟩:=T.aB adf;exact⟨.inl ⟨⟨i_1+1,(jD::jE)++([(aA k_6 b_6 qh q8 t_6 N_6 L_6)]:List Tree)⟩,⟨⟨(by show(i_1+1)<=ks.length;omega),(λy hy=>(List.mem_append.1 hy).elim (bP y) (λh=>by rw[List.mem_singleton.1 h];exact adf)),(by have h9:=fL;(try dsimp only at h9 ⊢);(try simp only[List.length_append,List.length_cons,List.length_nil] at h9 ⊢);omega),(x8 gT (vw (by omega)) AL)⟩,(by show(ks.length - (i_1+1))<(ks.length - i_1);omega)⟩⟩,vH ah 2305843009213693952 [] 61 5 [.loc [0],.loc [1],.loc [2],.loc [3],.loc [4]] [.loc [0],.loc [1],.loc [2],.loc [3],.loc [4],.arg 0,.arg 1] [3,4,5,6,7,9,42,43] [oB jl,oN (o:=.map aP 26) bf,oC (show ev 51 (.t (.int .i64 ((i_1:Nat):Int))::[.ptr (.arg 0) 0,.ptr (.arg 1) 0,.ptr (.arg 2) 0]) [.cells 61 [.ptr (.arg 3) 0],.cells 26 (bg 6 n s t ns ks),.cells 66 [.map (.arg 4)],.cells 63 (aU q),.map aP 26]=some (aM (.inl (aA k_6 b_6 qh q8 t_6 N_6 L_6)) [.cells 61 [.ptr (.arg 3) 0],.cells 26 (bg 6 n s t ns ks),.cells 66 [.map (.arg 4)],.cells 63 (aU q),.map aP 26]) from(fk gA i_1 (by omega)).trans (congrArg (λz=>some (aM z [.cells 61 [.ptr (.arg 3) 0],.cells 26 (bg 6 n s t ns ks),.cells 66 [.map (.arg 4)],.cells 63 (aU q),.map aP 26])) AL)),oN (o:=.map aP 26) bf,oU true 7 ([(aA k_6 b_6 qh q8 t_6 N_6 L_6)]:List Tree) (eP.cons ⟨rfl,rfl,rfl⟩ eP.nil) (by simp),oW true 7 (jD::jE) (aG bP),oA (((jD::jE).length+([(aA k_6 b_6 qh q8 t_6 N_6 L_6)]:List Tree).length) *96) cU,oI (i_1) (by omega),dc 32 7 ((jD::jE)++([(aA k_6 b_6 qh q8 t_6 N_6 L_6)]:List Tree)),oN (o:=.map aP 26) (λ_=>rfl)]⟩
   ·refine E8 ah 2305843009213693952 [] [oB jl,oN (o:=.map aP 26) bf,oC (show ev 51 (.t (.int .i64 ((i_1:Nat):Int))::[.ptr (.arg 0) 0,.ptr (.arg 1) 0,.ptr (.arg 2) 0]) [.cells 61 [.ptr (.arg 3) 0],.cells 26 (bg 6 n s t ns ks),.cells 66 [.map (.arg 4)],.cells 63 (aU q),.map aP 26]=some (aM (.inr w_6) [.cells 61 [.ptr (.arg 3) 0],.cells 26 (bg 6 n s t ns ks),.cells 66 [.map (.arg 4)],.cells 63 (aU q),.map aP 26]) from(fk gA i_1 (by omega)).trans (congrArg (λz=>some (aM z [.cells 61 [.ptr (.arg 3) 0],.cells 26 (bg 6 n s t ns ks),.cells 66 [.map (.arg 4)],.cells 63 (aU q),.map aP 26])) AL))] ?_;refine⟨⟨.inr (w_6),.inl ⟨_,x9 gT (vw (by omega)) AL,rfl⟩⟩,qQ ah 2305843009213693952 [] []⟩
  ·have BT:=of_decide_eq_false jl;refine E8 ah 2305843009213693952 [] [oB jl] ?_;have RW:ja f ks=.inl (jD::jE):=by have h:=gT;rw[show i_1=ks.length by omega,List.take_length] at h;exact h
   have KP:List.length (jD::jE)=ks.length:=by have h:=fL;omega
   have Xy:Ce (q,(aY 6 n s t ns ks),(jD::jE),(jD::jE).length):=⟨by have h9:=KP;show List.length (jD::jE)<=16;omega,bP,rfl,hE⟩;have hq8:=adj q (aY 6 n s t ns ks) (jD::jE) ((jD::jE).length) Xy;obtain⟨akD,aoK,v_7,Kb⟩:∃b S v,(adi (q,(aY 6 n s t ns ks),(jD::jE),(jD::jE).length))=(b,S,v):=⟨_,_,_,rfl⟩;have adh:T .az v_7:=by have h9:=hq8.2;rw[Kb] at h9;exact h9
   obtain⟨k_7,b_7,Sq,Sr,t_7,N_7,L_7,rfl,_⟩:=T.aB adh;rcases aL akD with akE|akE
   ·refine⟨⟨.inl (aA k_7 b_7 Sq Sr t_7 N_7 L_7),.inr ⟨(jD::jE),RW,KP,bP,⟨(λv hv=>by cases hv;exact adh),λw hw=>(by cases hw)⟩,(λh=>absurd h (by show(6:Int)≠12;decide)),(λh=>absurd h (by show(6:Int)≠13;decide)),(λh=>absurd h (by show ¬((6:Int)=17\/(6:Int)=18);decide)),(λh=>absurd h (by show ¬(19:Int)<=6;decide)),(λh=>absurd h (by show(6:Int)≠24;decide)),(λh=>absurd h (by show(6:Int)≠25;decide))⟩⟩,qQ ah 2305843009213693952 [] [oO akC,dc 32 7 (jD::jE),oC (show ev 55 [.ptr (.arg 0) 0,.t (aY 6 n s t ns ks),.ref (.arg 1) 0 (jD::jE).length] [.cells 63 (aU q),.arr (32,true) 7 false ((flat (jD::jE)).map .t)]=some (br.ret (.t (aA k_7 b_7 Sq Sr t_7 N_7 L_7)) [.cells 63 (aU q),.dead] []) from(fF (u6 adk) RT (q,(aY 6 n s t ns ks),(jD::jE),(jD::jE).length) Xy rfl rfl).trans (by rw[Kb];show some (br.ret _ [_,cond akD _ _] [])=_;rw[akE];rfl)),oN (o:=.map aP 26) (λ_=>rfl)]⟩
   ·refine⟨⟨.inl (aA k_7 b_7 Sq Sr t_7 N_7 L_7),.inr ⟨(jD::jE),RW,KP,bP,⟨(λv hv=>by cases hv;exact adh),λw hw=>(by cases hw)⟩,(λh=>absurd h (by show(6:Int)≠12;decide)),(λh=>absurd h (by show(6:Int)≠13;decide)),(λh=>absurd h (by show ¬((6:Int)=17\/(6:Int)=18);decide)),(λh=>absurd h (by show ¬(19:Int)<=6;decide)),(λh=>absurd h (by show(6:Int)≠24;decide)),(λh=>absurd h (by show(6:Int)≠25;decide))⟩⟩,qQ ah 2305843009213693952 [] [oO akC,dc 32 7 (jD::jE),oC (show ev 55 [.ptr (.arg 0) 0,.t (aY 6 n s t ns ks),.ref (.arg 1) 0 (jD::jE).length] [.cells 63 (aU q),.arr (32,true) 7 false ((flat (jD::jE)).map .t)]=some (br.ret (.t (aA k_7 b_7 Sq Sr t_7 N_7 L_7)) [.cells 63 (aU q),.arr (32,true) 7 true ((flat aoK).map .t)] []) from(fF (u6 adk) RT (q,(aY 6 n s t ns ks),(jD::jE),(jD::jE).length) Xy rfl rfl).trans (by rw[Kb];show some (br.ret _ [_,cond akD _ _] [])=_;rw[akE];rfl)),oN (o:=.arr (32,true) 7 true ((flat aoK).map .t)) (λ_=>kW),oN (o:=.map aP 26) (λ_=>rfl)]⟩
end
end Go.Proofs.YtfdnciimclnncaaGreatDoor.w.e
namespace Go.Proofs.YtfdnciimclnncaaGreatDoor.w.e
open Go Go.Abs
set_option maxRecDepth 100000
set_option maxHeartbeats 2000000
noncomputable section
open Go.Abs.Ty
def H9 (q:Sc):List aO:=[Ss q,.map aP 26]
def MQ (r:Tree ⊕ Int):Prop:=(∀v,r=.inl v->T .az v)/\∀w,r=.inr w->w≠0
def Cf (m:Int)(q:Sc)(f:Tree->Tree ⊕ Int)(e:Tree)(r:Tree ⊕ Int):Prop:=
 ai (cf m) 27 [.ptr (.arg 0) 0,.t e,.map (.arg 1)] (H9 q) (aM r (H9 q))/\MQ r/\
 (fq e=14->r=gD (f (jP (fZ e) 0)) (f (jP (fZ e) 1)) (f (jP (fZ e) 2)))/\
 (fq e=15\/fq e=16->r=dJ (fq e) (f (jP (fZ e) 0)) (f (jP (fZ e) 1)))/\
 (fq e≠14->fq e≠15->fq e≠16->EvO m f e (fZ e) r)
theorem Wc {r:Tree ⊕ Int}(h:MQ r)(k:Int):MQ (kd k r):=by
 cases r with
 |inr w=>exact⟨λv hv=>by(cases hv),λw hw=>h.2 w hw⟩
 |inl v=>
  show MQ (cond (iJ v==k) (.inl v) (.inr 7))
  cases iJ v==k with
  |true=>exact h
  |false=>exact⟨λv hv=>by(cases hv),λw hw=>by cases hw;decide⟩
theorem agC {a b c:Tree ⊕ Int}(ha:MQ a)(hb:MQ b)(hc:MQ c):MQ (gD a b c):=by
 unfold gD;have h:=Wc ha 0;cases hk:kd 0 a with
 |inr w=>rw[hk] at h;exact⟨λv hv=>by(cases hv),λw hw=>h.2 w hw⟩
 |inl v=>
  show MQ (cond (k6 v) b c)
  cases k6 v<;>assumption
theorem RY {op:Int}{a b:Tree ⊕ Int}(ha:MQ a)(hb:MQ b):MQ (dJ op a b):=by
 unfold dJ;have h:=Wc ha 0;cases hk:kd 0 a with
 |inr w=>rw[hk] at h;exact⟨λv hv=>by(cases hv),λw hw=>h.2 w hw⟩
 |inl v=>
  rw[hk] at h
  show MQ (cond (k6 v==(op==16)) (.inl v) (kd 0 b))
  cases k6 v==(op==16)
  · exact Wc hb 0
  · exact h
theorem MS {f:Tree->Tree ⊕ Int}:∀{l:List Tree} {w:Int},ja f l=.inr w->∃x∈l,f x=.inr w
 | [],_,h=>by cases h
 | a::l,w,h=>by
  unfold ja at h
  cases ha:f a with
  |inr u=>rw[ha] at h;cases h;exact⟨a,List.mem_cons_self,ha⟩
  | inl v=>
   rw[ha] at h
   simp only at h
   cases hl:ja f l with
   |inr u=>
    rw[hl] at h
    cases h
    obtain⟨x,hx,e⟩:=MS hl
    exact⟨x,List.mem_cons_of_mem _ hx,e⟩
   |inl vs=>rw[hl] at h;cases h
theorem GW {f g:Tree->Tree ⊕ Int}:∀{l:List Tree},(∀x∈l,f x=g x)->ja f l=ja g l
 | [],_=>rfl
 |a::l,h=>by
  unfold ja
  rw[h a List.mem_cons_self,GW λx hx=>h x (List.mem_cons_of_mem _ hx)]
theorem Wd (m:Int)(q:Sc)(hs:Rq q)(f:Tree->Tree ⊕ Int){e:Tree}(hE:T .aD e)(hR:Rt e)
 (hf:∀x∈fZ e,ai (cf m) 27 [.ptr (.arg 0) 0,.t x,.map (.arg 1)] (H9 q) (aM (f x) (H9 q)))(hT:∀x∈fZ e,MQ (f x)):∃r,Cf m q f e r:=by
 obtain⟨op,n,s,t,ns,ks,rfl,h0,WE,htb,hn,Yg,lk,hks⟩:=T.bz hE
 cases hR with|mk _ _ _ _ _ _ hM _=>
 obtain⟨⟨m1,m2⟩,m3,m4,m5,m6,m7⟩:=id hM
 have Em:∀x∈ks,∀v,f x=.inl v->T .az v:=λx hx=>(hT x hx).1
 have ty:∀i,i<ks.length->MQ (f (jP ks i)):=λi hi=>hT _ (mK hi)
 by_cases Sj:op=14
 ·subst Sj;have hl:ks.length=3:=m4 rfl;obtain⟨⟨r,hr⟩,hc⟩:=aoE m q n s t ns ks hE lk hks f hf Em hl;exact⟨r,hc,by rw[hr];exact agC (ty 0 (by omega)) (ty 1 (by omega)) (ty 2 (by omega)),λ_=>hr,λh=>absurd h (by show ¬((14:Int)=15\/(14:Int)=16);decide),λh=>absurd rfl h⟩
 by_cases Ql:op=15
 ·subst Ql;have hl:ks.length=2:=m6 (by decide);obtain⟨⟨r,hr⟩,hc⟩:=akx m q n s t ns ks hE lk hks f hf Em hl;exact⟨r,hc,by rw[hr];exact RY (ty 0 (by omega)) (ty 1 (by omega)),λh=>absurd h (by show(15:Int)≠14;decide),λ_=>hr,λ_ h=>absurd rfl h⟩
 by_cases h16:op=16
 ·subst h16;have hl:ks.length=2:=m6 (by decide);obtain⟨⟨r,hr⟩,hc⟩:=aoG m q n s t ns ks hE lk hks f hf Em hl;exact⟨r,hc,by rw[hr];exact RY (ty 0 (by omega)) (ty 1 (by omega)),λh=>absurd h (by show(16:Int)≠14;decide),λ_=>hr,λ_ _ h=>absurd rfl h⟩
 have fin:∀r,EvO m f (aY op n s t ns ks) ks r->MQ r:=λr h=>by
  rcases h with ⟨w,h1,rfl⟩|⟨l,_,_,_,hq⟩
  ·obtain⟨x,hx,e⟩:=MS h1;exact⟨λv hv=>by(cases hv),λw' hw=>by cases hw;exact(hT x hx).2 _ e⟩
  ·exact hq.1
 by_cases h6:op=6
 ·subst h6;obtain⟨⟨r,hr⟩,hc⟩:=akB m q n s t ns ks hE lk hks f hf Em (m7 rfl);exact⟨r,hc,fin r hr,λh=>absurd h Sj,λh=>absurd h (by show ¬((6:Int)=15\/(6:Int)=16);decide),λ_ _ _=>hr⟩
 ·obtain⟨⟨r,hr⟩,hc⟩:=aoI m q op n s t ns ks hE lk hks f hf Em hM h6 Sj Ql h16 hs;exact⟨r,hc,fin r hr,λh=>absurd h Sj,λh=>h.elim (λh=>absurd h Ql) (λh=>absurd h h16),λ_ _ _=>hr⟩
open Classical in
def pick (P:Tree ⊕ Int->Prop):Tree ⊕ Int:=if h:∃r,P r then h.choose else .inr 7
theorem Wf {P:Tree ⊕ Int->Prop}(h:∃r,P r):P (pick P):=by
 unfold pick;rw[dif_pos h];exact h.choose_spec
def evN (m:Int)(q:Sc):Nat->Tree->Tree ⊕ Int
 |0,_=>.inr 7
 |n+1,e=>pick (Cf m q (evN m q n) e)
theorem ya {e:Tree}(hR:Rt e):∀x∈fZ e,Rt x:=by
 cases hR with|mk _ _ _ _ _ _ _ hk=>exact hk
theorem OW {e:Tree}(hE:T .aD e):∀x∈fZ e,T .aD x:=by
 obtain⟨op,n,s,t,ns,ks,rfl,_,_,_,_,_,_,hks⟩:=T.bz hE;exact hks
theorem Uz (m:Int)(q:Sc)(hs:Rq q):∀(n:Nat) (e:Tree),Dx (n+1) e->T .aD e->Rt e->Cf m q (evN m q n) e (evN m q (n+1) e)
 |0,e,hd,hE,hR=>Wf (Wd m q hs _ hE hR (λx hx=>(hd x hx).elim) (λx hx=>(hd x hx).elim))
 |n+1,e,hd,hE,hR=>Wf (Wd m q hs _ hE hR (λx hx=>(Uz m q hs n x (hd x hx) (OW hE x hx) (ya hR x hx)).1) (λx hx=>(Uz m q hs n x (hd x hx) (OW hE x hx) (ya hR x hx)).2.1))
theorem vN {l:List Tree}{i n:Nat}(h:l.length=n)(hi:i<n):jP l i∈l:=mK (by omega)
theorem KQ {m:Int}{q:Sc}{f g:Tree->Tree ⊕ Int}{e:Tree}(hR:Rt e)(h:∀x∈fZ e,f x=g x):Cf m q f e=Cf m q g e:=by
 funext r;cases hR with|mk op n s t ns ks hM hk=>
 obtain⟨⟨m1,m2⟩,m3,m4,m5,m6,m7⟩:=id hM;have h:∀x∈ks,f x=g x:=h;have e1:(fq (aY op n s t ns ks)=14->r=gD (f (jP ks 0)) (f (jP ks 1)) (f (jP ks 2)))=(fq (aY op n s t ns ks)=14->r=gD (g (jP ks 0)) (g (jP ks 1)) (g (jP ks 2))):=propext ⟨λk q=>by
  rw[← h _ (vN (m4 q) (by decide)),← h _ (vN (m4 q) (by decide)),← h _ (vN (m4 q) (by decide))];exact k q,λk q=>by
  rw[h _ (vN (m4 q) (by decide)),h _ (vN (m4 q) (by decide)),h _ (vN (m4 q) (by decide))];exact k q⟩
 have hop:∀q:fq (aY op n s t ns ks)=15\/fq (aY op n s t ns ks)=16,ks.length=2:=λq=>m6 (by have q:op=15\/op=16:=q;omega)
 have e2:(fq (aY op n s t ns ks)=15\/fq (aY op n s t ns ks)=16->r=dJ op (f (jP ks 0)) (f (jP ks 1)))=(fq (aY op n s t ns ks)=15\/fq (aY op n s t ns ks)=16->r=dJ op (g (jP ks 0)) (g (jP ks 1))):=propext ⟨λk q=>by
  rw[← h _ (vN (hop q) (by decide)),← h _ (vN (hop q) (by decide))];exact k q,λk q=>by
  rw[h _ (vN (hop q) (by decide)),h _ (vN (hop q) (by decide))];exact k q⟩
 have e3:EvO m f (aY op n s t ns ks) ks r=EvO m g (aY op n s t ns ks) ks r:=by
  unfold EvO;rw[GW h]
 exact propext ⟨λ⟨a,b,c,d,e⟩=>⟨a,b,e1.mp c,e2.mp d,λx y z=>e3.mp (e x y z)⟩,λ⟨a,b,c,d,e⟩=>⟨a,b,e1.mpr c,e2.mpr d,λx y z=>e3.mpr (e x y z)⟩⟩
theorem KR (m:Int)(q:Sc):∀(n k:Nat) (e:Tree),Dx n e->Dx k e->Rt e->evN m q n e=evN m q k e
 |0,_,_,h,_,_=>h.elim
 |_+1,0,_,_,h,_=>h.elim
 |n+1,k+1,e,h1,h2,hR=>by
  show pick _=pick _
  rw[KQ hR λx hx=>KR m q n k x (h1 x hx) (h2 x hx) (ya hR x hx)]
noncomputable def yy (m:Int):Tree->Int:=(x5 m).choose
theorem F1 (m:Int):∀x,T .aD x->R1 (cf m) 8 x (.int .i64 (yy m x)):=λx h=>((x5 m).choose_spec x h).1
theorem KS (m:Int){x:Tree}(hx:T .aD x)(h:yy m x=0):Rt x:=((x5 m).choose_spec x hx).2.1 h
theorem ahO (m:Int){x:Tree}(hx:T .aD x):∃n,Dx n x/\yy m x=I6 (A0 (oh m) n x):=((x5 m).choose_spec x hx).2.2
noncomputable def X9 (m:Int):Tree->Int:=(Vq m).choose
theorem OX (m:Int):∀x,T .cE x->R1 (cf m) 9 x (.int .i64 (X9 m x)):=λx h=>((Vq m).choose_spec x h).1
noncomputable def crF (m:Int):Tree->Int:=(Fk m).choose
theorem UA (m:Int):∀x,T .aS x->R1 (cf m) 24 x (.int .i64 (crF m x)):=λx h=>((Fk m).choose_spec x h).1
def zeroV:Tree:=(aA 0 false 0 [] [] [] [])
theorem agD (m:Int)(op n:Int)(s t:List UInt8)(ns ks:List Tree)(hE:T .aD (aY op n s t ns ks))(p1 p2 a1 a2 r1 r2:List UInt8)(qk:Int)(qb:Bool)(qn:Int)(qs qt:List UInt8)(pY ql:List Tree)(hQ:T .cE (p6 p1 p2 a1 a2 r1 r2 qk qb qn qs qt pY ql))(l:List Tree)(hl:l.length<=4194304)(hl2:∀y∈l,T .bQ y)(h1:yy m (aY op n s t ns ks)≠0):ai (cf m) 11 [.t (aY op n s t ns ks),.t (p6 p1 p2 a1 a2 r1 r2 qk qb qn qs qt pY ql),.t (.sl l)] [] (.ret (.t (.cF [zeroV,.int .i64 (yy m (aY op n s t ns ks))])) [] []):=by
 obtain⟨ev,aJ,z6⟩:∃ev,aC (cf m) ev/\Has ev 8 (mL (λx=>T .aD x) (λx=>.int .i64 (yy m x))):=⟨_,(aq (bR (λx h=>F1 m x h)) aF),au⟩;refine ai.gO ?_;refine AX.start 40 3 Tryz.func11 rfl (by decide) rfl rfl (by decide) ?_;refine AX.frames ?_;exact⟨(),kf ah [oC (bS z6 (x:=(aY op n s t ns ks)) hE),oB (bne_iff_ne.mpr h1)]⟩
theorem agE (m:Int)(op n:Int)(s t:List UInt8)(ns ks:List Tree)(hE:T .aD (aY op n s t ns ks))(p1 p2 a1 a2 r1 r2:List UInt8)(qk:Int)(qb:Bool)(qn:Int)(qs qt:List UInt8)(pY ql:List Tree)(hQ:T .cE (p6 p1 p2 a1 a2 r1 r2 qk qb qn qs qt pY ql))(l:List Tree)(hl:l.length<=4194304)(hl2:∀y∈l,T .bQ y)(h1:yy m (aY op n s t ns ks)=0)(h2:X9 m (p6 p1 p2 a1 a2 r1 r2 qk qb qn qs qt pY ql)≠0):ai (cf m) 11 [.t (aY op n s t ns ks),.t (p6 p1 p2 a1 a2 r1 r2 qk qb qn qs qt pY ql),.t (.sl l)] [] (.ret (.t (.cF [zeroV,.int .i64 (X9 m (p6 p1 p2 a1 a2 r1 r2 qk qb qn qs qt pY ql))])) [] []):=by
 obtain⟨ev,aJ,z6,RZ⟩:∃ev,aC (cf m) ev/\Has ev 8 (mL (λx=>T .aD x) (λx=>.int .i64 (yy m x)))/\Has ev 9 (mL (λx=>T .cE x) (λx=>.int .i64 (X9 m x))):=⟨_,(aq (bR (λx h=>F1 m x h)) (aq (bR (λx h=>OX m x h)) aF)),au,(av rfl au)⟩;refine ai.gO ?_;refine AX.start 40 3 Tryz.func11 rfl (by decide) rfl rfl (by decide) ?_;refine AX.frames ?_;exact⟨(),kf ah [oC (bS z6 (x:=(aY op n s t ns ks)) hE),oB (bne_eq_false_iff_eq.mpr h1),oC (bS RZ (x:=(p6 p1 p2 a1 a2 r1 r2 qk qb qn qs qt pY ql)) hQ),oB (bne_iff_ne.mpr h2)]⟩
theorem agF (m:Int)(op n:Int)(s t:List UInt8)(ns ks:List Tree)(hE:T .aD (aY op n s t ns ks))(p1 p2 a1 a2 r1 r2:List UInt8)(qk:Int)(qb:Bool)(qn:Int)(qs qt:List UInt8)(pY ql:List Tree)(hQ:T .cE (p6 p1 p2 a1 a2 r1 r2 qk qb qn qs qt pY ql))(l:List Tree)(hl:l.length<=4194304)(hl2:∀y∈l,T .bQ y)(h1:yy m (aY op n s t ns ks)=0)(h2:X9 m (p6 p1 p2 a1 a2 r1 r2 qk qb qn qs qt pY ql)=0)(h3:crF m (.sl l)≠0):ai (cf m) 11 [.t (aY op n s t ns ks),.t (p6 p1 p2 a1 a2 r1 r2 qk qb qn qs qt pY ql),.t (.sl l)] [] (.ret (.t (.cF [zeroV,.int .i64 (crF m (.sl l))])) [] []):=by
 obtain⟨ev,aJ,z6,RZ,adl⟩:∃ev,aC (cf m) ev/\Has ev 8 (mL (λx=>T .aD x) (λx=>.int .i64 (yy m x)))/\Has ev 9 (mL (λx=>T .cE x) (λx=>.int .i64 (X9 m x)))/\Has ev 24 (mL (λx=>T .aS x) (λx=>.int .i64 (crF m x))):=⟨_,(aq (bR (λx h=>F1 m x h)) (aq (bR (λx h=>OX m x h)) (aq (bR (λx h=>UA m x h)) aF))),au,(av rfl au),(av rfl (av rfl au))⟩;refine ai.gO ?_;refine AX.start 40 3 Tryz.func11 rfl (by decide) rfl rfl (by decide) ?_;refine AX.frames ?_;exact⟨(),kf ah [oC (bS z6 (x:=(aY op n s t ns ks)) hE),oB (bne_eq_false_iff_eq.mpr h1),oC (bS RZ (x:=(p6 p1 p2 a1 a2 r1 r2 qk qb qn qs qt pY ql)) hQ),oB (bne_eq_false_iff_eq.mpr h2),oC (bS adl (x:=.sl l) (.aS _ cm hl2)),oB (bne_iff_ne.mpr h3)]⟩
end
end Go.Proofs.YtfdnciimclnncaaGreatDoor.w.e
noncomputable section
namespace Go.Abs
open Go
section
variable {C:ey}{fn:Func}{n:Nat}{r:br}
def Yl (C:ey)(fn:Func)(n:Nat)(r:br)(c:Code)(st:St):Prop:=
 ∀(G0:Gh) (w0:World) (G:Gh) (w:World) (a:Act),(∀p,¬G0.dom (.loc p))->ei G0 w0 G w->yG C G w st a->a.defers=[]->
  c.wp C.P (bodyPostD C.P fn (yA G0 w0 n r)) a w
theorem akF {f:FuncId}{body:Code}{args:List TV}{bu:List aO}(Nn:C.P.fn f=some fn)(hbody:fn.body=some body)(hname:fn.name≠ "runtime.NumGoroutine")
 (h:Yl C fn bu.length r body ⟨args++List.replicate (fn.ntmps - args.length) dm,dA 0 bu,0⟩):ai C f args bu r:=by
 intro G w vs hw hg had hH hv
 have hfn:=C.P.Yo _ _ Nn
 have hst:yG C G w ⟨args++List.replicate (fn.ntmps - args.length) dm,dA 0 bu,0⟩ {tmps:=vs.toArray++Array.replicate (fn.ntmps - vs.toArray.size) undef,defers:=[]}:=by
  refine⟨hw,hg, ?_,hH,λp hp=>absurd hp (had.2 p)⟩;have e:(vs.toArray++Array.replicate (fn.ntmps - vs.toArray.size) undef).toList=vs++List.replicate (fn.ntmps - args.length) undef:=by simp[hv.1]
  unfold SR;rw[e];refine ec.append hv ⟨by simp,λj c u hc hu=> ?_⟩;rw[List.getElem?_replicate] at hc hu;by_cases hl:j<fn.ntmps - args.length
  ·rw[if_pos hl] at hc hu;simp at hc hu;subst hc;subst hu;exact qX G
  ·rw[if_neg hl] at hc;simp at hc
 refine .inl ⟨?_,calls_of_wp_defers hfn hbody ?_⟩
 ·simp[callFunc,hfn,hname,hbody]
 ·exact h G w G w _ had.2 (Step.refl hw _ _) hst rfl
theorem agG {G0:Gh}{w0:World}{e:aQ}{s:St}{ex:Exit}{a a':Act}{w':World}(hq:uD C fn n r e s)(hg:Good C G0 w0 a e s ex a' w')(hd0:a.defers=[]):bodyPostD C.P fn (yA G0 w0 n r) ex a' w':=by
 cases e with
 |normal=>
  obtain⟨G',hs,hd,rfl,qp⟩:=hg
  show Leaves C.P fn a'.tmps _ a'.defers .returning w'
  rw[hd,hd0]
  exact hq.elim (λh=>sX h hs qp) (λh=>BB h hs qp)
 |ret=>
  obtain⟨G',hs,hd,rfl,qp⟩:=hg
  show Leaves C.P fn a'.tmps _ a'.defers .returning w'
  rw[hd,hd0]
  exact hq.elim (λh=>sX h hs qp) (λh=>BB h hs qp)
 |exit id=>exact hq.elim
 |panic v=>
  obtain⟨_,rfl⟩:=hq
  obtain⟨G',hs,hd,x,rfl,hx,hH',_⟩:=hg
  show Leaves C.P fn a'.tmps _ a'.defers (.panicking _) w'
  rw[hd,hd0]
  refine⟨x,G',rfl,hs,λi o ho=> ?_,hx⟩
  have:=xo ho
  rw[Nat.zero_add] at this
  exact hH' _ _ this
theorem Yl.of {c:Code}{st:St}(h:AW C c st (uD C fn n r)):Yl C fn n r c st:=λG0 w0 G w a h0 hs hst hd=>
 wp_mono (h G0 w0 G w a h0 hs hst) λex a' w' ⟨e,s,hq,hg⟩=>agG hq hg hd
def ahP (C:ey)(fn:Func)(n:Nat)(r:br)(y:Code):aQ->St->Prop
 |.normal,s=>Yl C fn n r y s
 |e,s=>uD C fn n r e s
theorem Yl.seq {x y:Code}{st:St}(h:AW C x st (ahP C fn n r y)):Yl C fn n r (.seq x y) st:=by
 intro G0 w0 G w a h0 hs hst hd0;refine wp_seq (wp_mono (h G0 w0 G w a h0 hs hst) λex a1 w1 ⟨e,st1,hq,hg⟩=> ?_);cases e with
 |normal=>
  obtain⟨rfl,hd,G1,hs1,ji⟩:=hg.nH
  exact hq G0 w0 G1 w1 a1 h0 hs1 ji (hd.trans hd0)
 |exit id=>exact gM (hg.gL (by simp)) (agG (e:=.exit id) hq hg hd0)
 |ret=>exact gM (hg.gL (by simp)) (agG (e:=.ret) hq hg hd0)
 |panic v=>exact gM (hg.gL (by simp)) (agG (e:=.panic v) hq hg hd0)
def OY (G:Gh)(u:FrameMode):Option TV->Prop
 |none=>u=.returning
 |some x=>∃pv,VR G x pv/\u=.panicking [{v:=pv,recovered:=false}]
def ahQ:aQ->Option TV
 |.panic v=>some v
 |_=>none
def OZ (C:ey)(g:FuncId)(args:List TV)(bu:List aO)(uy:Option TV)(os':List aO):Prop:=
 ∀ (G:Gh) (w:World) (vs:List Value) (u:FrameMode),WF G w->jI C G->Ew G bu.length->HR G w (dA 0 bu)->ec G args vs->
  OY G u uy->
  (callFunc g vs.toArray).run C.P w=.ok (.enter g vs.toArray) w/\
  CallsD C.P g vs.toArray u w λe u' w'=>∃v G',e=.returned v/\settle u'=.returning/\Step (λ_=>True) (λk=>k.jf=true) G w G' w'/\os'.length=bu.length/\
   ∀i o,os'[i]?=some o->G'.dom (.arg i)/\OR G' w' (.arg i) o
theorem adn {g:FuncId}{H:Heap}{args vc:List TV}{S:List Nm}{os os':List aO}{h:Heap}{t:Nat}{G:Gh}{w:World}{vs:List Value}{u:FrameMode}{uy O0:Option TV}(hD:OZ C g vc os O0 os')
 (hn:S.Nodup)(h1:TV.yF (LA S) args=some vc)(h2:jK H S S=some os)(h4:ki S t S os'=some h)(hp:uy.map (·.rn (LA S))=O0.map some)
 (hw:WF G w)(hg:jI C G)(hH:HR G w H)(hfresh:∀p,¬G.dom (.loc (t::p)))(hv:ec G args vs)
 (hu:OY G u uy):
 (callFunc g vs.toArray).run C.P w=.ok (.enter g vs.toArray) w/\
 CallsD C.P g vs.toArray u w λe u' w'=>∃v G',e=.returned v/\settle u'=.returning/\Step (λk=>k∈h.map (·.1)) (λk=>∃p,k=.loc (t::p)) G w G' w'/\∀k ob,(k,ob)∈h->G'.dom k/\OR G' w' k ob:=by
 have HD:∀k∈S,G.dom k:=by
  intro k hk;obtain⟨j,hj⟩:=List.mem_iff_getElem?.1 hk;obtain⟨o,o',e1,_,_⟩:=(jR h2).2 j k hj;exact(hH k o e1).1
 have mT:OY (G.within S) u O0:=by
  cases uy with
  |none=>
   cases O0 with
   |none=>exact hu
   |some y=>simp at hp
  | some x=>
   cases O0 with
   |none=>simp at hp
   |some y=>
    simp at hp
    obtain⟨pv,hx,e⟩:=hu
    exact⟨pv,hx.rn l9 hp,e⟩
 obtain⟨P0,hc⟩:=hD (G.within S) w vs u (Ai hw hn HD) (λx cs hx=>hg x cs hx)
  ⟨λi hi=>by have:=(jR h2).1;exact(by omega:i<S.length),λp d=>d⟩ (Aj hH h2) (hv.rn l9 h1) mT
 refine⟨P0,hc.mono λe u' w' he=> ?_⟩
 obtain⟨v,G2,rfl,Yv,hs2,hl,YV⟩:=he
 have Nf:=vY hw hn HD hfresh hs2
 have ye:=Ak hn HD hfresh hs2
 obtain⟨ek,_,hO⟩:=xe h4
 refine⟨v,G.back S t G2,rfl,Yv,Nf.mono (λk _ hk=>by rw[ek];exact hk) (λk hk=>hk),λk ob hm=> ?_⟩
 obtain⟨i,o',e1,e2,e3⟩:=hO k ob hm
 obtain⟨d,ho⟩:=YV i o' e2
 exact⟨.inl (HD _ (List.mem_of_getElem? e1)),OR.rn ye (λ_ _ _=>rfl) (uQ hn e1) ho e3⟩
def akG (C:ey)(fn:Func)(g:FuncId)(caps:List TV)(N:Nat)(x:Tree)(e:aQ)(s:St):Prop:=
 (∀i,e≠ .exit i)/\∃(S:List Nm) (vc:List TV) (os os':List aO) (h:Heap) (osX:List aO) (ahR:Heap) (O0:Option TV),S.Nodup/\TV.yF (LA S) caps=some vc/\jK s.H S S=some os/\(∀t,ki S t S os'=some h)/\
  (∀t,finish C fn N ⟨s.slots,s.H.eY h,t⟩=some (.ret (.t x) osX ahR))/\
  (ahQ e).map (·.rn (LA S))=O0.map some/\OZ C g vc os O0 os'
theorem akH {g:FuncId}{caps:List TV}{x:Tree}{e:aQ}{s:St}{N:Nat}{G1 G0:Gh}{w1 w0:World}{S:List Nm}{t1:Nat}{a a':Act}{ex:Exit}{w':World}{ms:List Value}
 (hq:akG C fn g caps N x e s)(hg:Good C (G1.within S) w1 a e s ex a' w')(hd:a.defers=[{target:=.fn (.func g) ms.toArray,args:= #[]}])(hv:ec (G1.within S) caps ms)
 (hw1:WF G1 w1)(hn:S.Nodup)(HD:∀k∈S,G1.dom k)(hfresh:∀p,¬G1.dom (.loc (t1::p)))(akI:ei G0 w0 G1 w1)(hgl:jI C G1):bodyPostD C.P fn (yA G0 w0 0 (.ret (.t x) [] [])) ex a' w':=by
 obtain⟨hne,S2,vc,os,os',h,osX,ahR,O0,hn2,h1,h2,h4,arj,hpn,hD⟩:=hq
 have main:∀(G2:Gh) (tk:Nat) (u:FrameMode),ei (G1.within S) w1 G2 w'->HR G2 w' s.H->SR G2 s.slots a'->yY G2 tk->
  OY G2 u (ahQ e)->u≠ .run->
  Leaves C.P fn a'.tmps (yA G0 w0 0 (.ret (.t x) [] [])) [{target:=.fn (.func g) ms.toArray,args:= #[]}] u w':=by
  intro G2 tk u hs2 hH2 F5 hfr hu hur
  have ark:jI C (G1.within S):=λx cs hx=>hgl x cs hx
  have aoL:jI C G2:=ark.mono hs2.le
  obtain⟨P0,hc⟩:=adn (t:=tk) hD hn2 h1 h2 (h4 tk) hpn hs2.wf aoL hH2 hfr.not (hv.mono hs2.le) hu
  refine leaves_cons (f:=g) (args:=ms.toArray) hur (by simpa [invoke] using P0) (hc.mono ?_)
  rintro e1 u1 w3 ⟨v1,G3,rfl,Yv,Nf,YV⟩
  show Leaves C.P fn a'.tmps _ [] (settle u1) w3
  rw[Yv]
  have Zr:yG C G3 w3 ⟨s.slots,s.H.eY h,tk+1⟩ a':=⟨Nf.wf,aoL.mono Nf.le,F5.mono Nf.le,HR.eY Nf hs2.wf hH2 YV (λk _ hk=>hk),hfr.step Nf⟩
  obtain⟨v,hr,x',G4,e4,hs4,_,_,_,hx4⟩:=sX (fn:=fn) (n:=N) (st:=⟨s.slots,s.H.eY h,tk+1⟩) (arj (tk+1)) (ei.comp hs2 Nf.any) Zr
  refine⟨v,hr,x',G1.back S t1 G4,e4,ei.comp akI (vY hw1 hn HD hfresh hs4).any,rfl,λi o ho=>by simp at ho,λk o ho=>by simp at ho, ?_⟩
  exact .t _ _ hx4.tree
 cases e with
 |exit i=>exact absurd rfl (hne i)
 |normal=>
  obtain⟨G2,hs2,hd2,rfl,qq⟩:=hg
  show Leaves C.P fn a'.tmps _ a'.defers .returning w'
  rw[hd2,hd]
  exact main G2 s.tick .returning hs2 qq.heap qq.slots qq.fresh rfl (by simp)
 |ret=>
  obtain⟨G2,hs2,hd2,rfl,qq⟩:=hg
  show Leaves C.P fn a'.tmps _ a'.defers .returning w'
  rw[hd2,hd]
  exact main G2 s.tick .returning hs2 qq.heap qq.slots qq.fresh rfl (by simp)
 |panic v=>
  obtain⟨G2,hs2,hd2,px,rfl,hpx,hH2,F5,tk,hfr⟩:=hg
  show Leaves C.P fn a'.tmps _ a'.defers (.panicking _) w'
  rw[hd2,hd]
  exact main G2 tk _ hs2 hH2 F5 hfr ⟨px,hpx,rfl⟩ (by simp)
theorem Yl.defer {ev:bt}(aJ:aC C ev){f:FuncId}{id:Nat}{o1 o2:Oper}{fo:Operand}{g:FuncId}{y:Code}{slots UB:List TV}{H:Heap}{t:Nat}{v:TV}{u:Heap}{caps ahS:List TV}{S:List Nm}{bu:List aO}{x:Tree}
 (hw1:eT #[o1,o2] slots o1=some true)(hx1:bl C ev f H slots t o1=some (.val v u))(hg2:o2.guard=none)(hd2:o2.dst=none)(Pu:o2.op=.defer ⟨.value fo, #[], #[]⟩)
 (hf:dz C (ew slots o1.dst v) fo=some (.fn (.func g) [] caps))(hn:S.Nodup)(hS:jK (H.eY u) S S=some bu)(F5:TV.yF (LA S) (ew slots o1.dst v)=some UB)(hcv:TV.yF (LA S) caps=some ahS)
 (hy:AW C y ⟨UB,dA 0 bu,0⟩ (akG C fn g ahS bu.length x)):
 Yl C fn 0 (.ret (.t x) [] []) (.seq (.region id #[o1,o2] false) y) ⟨slots,H,t⟩:=by
 intro G0 w0 G w a h0 hs hst hd0
 refine wp_seq (wp_region_list ?_)
 refine wpList_step λK hK=> ?_
 rw[jy hw1 hst.slots]
 simp only[if_true]
 refine(tv aJ hx1 hst.wf hst.j8 hst.slots hst.heap hst.fresh.not).wp mW.no (λx1 w1 hr=> ?_) (λch w1 hr=> ?_)
 rotate_left
 ·obtain⟨x',G',e1,_⟩:=hr;simp at e1
 obtain⟨x',G1,e1,hs1,hu1,hv1⟩:=hr
 simp at e1;subst e1
 refine hK _ _ ?_
 have ji:=hst.op o1.dst hs1 hu1 hv1
 have akI:ei G0 w0 G1 w1:=ei.comp hs hs1.any
 generalize ha1:a.put o1.dst x1=a1 at ji ⊢
 have hd1:a1.defers=[]:=by rw[← ha1,put_defers];exact hd0
 have hfv:=cN ji.slots ji.j8 hf
 generalize hfe:a1.eval fo=fv at hfv
 cases hfv with|fn _ _ _ ls ms LN hp1 hl2 hp2=>
 have hls:ls=[]:=by simpa using LN
 subst hls
 refine wpList_step λK hK=> ?_
 have hwt:Region.wanted o2 (yielded #[o1,o2] a1.tmps)=true:=by simp[Region.wanted,hg2]
 rw[hwt]
 simp only[if_true]
 have hex:(execOp a1.eval o2).run C.P w1=.ok (.defer {target:=.fn (.func g) ms.toArray,args:= #[]}) w1:=by
  simp[execOp,Pu,resolve,hfe,Deferred.ofValue]
 unfold Oper.wp
 rw[hex,Oper.upon_defer]
 refine hK _ _ ?_
 generalize ha2:({a1 with defers:={target:=.fn (.func g) ms.toArray,args:= #[]}::a1.defers}:Act).put o2.dst undef=a2
 have qq:yG C G1 w1 ⟨ew slots o1.dst v,H.eY u,t+1⟩ a2:=by
  rw[← ha2,hd2];exact⟨ji.wf,ji.j8,ji.slots,ji.heap,ji.fresh⟩
 have hda:a2.defers=[{target:=.fn (.func g) ms.toArray,args:= #[]}]:=by
  rw[← ha2,hd2];show _::a1.defers=_;rw[hd1]
 have HD:∀k∈S,G1.dom k:=by
  intro k hk;obtain⟨j,hj⟩:=List.mem_iff_getElem?.1 hk;obtain⟨o,o',e1,_,_⟩:=(jR hS).2 j k hj;exact(qq.heap k o e1).1
 have hlen:bu.length=S.length:=(jR hS).1
 have hv0:ec G1 caps ms:=⟨hl2,hp2⟩
 have aoM:yG C (G1.within S) w1 ⟨UB,dA 0 bu,0⟩ a2:=⟨Ai qq.wf hn HD,λx cs hx=>qq.j8 x cs hx,ec.rn l9 qq.slots F5,Aj qq.heap hS,λp hp=>False.elim hp⟩
 have arl:∀p,¬(G1.within S).dom (.loc p):=λp hp=>hp
 exact wp_mono (hy (G1.within S) w1 (G1.within S) w1 a2 arl (Step.refl aoM.wf _ _) aoM) λex a' w' ⟨e,s,hq,hg⟩=>
  akH hq hg hda (ec.rn l9 hv0 hcv) qq.wf hn HD qq.fresh.not akI qq.j8
end
end Go.Abs
end
namespace Go.Proofs.YtfdnciimclnncaaGreatDoor.w.e
open Go Go.Abs Go.RowKit
set_option maxRecDepth 100000
set_option maxHeartbeats 2000000
noncomputable section
theorem akJ (x1 x2:Value)(w:World):
 CallsD Tryz.prog 25 #[x1,x2] .returning w λe u' w'=>e=.returned (.tuple #[])/\u'=.returning/\w'=w:=by
 refine callsD_of_wpS Tryz.func25 rfl λc₀ cs hu=> ?_
 apply wpS_seq
 apply wpS_region
 simp[wpOpsS,go_sem,recoverD,hu,Tryz.ntmps25,Exit.thenS]
 show Code.wpS Tryz.prog _ _ {tmps:= #[x1,x2,Value.nilIface,Value.nilIface,undef,undef,undef,undef,undef,undef],defers:=[]} _ _
 refine wpS_of_wp ?_
 go_wp2
 exact⟨rfl,.returning,by cases c₀;simp_all,.tuple #[],results_none rfl _ _ _,rfl,rfl,rfl⟩
def zc:List TV:=[.t (.int .u8 0),.t (.bool false),.t (.int .i64 0),.t (.str []),.t (.str []),.bX,.bX]
noncomputable def UC:Code:=match Tryz.f25.body with
 |some (.seq _ y)=>y
 |_=>.skip
noncomputable def akK (vc:List TV)(w0 wn:Int):St:=⟨eC 10 [(0,.ptr (.arg 0) 0),(1,.ptr (.arg 1) 0),(2,.t (.iface 60 (.agg [.int .i64 wn]))),(3,.t (.iface 60 (.agg [.int .i64 wn])))],[(.arg 0,.cells 32 vc),(.arg 1,.cells 37 [.t (.int .i64 w0)])],0⟩
theorem arn (m:Int)(w0 wn:Int):AW (cf m) UC (akK zc w0 wn) (λe s=>e=.normal/\s=⟨eC 10 [],[(.arg 0,.cells 32 zc),(.arg 1,.cells 37 [.t (.int .i64 wn)])],0⟩):=by
 obtain⟨r,h⟩:=aiC (C:=cf m) (f:=0) (n:=3000) (once:=[]) (k:=10) (T:=0) (S:=[]) (ks:=[.arg 0,.arg 1]) (live:=[]) (K:=[.c UC]) (e:=.normal) (s:=akK zc w0 wn) (Q:=λ(_:Unit) e s=>e=.normal/\s=⟨eC 10 [],[(.arg 0,.cells 32 zc),(.arg 1,.cells 37 [.t (.int .i64 wn)])],0⟩) ah (aF) .normal ⟨eC 10 [],[(.arg 0,.cells 32 zc),(.arg 1,.cells 37 [.t (.int .i64 wn)])],0⟩ [oT] (by kernel_rfl) (by kernel_rfl) ⟨(),rfl,rfl⟩;exact(AX.frames ⟨r,h⟩).elim λ_ h=>h
theorem aoN:∀args w,(callFunc 25 args).run Tryz.prog w=.ok (.enter 25 args) w:=enters_of Tryz.func25 (by kernel_rfl) rfl
theorem ado (m:Int)(o0 o1:aO):OZ (cf m) 25 [.ptr (.arg 0) 0,.ptr (.arg 1) 0] [o0,o1] none [o0,o1]:=by
 intro G w vs u hw hg had hH hv hm;obtain rfl:u=.returning:=hm;obtain⟨x1,x2,rfl,h1,h2⟩:=hv.two;refine⟨aoN _ _,(akJ x1 x2 w).mono ?_⟩;rintro e u' w' ⟨rfl,rfl,rfl⟩;exact⟨.tuple #[],G,rfl,rfl,Step.refl hw _ _,rfl,js hH⟩
theorem agH (m:Int)(wn:Int):OZ (cf m) 25 [.ptr (.arg 0) 0,.ptr (.arg 1) 0] [.cells 32 zc,.cells 37 [.t (.int .i64 0)]] (some (.t (.iface 60 (.agg [.int .i64 wn])))) [.cells 32 zc,.cells 37 [.t (.int .i64 wn)]]:=by
 intro G w vs u hw hg had hH hv hm;obtain⟨pv,hpv,rfl⟩:=hm;obtain⟨x1,x2,rfl,h1,h2⟩:=hv.two;obtain⟨pv',rfl⟩:∃pv',pv=.iface 60 pv':=by
  cases hpv with|t _ _ h=>cases h;exact⟨_,rfl⟩
 refine⟨aoN _ _, ?_⟩;refine callsD_of_wpS Tryz.func25 rfl λc₀ cs hu=> ?_
 apply wpS_seq;apply wpS_region;simp[wpOpsS,go_sem,recoverD,hu,Tryz.ntmps25,Exit.thenS];show Code.wpS Tryz.prog UC _ {tmps:= #[x1,x2,Value.iface 60 pv',Value.iface 60 pv',undef,undef,undef,undef,undef,undef],defers:=[]} _ _;refine wpS_of_wp ?_;have hst:yG (cf m) G w (akK zc 0 wn) {tmps:= #[x1,x2,Value.iface 60 pv',Value.iface 60 pv',undef,undef,undef,undef,undef,undef],defers:=[]}:=by
  refine⟨hw,hg, ?_, ?_,λp hp=>absurd hp (had.2 p)⟩
  ·exact .cons h1 (.cons h2 (.cons hpv (.cons hpv (.cons (.any _) (.cons (.any _) (.cons (.any _) (.cons (.any _) (.cons (.any _) (.cons (.any _) (.nil G))))))))))
  ·exact hH
 refine wp_mono (arn m 0 wn G w G w _ had.2 (Step.refl hw _ _) hst) ?_;rintro ex a' w' ⟨e,s,⟨rfl,rfl⟩,hgd⟩;obtain⟨rfl,hd,G1,hs1,ji⟩:=hgd.nH;refine⟨hd,.panicking [{v:=Value.iface 60 pv',recovered:=true}],rfl,.tuple #[],results_none rfl _ _ _,⟨_,rfl⟩,rfl,G1,hs1,λi o ho=> ?_⟩;skip;match i,ho with
 |0,ho=>cases ho;exact ji.heap _ _ rfl
 |1,ho=>cases ho;exact ji.heap _ _ rfl
noncomputable def bdy:Code:=Tryz.f11.body.getD .skip
noncomputable def sq1:Code->Code
 |.seq a _=>a
 |_=>.skip
noncomputable def UD:Code->Code
 |.seq _ b=>b
 |_=>.skip
noncomputable abbrev cY:Code:=UD (UD (UD (UD (UD bdy))))
theorem akL:Tryz.f11.body=some (.seq (sq1 bdy) (.seq (sq1 (UD bdy)) (.seq (sq1 (UD (UD bdy))) (.seq (sq1 (UD (UD (UD bdy)))) (.seq (sq1 (UD (UD (UD (UD bdy))))) cY))))):=by kernel_rfl
theorem Wg {m:Int}{fn:Func}{n0:Nat}{r:br}{x y:Code}{st:St}{k T:Nat}{S ks:List Nm}{live:List Nat}{ev:bt}(aJ:aC (cf m) ev)(s2:St)(obs:List (Ob ev))
 (h:bq (goK (cf m) 0 [] 100000 3000 [.c x] .normal st) (aep k S ks live T) (vals obs)=some ((.normal,s2),[],vals obs))(kk:Yl (cf m) fn n0 r y s2):Yl (cf m) fn n0 r (.seq x y) st:=
 Yl.seq ((AX.frames (R:=Unit) (aiC ah aJ (Q:=λ_ e s=>ahP (cf m) fn n0 r y e s) .normal s2 obs rfl h ⟨(),kk⟩)).elim λ_ h=>h)
theorem adp (m:Int)(op n:Int)(s t:List UInt8)(ns ks:List Tree)(hE:T .aD (aY op n s t ns ks))(p1 p2 a1 a2 r1 r2:List UInt8)(qk:Int)(qb:Bool)(qn:Int)(qs qt:List UInt8)(pY ql:List Tree)(hQ:T .cE (p6 p1 p2 a1 a2 r1 r2 qk qb qn qs qt pY ql))(l:List Tree)(hl:l.length<=4194304)(hl2:∀y∈l,T .bQ y)(h1:R1 (cf m) 8 (aY op n s t ns ks) (.int .i64 0))(h2:R1 (cf m) 9 (p6 p1 p2 a1 a2 r1 r2 qk qb qn qs qt pY ql) (.int .i64 0))(h3:R1 (cf m) 24 (.sl l) (.int .i64 0))(x:Tree)
 (hy:AW (cf m) cY ⟨eC 40 [(2,.t (.sl l)),(3,.ptr (.arg 0) 0),(4,.ptr (.arg 1) 0),(6,.ptr (.arg 2) 0),(7,.ptr (.arg 3) 0),(30,.fn (.func 25) [] [.ptr (.arg 2) 0,.ptr (.arg 3) 0])],dA 0 [.cells 26 (bg op n s t ns ks),.cells 34 (A6 p1 p2 a1 a2 r1 r2 qk qb qn qs qt pY ql),.cells 32 zc,.cells 37 [.t (.int .i64 0)]],0⟩ (akG (cf m) Tryz.f11 25 [.ptr (.arg 2) 0,.ptr (.arg 3) 0] 4 x)):ai (cf m) 11 [.t (aY op n s t ns ks),.t (p6 p1 p2 a1 a2 r1 r2 qk qb qn qs qt pY ql),.t (.sl l)] [] (.ret (.t x) [] []):=by
 obtain⟨ev,aJ,z6,RZ,adl⟩:∃ev,aC (cf m) ev/\Has ev 8 (mL (λx=>x=(aY op n s t ns ks)) (λ_=>.int .i64 0))/\Has ev 9 (mL (λx=>x=(p6 p1 p2 a1 a2 r1 r2 qk qb qn qs qt pY ql)) (λ_=>.int .i64 0))/\Has ev 24 (mL (λx=>x=.sl l) (λ_=>.int .i64 0)):=⟨_,(aq (bR (λx h=>by subst h;exact h1)) (aq (bR (λx h=>by subst h;exact h2)) (aq (bR (λx h=>by subst h;exact h3)) aF))),au,(av rfl au),(av rfl (av rfl au))⟩
 refine akF (fn:=Tryz.f11) rfl akL (by decide) ?_
 refine Wg (k:=40) (T:=4) (S:=[.loc [0],.loc [1],.loc [2],.loc [3]]) (ks:=[.loc [0],.loc [1],.loc [2],.loc [3]]) (live:=[2,3,4,6,7]) aJ ⟨eC 40 [(2,.t (.sl l)),(3,.ptr (.loc [0]) 0),(4,.ptr (.loc [1]) 0),(6,.ptr (.loc [2]) 0),(7,.ptr (.loc [3]) 0)],[(.loc [0],.cells 26 (bg op n s t ns ks)),(.loc [1],.cells 34 (A6 p1 p2 a1 a2 r1 r2 qk qb qn qs qt pY ql)),(.loc [2],.cells 32 zc),(.loc [3],.cells 37 [.t (.int .i64 0)])],4⟩ [] (by kernel_rfl) ?_
 refine Wg (k:=40) (T:=4) (S:=[.loc [0],.loc [1],.loc [2],.loc [3]]) (ks:=[.loc [0],.loc [1],.loc [2],.loc [3]]) (live:=[2,3,4,6,7]) aJ ⟨eC 40 [(2,.t (.sl l)),(3,.ptr (.loc [0]) 0),(4,.ptr (.loc [1]) 0),(6,.ptr (.loc [2]) 0),(7,.ptr (.loc [3]) 0)],[(.loc [0],.cells 26 (bg op n s t ns ks)),(.loc [1],.cells 34 (A6 p1 p2 a1 a2 r1 r2 qk qb qn qs qt pY ql)),(.loc [2],.cells 32 zc),(.loc [3],.cells 37 [.t (.int .i64 0)])],4⟩ [oC (bS z6 (x:=(aY op n s t ns ks)) rfl),oF] (by kernel_rfl) ?_
 refine Wg (k:=40) (T:=4) (S:=[.loc [0],.loc [1],.loc [2],.loc [3]]) (ks:=[.loc [0],.loc [1],.loc [2],.loc [3]]) (live:=[2,3,4,6,7]) aJ ⟨eC 40 [(2,.t (.sl l)),(3,.ptr (.loc [0]) 0),(4,.ptr (.loc [1]) 0),(6,.ptr (.loc [2]) 0),(7,.ptr (.loc [3]) 0)],[(.loc [0],.cells 26 (bg op n s t ns ks)),(.loc [1],.cells 34 (A6 p1 p2 a1 a2 r1 r2 qk qb qn qs qt pY ql)),(.loc [2],.cells 32 zc),(.loc [3],.cells 37 [.t (.int .i64 0)])],4⟩ [oC (bS RZ (x:=(p6 p1 p2 a1 a2 r1 r2 qk qb qn qs qt pY ql)) rfl),oF] (by kernel_rfl) ?_
 refine Wg (k:=40) (T:=4) (S:=[.loc [0],.loc [1],.loc [2],.loc [3]]) (ks:=[.loc [0],.loc [1],.loc [2],.loc [3]]) (live:=[2,3,4,6,7]) aJ ⟨eC 40 [(2,.t (.sl l)),(3,.ptr (.loc [0]) 0),(4,.ptr (.loc [1]) 0),(6,.ptr (.loc [2]) 0),(7,.ptr (.loc [3]) 0)],[(.loc [0],.cells 26 (bg op n s t ns ks)),(.loc [1],.cells 34 (A6 p1 p2 a1 a2 r1 r2 qk qb qn qs qt pY ql)),(.loc [2],.cells 32 zc),(.loc [3],.cells 37 [.t (.int .i64 0)])],4⟩ [oC (bS adl (x:=.sl l) rfl),oF] (by kernel_rfl) ?_
 exact Yl.defer (ev:=ev) aJ (f:=0) (S:=[.loc [0],.loc [1],.loc [2],.loc [3]]) (v:=.fn (.func 25) [] [.ptr (.loc [2]) 0,.ptr (.loc [3]) 0]) (u:=[]) (caps:=[.ptr (.loc [2]) 0,.ptr (.loc [3]) 0]) (g:=25) (by kernel_rfl) (by kernel_rfl) rfl rfl rfl (by kernel_rfl) (by decide) (by kernel_rfl) (by kernel_rfl) (by kernel_rfl) hy
def exQ (r:GoR):aQ:=match r with
 |some ((_,e,_),_,_)=>e
 |none=>.normal
def stQ (r:GoR):St:=match r with
 |some ((_,_,s),_,_)=>s
 |none=>⟨[],[],0⟩
theorem UE {C:ey}{Q:aQ->St->Prop}(e:aQ)(s:St):KE C Q [] e s=Q e s:=by kernel_rfl
theorem aoO {C:ey}{ev:bt}{f:FuncId}(hm:C.P.prog.follows .mixedOrders=true)(aJ:aC C ev){K:List Fr}{e:aQ}{s:St}{Q:aQ->St->Prop}(obs:List (Ob ev))(h:Qt (goK C f [] 100000 3000 K e s (vals obs))=some ([],vals obs))
 (k:Q (exQ (goK C f [] 100000 3000 K e s (vals obs))) (stQ (goK C f [] 100000 3000 K e s (vals obs)))):KE C Q K e s:=by
 have hv:=nU obs
 cases hg:goK C f [] 100000 3000 K e s (vals obs) with
 |none=>rw[hg] at h;cases h
 | some q=>
  obtain⟨⟨K',e',s'⟩,c,em⟩:=q
  rw[hg] at h k
  cases K' with
  |cons=>cases h
  |nil=>
   cases e' with
   |normal=>cases h
   |exit i=>cases h;exact rO hm aJ _ _ _ _ _ _ _ _ hg hv Q (cast (UE _ _).symm k)
   |ret=>cases h;exact rO hm aJ _ _ _ _ _ _ _ _ hg hv Q (cast (UE _ _).symm k)
   |panic v=>cases h;exact rO hm aJ _ _ _ _ _ _ _ _ hg hv Q (cast (UE _ _).symm k)
theorem UF (m:Int)(op n:Int)(s t:List UInt8)(ns ks:List Tree)(hE:T .aD (aY op n s t ns ks))(p1 p2 a1 a2 r1 r2:List UInt8)(qk:Int)(qb:Bool)(qn:Int)(qs qt:List UInt8)(pY ql:List Tree)(hQ:T .cE (p6 p1 p2 a1 a2 r1 r2 qk qb qn qs qt pY ql))(l:List Tree)(hl:l.length<=4194304)(hl2:∀y∈l,T .bQ y)(h1:R1 (cf m) 8 (aY op n s t ns ks) (.int .i64 0))(h2:R1 (cf m) 9 (p6 p1 p2 a1 a2 r1 r2 qk qb qn qs qt pY ql) (.int .i64 0))(h3:R1 (cf m) 24 (.sl l) (.int .i64 0))(r:Tree ⊕ Int)(hr:ai (cf m) 27 [.ptr (.arg 0) 0,.t (aY op n s t ns ks),.map (.arg 1)] (H9 ⟨p1,p2,a1,a2,r1,r2,qk,qb,qn,qs,qt,pY,ql,l⟩) (aM r (H9 ⟨p1,p2,a1,a2,r1,r2,qk,qb,qn,qs,qt,pY,ql,l⟩)))(k:Int)(b:Bool)(nn:Int)(ss tt:List UInt8)(N L:List Tree)(hrr:r=.inl (aA k b nn ss tt N L))(hv:T .az (aA k b nn ss tt N L)):ai (cf m) 11 [.t (aY op n s t ns ks),.t (p6 p1 p2 a1 a2 r1 r2 qk qb qn qs qt pY ql),.t (.sl l)] [] (.ret (.t (.cF [(aA k b nn ss tt N L),.int .i64 0])) [] []):=by
 refine adp m op n s t ns ks hE p1 p2 a1 a2 r1 r2 qk qb qn qs qt pY ql hQ l hl hl2 h1 h2 h3 _ ?_;obtain⟨ev,aJ,Bh,X7,GG⟩:∃ev,aC (cf m) ev/\Has ev 28 (px [] [] (.ret (.map (.loc [1])) [] [(.loc [1],.map aP 26)]))/\Has ev 27 (px [.ptr (.arg 0) 0,.t (aY op n s t ns ks),.map (.arg 1)] (H9 ⟨p1,p2,a1,a2,r1,r2,qk,qb,qn,qs,qt,pY,ql,l⟩) (aM r (H9 ⟨p1,p2,a1,a2,r1,r2,qk,qb,qn,qs,qt,pY,ql,l⟩)))/\Has ev 26 (mL (λx=>T .az x) (λx=>x)):=⟨_,(aq (fQ (Ef m)) (aq (fQ hr) (aq (bR (VN m)) aF))),au,(av rfl au),(av rfl (av rfl au))⟩;have zh1:=show ev 27 [.ptr (.arg 0) 0,.t (aY op n s t ns ks),.map (.arg 1)] (H9 ⟨p1,p2,a1,a2,r1,r2,qk,qb,qn,qs,qt,pY,ql,l⟩)=some (aM (.inl (aA k b nn ss tt N L)) (H9 ⟨p1,p2,a1,a2,r1,r2,qk,qb,qn,qs,qt,pY,ql,l⟩)) from(jm X7).trans (by rw[hrr]);have zh2:=bS GG (x:=(aA k b nn ss tt N L)) hv;refine(AX.frames (R:=Unit) ⟨(),aoO (f:=0) ah aJ [oC (jm Bh),oN (o:=.map aP 26) bf,oN (o:=.map aP 26) bf,oN (o:=.map aP 26) bf,oC zh1,oN (o:=.map aP 26) bf,oC zh2] (by kernel_rfl) ?_⟩).elim λ_ h=>h
 have hx:exQ (goK (cf m) 0 [] 100000 3000 [.c cY] .normal ⟨eC 40 [(2,.t (.sl l)),(3,.ptr (.arg 0) 0),(4,.ptr (.arg 1) 0),(6,.ptr (.arg 2) 0),(7,.ptr (.arg 3) 0),(30,.fn (.func 25) [] [.ptr (.arg 2) 0,.ptr (.arg 3) 0])],dA 0 [.cells 26 (bg op n s t ns ks),.cells 34 (A6 p1 p2 a1 a2 r1 r2 qk qb qn qs qt pY ql),.cells 32 zc,.cells 37 [.t (.int .i64 0)]],0⟩ (vals ([oC (jm Bh),oN (o:=.map aP 26) bf,oN (o:=.map aP 26) bf,oN (o:=.map aP 26) bf,oC zh1,oN (o:=.map aP 26) bf,oC zh2]:List (Ob ev))))=.ret:=by kernel_rfl
 refine⟨λi=>(by rw[hx];exactλh=>(by cases h)),[.arg 2,.arg 3],[.ptr (.arg 0) 0,.ptr (.arg 1) 0],[.cells 32 (cM k b nn ss tt N L),.cells 37 [.t (.int .i64 0)]],[.cells 32 (cM k b nn ss tt N L),.cells 37 [.t (.int .i64 0)]],[(.arg 2,.cells 32 (cM k b nn ss tt N L)),(.arg 3,.cells 37 [.t (.int .i64 0)])],[.cells 26 (bg op n s t ns ks),.cells 34 (A6 p1 p2 a1 a2 r1 r2 qk qb qn qs qt pY ql),.cells 32 (cM k b nn ss tt N L),.cells 37 [.t (.int .i64 0)]],[],none,by decide,by kernel_rfl,by kernel_rfl,λt=>by kernel_rfl,λt=>by kernel_rfl,by kernel_rfl,ado m _ _⟩
theorem UG (m:Int)(op n:Int)(s t:List UInt8)(ns ks:List Tree)(hE:T .aD (aY op n s t ns ks))(p1 p2 a1 a2 r1 r2:List UInt8)(qk:Int)(qb:Bool)(qn:Int)(qs qt:List UInt8)(pY ql:List Tree)(hQ:T .cE (p6 p1 p2 a1 a2 r1 r2 qk qb qn qs qt pY ql))(l:List Tree)(hl:l.length<=4194304)(hl2:∀y∈l,T .bQ y)(h1:R1 (cf m) 8 (aY op n s t ns ks) (.int .i64 0))(h2:R1 (cf m) 9 (p6 p1 p2 a1 a2 r1 r2 qk qb qn qs qt pY ql) (.int .i64 0))(h3:R1 (cf m) 24 (.sl l) (.int .i64 0))(r:Tree ⊕ Int)(hr:ai (cf m) 27 [.ptr (.arg 0) 0,.t (aY op n s t ns ks),.map (.arg 1)] (H9 ⟨p1,p2,a1,a2,r1,r2,qk,qb,qn,qs,qt,pY,ql,l⟩) (aM r (H9 ⟨p1,p2,a1,a2,r1,r2,qk,qb,qn,qs,qt,pY,ql,l⟩)))(w:Int)(hrr:r=.inr w):ai (cf m) 11 [.t (aY op n s t ns ks),.t (p6 p1 p2 a1 a2 r1 r2 qk qb qn qs qt pY ql),.t (.sl l)] [] (.ret (.t (.cF [zeroV,.int .i64 w])) [] []):=by
 refine adp m op n s t ns ks hE p1 p2 a1 a2 r1 r2 qk qb qn qs qt pY ql hQ l hl hl2 h1 h2 h3 _ ?_;obtain⟨ev,aJ,Bh,X7,GG⟩:∃ev,aC (cf m) ev/\Has ev 28 (px [] [] (.ret (.map (.loc [1])) [] [(.loc [1],.map aP 26)]))/\Has ev 27 (px [.ptr (.arg 0) 0,.t (aY op n s t ns ks),.map (.arg 1)] (H9 ⟨p1,p2,a1,a2,r1,r2,qk,qb,qn,qs,qt,pY,ql,l⟩) (aM r (H9 ⟨p1,p2,a1,a2,r1,r2,qk,qb,qn,qs,qt,pY,ql,l⟩)))/\Has ev 26 (mL (λx=>T .az x) (λx=>x)):=⟨_,(aq (fQ (Ef m)) (aq (fQ hr) (aq (bR (VN m)) aF))),au,(av rfl au),(av rfl (av rfl au))⟩;have zh3:=show ev 27 [.ptr (.arg 0) 0,.t (aY op n s t ns ks),.map (.arg 1)] (H9 ⟨p1,p2,a1,a2,r1,r2,qk,qb,qn,qs,qt,pY,ql,l⟩)=some (aM (.inr w) (H9 ⟨p1,p2,a1,a2,r1,r2,qk,qb,qn,qs,qt,pY,ql,l⟩)) from(jm X7).trans (by rw[hrr]);refine(AX.frames (R:=Unit) ⟨(),aoO (f:=0) ah aJ [oC (jm Bh),oN (o:=.map aP 26) bf,oN (o:=.map aP 26) bf,oN (o:=.map aP 26) bf,oC zh3] (by kernel_rfl) ?_⟩).elim λ_ h=>h
 have hx:exQ (goK (cf m) 0 [] 100000 3000 [.c cY] .normal ⟨eC 40 [(2,.t (.sl l)),(3,.ptr (.arg 0) 0),(4,.ptr (.arg 1) 0),(6,.ptr (.arg 2) 0),(7,.ptr (.arg 3) 0),(30,.fn (.func 25) [] [.ptr (.arg 2) 0,.ptr (.arg 3) 0])],dA 0 [.cells 26 (bg op n s t ns ks),.cells 34 (A6 p1 p2 a1 a2 r1 r2 qk qb qn qs qt pY ql),.cells 32 zc,.cells 37 [.t (.int .i64 0)]],0⟩ (vals ([oC (jm Bh),oN (o:=.map aP 26) bf,oN (o:=.map aP 26) bf,oN (o:=.map aP 26) bf,oC zh3]:List (Ob ev))))=.panic (.t (.iface 60 (.agg [.int .i64 w]))):=by kernel_rfl
 refine⟨λi=>(by rw[hx];exactλh=>(by cases h)),[.arg 2,.arg 3],[.ptr (.arg 0) 0,.ptr (.arg 1) 0],[.cells 32 zc,.cells 37 [.t (.int .i64 0)]],[.cells 32 zc,.cells 37 [.t (.int .i64 w)]],[(.arg 2,.cells 32 zc),(.arg 3,.cells 37 [.t (.int .i64 w)])],[.cells 26 (bg op n s t ns ks),.cells 34 (A6 p1 p2 a1 a2 r1 r2 qk qb qn qs qt pY ql),.cells 32 zc,.cells 37 [.t (.int .i64 w)]],[],some (.t (.iface 60 (.agg [.int .i64 w]))),by decide,by kernel_rfl,by kernel_rfl,λt=>by kernel_rfl,λt=>by kernel_rfl,by kernel_rfl,agH m w⟩
end
end Go.Proofs.YtfdnciimclnncaaGreatDoor.w.e
namespace Go.Proofs.YtfdnciimclnncaaGreatDoor.w.e
open Go Go.Abs
set_option maxRecDepth 100000
set_option maxHeartbeats 2000000
noncomputable section
open Go.Abs.Ty
def Cg:Tree->Tree->Sc
 |.agg [.str p1,.str p2,.str a1,.str a2,.str r1,.str r2,.int _ k,.bool b,.int _ n,.str s,.str t,.sl ns,.sl l],.sl row=>⟨p1,p2,a1,a2,r1,r2,k,b,n,s,t,ns,l,row⟩
 |_,_=>⟨[],[],[],[],[],[],0,false,0,[],[],[],[],[]⟩
theorem adq (m:Int){x:Tree}(hx:T .aD x):∃n,Dx (n+1) x:=by
 obtain⟨n,h,_⟩:=ahO m hx;cases n with
 |zero=>exact h.elim
 |succ n=>exact⟨n,h⟩
open Classical in
noncomputable def dep (x:Tree):Nat:=if h:∃n,Dx (n+1) x then h.choose+1 else 0
theorem adr (m:Int){x:Tree}(hx:T .aD x):∃n,dep x=n+1/\Dx (n+1) x:=by
 have h:=adq m hx;exact⟨h.choose,by unfold dep;rw[dif_pos h],h.choose_spec⟩
noncomputable def Bi (m:Int)(q:Sc)(e:Tree):Tree ⊕ Int:=evN m q (dep e) e
def akM (r:Tree ⊕ Int):Tree×Int:=match r with
 |.inl v=>(v,0)
 |.inr w=>(zeroV,w)
noncomputable def vO (m:Int)(x y z:Tree):Tree×Int:=if yy m x≠0 then(zeroV,yy m x) else if X9 m y≠0 then(zeroV,X9 m y) else if crF m z≠0 then(zeroV,crF m z) else akM (Bi m (Cg y z) x)
theorem ads {y z:Tree}(hy:T .cE y)(hz:T .aS z):Rq (Cg y z):=by
 obtain⟨p1,p2,a1,a2,r1,r2,k,b,n,s,t,ns,l,rfl,g1,g2,g3,g4,g5,g6,g7,g8,g9,g10,g11,g12⟩:=T.mB hy;obtain⟨row,rfl,hl,hl2⟩:=T.fB hz;exact⟨⟨.az _ _ _ _ _ _ _ g7 g8 g9 g10 g11 g12,g1,g2,g3,g4,g5,g6⟩,hl,hl2⟩
theorem R4 (m:Int){q:Sc}(hs:Rq q){e:Tree}(hE:T .aD e)(hR:Rt e):∃n,dep e=n+1/\Dx (n+1) e/\Cf m q (evN m q n) e (Bi m q e):=by
 obtain⟨n,h1,h2⟩:=adr m hE;refine⟨n,h1,h2, ?_⟩;unfold Bi;rw[h1];exact Uz m q hs n e h2 hE hR
theorem MT {m:Int}{g:FuncId}{x:Tree}{k:Int}(h:k=0)(hr:R1 (cf m) g x (.int .i64 k)):R1 (cf m) g x (.int .i64 0):=h▸hr
theorem Ia:T .az zeroV:=.az _ _ _ _ _ _ _ (by simp) (by simp) (by simp) (λ_ h=>by cases h) (by simp) (λ_ h=>by cases h)
theorem Wh (m:Int){x y z:Tree}(hx:T .aD x)(hy:T .cE y)(hz:T .aS z):R3 (cf m) 11 x y z (.cF [(vO m x y z).1,.int .i64 (vO m x y z).2])/\T .az (vO m x y z).1:=by
 have hs:=ads hy hz;obtain⟨op,n,s,t,ns,ks,rfl,_⟩:=T.bz hx;obtain⟨p1,p2,a1,a2,r1,r2,qk,qb,qn,qs,qt,pY,ql,rfl,_⟩:=T.mB hy;obtain⟨l,rfl,hl,hl2⟩:=T.fB hz;unfold vO;by_cases h1:yy m (aY op n s t ns ks)=0
 ·rw[ if_neg (by simpa using h1)];by_cases h2:X9 m (p6 p1 p2 a1 a2 r1 r2 qk qb qn qs qt pY ql)=0
  ·rw[ if_neg (by simpa using h2)];by_cases h3:crF m (.sl l)=0
   ·rw[if_neg (by simpa using h3)];obtain⟨d,_,_,hc,hty,_⟩:=R4 m hs hx (KS m hx h1);cases hrr:Bi m (Cg (p6 p1 p2 a1 a2 r1 r2 qk qb qn qs qt pY ql) (.sl l)) (aY op n s t ns ks) with
    | inl v=>
      have hv:=hty.1 v hrr
      obtain⟨k,b,nn,ss,tt,N,L,rfl,_⟩:=T.aB hv
      exact⟨UF m op n s t ns ks hx p1 p2 a1 a2 r1 r2 qk qb qn qs qt pY ql hy l hl hl2 (MT h1 (F1 m _ hx)) (MT h2 (OX m _ hy)) (MT h3 (UA m _ hz)) _ hc k b nn ss tt N L hrr hv,hv⟩
    |inr w=>exact⟨UG m op n s t ns ks hx p1 p2 a1 a2 r1 r2 qk qb qn qs qt pY ql hy l hl hl2 (MT h1 (F1 m _ hx)) (MT h2 (OX m _ hy)) (MT h3 (UA m _ hz)) _ hc w hrr,Ia⟩
   ·rw[if_pos h3];exact⟨agF m op n s t ns ks hx p1 p2 a1 a2 r1 r2 qk qb qn qs qt pY ql hy l hl hl2 h1 h2 h3,Ia⟩
  ·rw[if_pos h2];exact⟨agE m op n s t ns ks hx p1 p2 a1 a2 r1 r2 qk qb qn qs qt pY ql hy l hl hl2 h1 h2,Ia⟩
 ·rw[if_pos h1];exact⟨agD m op n s t ns ks hx p1 p2 a1 a2 r1 r2 qk qb qn qs qt pY ql hy l hl hl2 h1,Ia⟩
end
end Go.Proofs.YtfdnciimclnncaaGreatDoor.w.e
namespace Go.Proofs.YtfdnciimclnncaaGreatDoor.w.e
open Go Go.Abs
set_option maxRecDepth 100000
set_option maxHeartbeats 2000000
noncomputable section
def yJ (r:Tree×Int):Bool×Int:=cond (r.2 != 0) (false,r.2) (cond (iJ r.1 != 0) (false,7) (k6 r.1,0))
theorem adt (m:Int)(x y z:Tree)(hx:T .aD x)(hy:T .cE y)(hz:T .aS z):∃r:{r:Bool×Int // r=yJ (vO m x y z)},R3 (cf m) 10 x y z (.cF [.bool r.1.1,.int .i64 r.1.2]):=by
 have bw:=hx;obtain⟨bW,n_1,s_1,dD,aT,bO,rfl,cI,cH,fK,dS,eW,eM,jc⟩:=T.bz bw;have dB:=hy;obtain⟨qL,ur,vP,z7,sg,vQ,uv,z8,Aa,Ab,Ac,si,uw,rfl,gx,kB,tM,rS,tN,qG,N9,aiZ,ai0,ai1,ap1,ap2⟩:=T.mB dB;have jd:=hz;obtain⟨v_3,rfl,r5,r6⟩:=T.fB jd;obtain⟨ev,aJ,akN⟩:∃ev,aC (cf m) ev/\Has ev 11 (pc3 (λx y z=>T .aD x/\T .cE y/\T .aS z) (λx y z=>.cF [(vO m x y z).1,.int .i64 (vO m x y z).2])):=⟨_,(aq (Jk (λx y z h=>(Wh m h.1 h.2.1 h.2.2).1)) aF),au⟩;refine AX.start 27 3 Tryz.func10 rfl (by decide) rfl rfl (by decide) ?_;refine AX.frames ?_;obtain⟨g_4,Uw,agI,aro⟩:∃g w,vO m (aY bW n_1 s_1 dD aT bO) (p6 qL ur vP z7 sg vQ uv z8 Aa Ab Ac si uw) (.sl v_3)=(g,w)/\T .az g:=⟨_,_,rfl,(Wh m bw dB jd).2⟩;have p7:=aro;obtain⟨eB,og,rD,Be,pV,fh,gW,rfl,xM,BX,Kk,Kl,Km,Kn⟩:=T.aB p7;have akO:=show ev 11 [.t (aY bW n_1 s_1 dD aT bO),.t (p6 qL ur vP z7 sg vQ uv z8 Aa Ab Ac si uw),.t (.sl v_3)] []=some (br.ret (.t (.cF [(aA eB og rD Be pV fh gW),.int .i64 Uw])) [] []) from(mZ akN (x:=(aY bW n_1 s_1 dD aT bO)) (y:=(p6 qL ur vP z7 sg vQ uv z8 Aa Ab Ac si uw)) (z:=(.sl v_3)) ⟨bw,dB,jd⟩).trans (congrArg (λz:Tree×Int=>some (br.ret (.t (.cF [z.1,.int .i64 z.2])) [] [])) agI);rcases aL ((Uw != 0)) with lN|lN
 ·have zu:=cG lN;refine⟨⟨(false,Uw),(by rw[agI];simp only[yJ,iJ,k6,lN,cond_true,cond_false])⟩,kf ah [oC akO,oB lN]⟩
 ·have zu:=bE lN;rcases aL ((eB != 0)) with gh|gh
  ·have mN:=cG gh;refine⟨⟨(false,7),(by rw[agI];simp only[yJ,iJ,k6,lN,gh,cond_true,cond_false])⟩,kf ah [oC akO,oB lN,oB gh]⟩
  ·have mN:=bE gh;refine⟨⟨(og,0),(by rw[agI];simp only[yJ,iJ,k6,lN,gh,cond_true,cond_false])⟩,kf ah [oC akO,oB lN,oB gh]⟩
end
end Go.Proofs.YtfdnciimclnncaaGreatDoor.w.e
