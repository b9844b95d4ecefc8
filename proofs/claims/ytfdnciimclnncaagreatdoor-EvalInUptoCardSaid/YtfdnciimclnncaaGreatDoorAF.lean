/- scene.eval: a step. -/
import Derived.Test.YtfdnciimclnncaaGreatDoorAE
import Derived.Test.YtfdnciimclnncaaGreatDoorZ
import Derived.Test.YtfdnciimclnncaaGreatDoorAC
import Derived.Test.YtfdnciimclnncaaGreatDoorR
import Derived.Defers
import Derived.Recover
set_option linter.unusedVariables false
set_option linter.unusedSimpArgs false
namespace Go.Proofs.YtfdnciimclnncaaGreatDoor.w.e
open Go Go.Abs
set_option maxRecDepth 100000
set_option maxHeartbeats 2000000
noncomputable section
theorem mT {l:List Tree}{i:Nat}(h:i<l.length):jt l i∈l:=by
 rw[fh (List.getElem?_eq_getElem h)];exact List.getElem_mem h
open Classical in
def O4 (pt:List TV)(ob:List aP)(n:Nat)(F:Nat->Tree ⊕ Int):List TV->List aP->Option br:=λa o=>if h:∃i:Nat,i<n/\a=.t (.int .i64 (i:Int))::pt/\o=ob then some (aL (F h.choose) ob) else none
theorem E8 {C:ew}{g:FuncId}{pt:List TV}{ob:List aP}{n:Nat}{F:Nat->Tree ⊕ Int}(h:∀i,i<n->ai C g (.t (.int .i64 (i:Int))::pt) ob (aL (F i) ob)):ko C g (O4 pt ob n F):=λa o q hq=>by
 unfold O4 at hq;split at hq
 ·rename_i hp;cases hq;obtain⟨h1,h2,h3⟩:=hp.choose_spec;have h4:=h _ h1;have key:∀a' o',a'=TV.t (.int .i64 ((hp.choose:Nat):Int))::pt->o'=ob->ai C g a' o' (aL (F hp.choose) ob):=λa' o' e1 e2=>by
   rw[e1,e2];exact h4
  exact key a o h2 h3
 ·cases hq
theorem fD {ev:bp}{g:FuncId}{pt:List TV}{ob:List aP}{n:Nat}{F:Nat->Tree ⊕ Int}(h:Has ev g (O4 pt ob n F))(i:Nat)(hi:i<n):ev g (.t (.int .i64 (i:Int))::pt) ob=some (aL (F i) ob):=by
 refine h _ _ _ ?_;have hp:∃j:Nat,j<n/\TV.t (.int .i64 (i:Int))::pt=.t (.int .i64 (j:Int))::pt/\ob=ob:=⟨i,hi,rfl,rfl⟩;unfold O4;rw[dif_pos hp];have e:=hp.choose_spec.2.1;have e2:((i:Nat):Int)=((hp.choose:Nat):Int):=by
  injection e with e _;injection e with e;injection e
 rw[← Int.ofNat.inj e2]
open Classical in
def agD (q:Sc)(e:Tree)(G:List Tree->Tree ⊕ Int):List TV->List aP->Option br:=λa o=>match a with
 | [.ptr (.arg 0) 0,.t x,.t (.sl l)]=>if x=e/\o=[SG q]/\PO q e l then some (aL (G l) [SG q]) else none
 |_=>none
theorem agE {C:ew}{g:FuncId}{q:Sc}{e:Tree}{G:List Tree->Tree ⊕ Int}(h:∀l,PO q e l->ai C g [.ptr (.arg 0) 0,.t e,.t (.sl l)] [SG q] (aL (G l) [SG q])):ko C g (agD q e G):=λa o r hq=>by
 unfold agD at hq;split at hq
 ·split at hq
  ·rename_i hp;obtain⟨rfl,rfl,hp⟩:=hp;cases hq;exact h _ hp
  ·cases hq
 ·cases hq
theorem agF {ev:bp}{g:FuncId}{q:Sc}{e:Tree}{G:List Tree->Tree ⊕ Int}(h:Has ev g (agD q e G)){l:List Tree}(hl:PO q e l):ev g [.ptr (.arg 0) 0,.t e,.t (.sl l)] [SG q]=some (aL (G l) [SG q]):=h _ _ _ (if_pos ⟨rfl,rfl,hl⟩)
theorem arM {c:Prop}[Decidable c]{a b k:Nat}(h:Nat.beq a k=false)(h2:Nat.beq b k=false):Nat.beq (if c then a else b) k=false:=by
 by_cases hc:c
 ·rw[if_pos hc];exact h
 ·rw[if_neg hc];exact h2
theorem akQ (op:Int):Nat.beq (gOf op) 51=false:=by
 unfold gOf;repeat refine arM rfl ?_
 rfl
theorem E9 (m:Int){op:Int}(h0:1<=op)(h1:op<30)(SB:op≠14)(Qx:op≠15)(h16:op≠16):Bp (cf m).P 66 aQ (.t (.int .u8 op)) false=some (.t (.fn (.func (gOf op)))):=by
 have Jc:op=1\/op=2\/op=3\/op=4\/op=5\/op=6\/op=7\/op=8\/op=9\/op=10\/op=11\/op=12\/op=13\/op=17\/op=18\/op=19\/op=20\/op=21\/op=22\/op=23\/op=24\/op=25\/op=26\/op=27\/op=28\/op=29:=by omega
 rcases Jc with rfl|rfl|rfl|rfl|rfl|rfl|rfl|rfl|rfl|rfl|rfl|rfl|rfl|rfl|rfl|rfl|rfl|rfl|rfl|rfl|rfl|rfl|rfl|rfl|rfl|rfl<;>exact(show Bp _ _ _ _ _=some _ by kernel_rfl)
theorem ao2 (m:Int)(q:Sc)(n:Int)(s t:List UInt8)(ns ks:List Tree)(hE:T .aM (bf 14 n s t ns ks))(lk:ks.length<=4194304)(hks:∀y∈ks,T .aM y)(f:Tree->Tree ⊕ Int)(hf:∀x∈ks,ai (cf m) 27 [.ptr (.arg 0) 0,.t x,.map (.arg 1)] [.cells 63 (aT q),.map aQ 26] (aL (f x) [.cells 63 (aT q),.map aQ 26]))(Fi:∀x∈ks,∀v,f x=.inl v->T .av v)(hlen:ks.length=3):∃r:{r:Tree ⊕ Int // r=gH (f (jt ks 0)) (f (jt ks 1)) (f (jt ks 2))},ai (cf m) 27 [.ptr (.arg 0) 0,.t (bf 14 n s t ns ks),.map (.arg 1)] [.cells 63 (aT q),.map aQ 26] (aL r.1 [.cells 63 (aT q),.map aQ 26]):=by
 obtain⟨ev,aI,gG,bC⟩:∃ev,aC (cf m) ev/\Has ev 51 (O4 [.ptr (.arg 0) 0,.ptr (.arg 1) 0,.ptr (.arg 2) 0] [.cells 61 [.ptr (.arg 3) 0],.cells 26 (bg 14 n s t ns ks),.cells 66 [.map (.arg 4)],.cells 63 (aT q),.map aQ 26] ks.length (λi=>f (jt ks i)))/\Has ev 52 sH:=⟨_,(aq (E8 (λi hi=>by obtain⟨⟨r,rfl⟩,h⟩:=KX m q 14 n s t ns ks lk hks f hf Fi i hi;exact h)) (aq (jY m) aF)),au,(az rfl au)⟩;refine AX.start 61 3 Tryz.func27 rfl (by decide) rfl rfl (by decide) ?_;refine AX.frames ?_;rcases hr_1:f (jt ks 0) with v_1|w_1
 ·have adt:=Fi _ (mT (by omega)) _ hr_1;obtain⟨k_1,b_1,n_1,s_1,t_1,je,wk,rfl,_⟩:=T.aD adt;rcases aK ((k_1==0)) with hk2|hk2
  ·have Ut:=eq_of_beq hk2;rcases aK (b_1) with bN|bN
   ·rcases hr_4:f (jt ks 1) with v_4|UL
    ·have O5:=Fi _ (mT (by omega)) _ hr_4;obtain⟨Fj,Lb,yM,yN,Lc,Ld,Le,rfl,_⟩:=T.aD O5;refine⟨⟨.inl (aA Fj Lb yM yN Lc Ld Le),(by first|(simp only[gH,dQ,kd,jq,ni,hr_1,hr_4,hk2,bN,cond_true,cond_false];done)|(simp[gH,dQ,kd,jq,ni,hr_1,hr_4,hk2,bN];done)|(simp_all [gH,dQ,kd,jq,ni];done))⟩,kf ah [oT,oN (o:=.map aQ 26) aZ,oC (show ev 51 (.t (.int .i64 ((0:Nat):Int))::[.ptr (.arg 0) 0,.ptr (.arg 1) 0,.ptr (.arg 2) 0]) [.cells 61 [.ptr (.arg 3) 0],.cells 26 (bg 14 n s t ns ks),.cells 66 [.map (.arg 4)],.cells 63 (aT q),.map aQ 26]=some (aL (.inl (aA k_1 b_1 n_1 s_1 t_1 je wk)) [.cells 61 [.ptr (.arg 3) 0],.cells 26 (bg 14 n s t ns ks),.cells 66 [.map (.arg 4)],.cells 63 (aT q),.map aQ 26]) from(fD gG 0 (by omega)).trans (congrArg (λz=>some (aL z [.cells 61 [.ptr (.arg 3) 0],.cells 26 (bg 14 n s t ns ks),.cells 66 [.map (.arg 4)],.cells 63 (aT q),.map aQ 26])) hr_1)),oN (o:=.map aQ 26) aZ,oC (show ev 52 [.t (aA k_1 b_1 n_1 s_1 t_1 je wk),.t (.int .u8 0)] []=some (aL (.inl (aA k_1 b_1 n_1 s_1 t_1 je wk)) []) from bC _ _ _ (by show some (aL (cond ((k_1==0)) _ _) [])=_;rw[hk2];rfl)),oB bN,oN (o:=.map aQ 26) aZ,oC (show ev 51 (.t (.int .i64 ((1:Nat):Int))::[.ptr (.arg 0) 0,.ptr (.arg 1) 0,.ptr (.arg 2) 0]) [.cells 61 [.ptr (.arg 3) 0],.cells 26 (bg 14 n s t ns ks),.cells 66 [.map (.arg 4)],.cells 63 (aT q),.map aQ 26]=some (aL (.inl (aA Fj Lb yM yN Lc Ld Le)) [.cells 61 [.ptr (.arg 3) 0],.cells 26 (bg 14 n s t ns ks),.cells 66 [.map (.arg 4)],.cells 63 (aT q),.map aQ 26]) from(fD gG 1 (by omega)).trans (congrArg (λz=>some (aL z [.cells 61 [.ptr (.arg 3) 0],.cells 26 (bg 14 n s t ns ks),.cells 66 [.map (.arg 4)],.cells 63 (aT q),.map aQ 26])) hr_4)),oN (o:=.map aQ 26) aZ,oN (o:=.map aQ 26) (λ_=>rfl)]⟩
    ·refine⟨⟨.inr (UL),(by first|(simp only[gH,dQ,kd,jq,ni,hr_1,hr_4,hk2,bN,cond_true,cond_false];done)|(simp[gH,dQ,kd,jq,ni,hr_1,hr_4,hk2,bN];done)|(simp_all [gH,dQ,kd,jq,ni];done))⟩,kf ah [oT,oN (o:=.map aQ 26) aZ,oC (show ev 51 (.t (.int .i64 ((0:Nat):Int))::[.ptr (.arg 0) 0,.ptr (.arg 1) 0,.ptr (.arg 2) 0]) [.cells 61 [.ptr (.arg 3) 0],.cells 26 (bg 14 n s t ns ks),.cells 66 [.map (.arg 4)],.cells 63 (aT q),.map aQ 26]=some (aL (.inl (aA k_1 b_1 n_1 s_1 t_1 je wk)) [.cells 61 [.ptr (.arg 3) 0],.cells 26 (bg 14 n s t ns ks),.cells 66 [.map (.arg 4)],.cells 63 (aT q),.map aQ 26]) from(fD gG 0 (by omega)).trans (congrArg (λz=>some (aL z [.cells 61 [.ptr (.arg 3) 0],.cells 26 (bg 14 n s t ns ks),.cells 66 [.map (.arg 4)],.cells 63 (aT q),.map aQ 26])) hr_1)),oN (o:=.map aQ 26) aZ,oC (show ev 52 [.t (aA k_1 b_1 n_1 s_1 t_1 je wk),.t (.int .u8 0)] []=some (aL (.inl (aA k_1 b_1 n_1 s_1 t_1 je wk)) []) from bC _ _ _ (by show some (aL (cond ((k_1==0)) _ _) [])=_;rw[hk2];rfl)),oB bN,oN (o:=.map aQ 26) aZ,oC (show ev 51 (.t (.int .i64 ((1:Nat):Int))::[.ptr (.arg 0) 0,.ptr (.arg 1) 0,.ptr (.arg 2) 0]) [.cells 61 [.ptr (.arg 3) 0],.cells 26 (bg 14 n s t ns ks),.cells 66 [.map (.arg 4)],.cells 63 (aT q),.map aQ 26]=some (aL (.inr UL) [.cells 61 [.ptr (.arg 3) 0],.cells 26 (bg 14 n s t ns ks),.cells 66 [.map (.arg 4)],.cells 63 (aT q),.map aQ 26]) from(fD gG 1 (by omega)).trans (congrArg (λz=>some (aL z [.cells 61 [.ptr (.arg 3) 0],.cells 26 (bg 14 n s t ns ks),.cells 66 [.map (.arg 4)],.cells 63 (aT q),.map aQ 26])) hr_4))]⟩
   ·rcases HW:f (jt ks 2) with v_5|CI
    ·have arN:=Fi _ (mT (by omega)) _ HW;obtain⟨k_5,b_5,rN,By,t_5,N_5,L_5,rfl,_⟩:=T.aD arN;refine⟨⟨.inl (aA k_5 b_5 rN By t_5 N_5 L_5),(by first|(simp only[gH,dQ,kd,jq,ni,hr_1,HW,hk2,bN,cond_true,cond_false];done)|(simp[gH,dQ,kd,jq,ni,hr_1,HW,hk2,bN];done)|(simp_all [gH,dQ,kd,jq,ni];done))⟩,kf ah [oT,oN (o:=.map aQ 26) aZ,oC (show ev 51 (.t (.int .i64 ((0:Nat):Int))::[.ptr (.arg 0) 0,.ptr (.arg 1) 0,.ptr (.arg 2) 0]) [.cells 61 [.ptr (.arg 3) 0],.cells 26 (bg 14 n s t ns ks),.cells 66 [.map (.arg 4)],.cells 63 (aT q),.map aQ 26]=some (aL (.inl (aA k_1 b_1 n_1 s_1 t_1 je wk)) [.cells 61 [.ptr (.arg 3) 0],.cells 26 (bg 14 n s t ns ks),.cells 66 [.map (.arg 4)],.cells 63 (aT q),.map aQ 26]) from(fD gG 0 (by omega)).trans (congrArg (λz=>some (aL z [.cells 61 [.ptr (.arg 3) 0],.cells 26 (bg 14 n s t ns ks),.cells 66 [.map (.arg 4)],.cells 63 (aT q),.map aQ 26])) hr_1)),oN (o:=.map aQ 26) aZ,oC (show ev 52 [.t (aA k_1 b_1 n_1 s_1 t_1 je wk),.t (.int .u8 0)] []=some (aL (.inl (aA k_1 b_1 n_1 s_1 t_1 je wk)) []) from bC _ _ _ (by show some (aL (cond ((k_1==0)) _ _) [])=_;rw[hk2];rfl)),oB bN,oN (o:=.map aQ 26) aZ,oC (show ev 51 (.t (.int .i64 ((2:Nat):Int))::[.ptr (.arg 0) 0,.ptr (.arg 1) 0,.ptr (.arg 2) 0]) [.cells 61 [.ptr (.arg 3) 0],.cells 26 (bg 14 n s t ns ks),.cells 66 [.map (.arg 4)],.cells 63 (aT q),.map aQ 26]=some (aL (.inl (aA k_5 b_5 rN By t_5 N_5 L_5)) [.cells 61 [.ptr (.arg 3) 0],.cells 26 (bg 14 n s t ns ks),.cells 66 [.map (.arg 4)],.cells 63 (aT q),.map aQ 26]) from(fD gG 2 (by omega)).trans (congrArg (λz=>some (aL z [.cells 61 [.ptr (.arg 3) 0],.cells 26 (bg 14 n s t ns ks),.cells 66 [.map (.arg 4)],.cells 63 (aT q),.map aQ 26])) HW)),oN (o:=.map aQ 26) aZ,oN (o:=.map aQ 26) (λ_=>rfl)]⟩
    ·refine⟨⟨.inr (CI),(by first|(simp only[gH,dQ,kd,jq,ni,hr_1,HW,hk2,bN,cond_true,cond_false];done)|(simp[gH,dQ,kd,jq,ni,hr_1,HW,hk2,bN];done)|(simp_all [gH,dQ,kd,jq,ni];done))⟩,kf ah [oT,oN (o:=.map aQ 26) aZ,oC (show ev 51 (.t (.int .i64 ((0:Nat):Int))::[.ptr (.arg 0) 0,.ptr (.arg 1) 0,.ptr (.arg 2) 0]) [.cells 61 [.ptr (.arg 3) 0],.cells 26 (bg 14 n s t ns ks),.cells 66 [.map (.arg 4)],.cells 63 (aT q),.map aQ 26]=some (aL (.inl (aA k_1 b_1 n_1 s_1 t_1 je wk)) [.cells 61 [.ptr (.arg 3) 0],.cells 26 (bg 14 n s t ns ks),.cells 66 [.map (.arg 4)],.cells 63 (aT q),.map aQ 26]) from(fD gG 0 (by omega)).trans (congrArg (λz=>some (aL z [.cells 61 [.ptr (.arg 3) 0],.cells 26 (bg 14 n s t ns ks),.cells 66 [.map (.arg 4)],.cells 63 (aT q),.map aQ 26])) hr_1)),oN (o:=.map aQ 26) aZ,oC (show ev 52 [.t (aA k_1 b_1 n_1 s_1 t_1 je wk),.t (.int .u8 0)] []=some (aL (.inl (aA k_1 b_1 n_1 s_1 t_1 je wk)) []) from bC _ _ _ (by show some (aL (cond ((k_1==0)) _ _) [])=_;rw[hk2];rfl)),oB bN,oN (o:=.map aQ 26) aZ,oC (show ev 51 (.t (.int .i64 ((2:Nat):Int))::[.ptr (.arg 0) 0,.ptr (.arg 1) 0,.ptr (.arg 2) 0]) [.cells 61 [.ptr (.arg 3) 0],.cells 26 (bg 14 n s t ns ks),.cells 66 [.map (.arg 4)],.cells 63 (aT q),.map aQ 26]=some (aL (.inr CI) [.cells 61 [.ptr (.arg 3) 0],.cells 26 (bg 14 n s t ns ks),.cells 66 [.map (.arg 4)],.cells 63 (aT q),.map aQ 26]) from(fD gG 2 (by omega)).trans (congrArg (λz=>some (aL z [.cells 61 [.ptr (.arg 3) 0],.cells 26 (bg 14 n s t ns ks),.cells 66 [.map (.arg 4)],.cells 63 (aT q),.map aQ 26])) HW))]⟩
  ·have Ut:=ne_of_beq_false hk2;refine⟨⟨.inr (7),(by first|(simp only[gH,dQ,kd,jq,ni,hr_1,hk2,cond_true,cond_false];done)|(simp[gH,dQ,kd,jq,ni,hr_1,hk2];done)|(simp_all [gH,dQ,kd,jq,ni];done))⟩,kf ah [oT,oN (o:=.map aQ 26) aZ,oC (show ev 51 (.t (.int .i64 ((0:Nat):Int))::[.ptr (.arg 0) 0,.ptr (.arg 1) 0,.ptr (.arg 2) 0]) [.cells 61 [.ptr (.arg 3) 0],.cells 26 (bg 14 n s t ns ks),.cells 66 [.map (.arg 4)],.cells 63 (aT q),.map aQ 26]=some (aL (.inl (aA k_1 b_1 n_1 s_1 t_1 je wk)) [.cells 61 [.ptr (.arg 3) 0],.cells 26 (bg 14 n s t ns ks),.cells 66 [.map (.arg 4)],.cells 63 (aT q),.map aQ 26]) from(fD gG 0 (by omega)).trans (congrArg (λz=>some (aL z [.cells 61 [.ptr (.arg 3) 0],.cells 26 (bg 14 n s t ns ks),.cells 66 [.map (.arg 4)],.cells 63 (aT q),.map aQ 26])) hr_1)),oN (o:=.map aQ 26) aZ,oC (show ev 52 [.t (aA k_1 b_1 n_1 s_1 t_1 je wk),.t (.int .u8 0)] []=some (aL (.inr (7)) []) from bC _ _ _ (by show some (aL (cond ((k_1==0)) _ _) [])=_;rw[hk2];rfl))]⟩
 ·refine⟨⟨.inr (w_1),(by first|(simp only[gH,dQ,kd,jq,ni,hr_1,cond_true,cond_false];done)|(simp[gH,dQ,kd,jq,ni,hr_1];done)|(simp_all [gH,dQ,kd,jq,ni];done))⟩,kf ah [oT,oN (o:=.map aQ 26) aZ,oC (show ev 51 (.t (.int .i64 ((0:Nat):Int))::[.ptr (.arg 0) 0,.ptr (.arg 1) 0,.ptr (.arg 2) 0]) [.cells 61 [.ptr (.arg 3) 0],.cells 26 (bg 14 n s t ns ks),.cells 66 [.map (.arg 4)],.cells 63 (aT q),.map aQ 26]=some (aL (.inr w_1) [.cells 61 [.ptr (.arg 3) 0],.cells 26 (bg 14 n s t ns ks),.cells 66 [.map (.arg 4)],.cells 63 (aT q),.map aQ 26]) from(fD gG 0 (by omega)).trans (congrArg (λz=>some (aL z [.cells 61 [.ptr (.arg 3) 0],.cells 26 (bg 14 n s t ns ks),.cells 66 [.map (.arg 4)],.cells 63 (aT q),.map aQ 26])) hr_1))]⟩
theorem akR (m:Int)(q:Sc)(n:Int)(s t:List UInt8)(ns ks:List Tree)(hE:T .aM (bf 15 n s t ns ks))(lk:ks.length<=4194304)(hks:∀y∈ks,T .aM y)(f:Tree->Tree ⊕ Int)(hf:∀x∈ks,ai (cf m) 27 [.ptr (.arg 0) 0,.t x,.map (.arg 1)] [.cells 63 (aT q),.map aQ 26] (aL (f x) [.cells 63 (aT q),.map aQ 26]))(Fi:∀x∈ks,∀v,f x=.inl v->T .av v)(hlen:ks.length=2):∃r:{r:Tree ⊕ Int // r=dQ 15 (f (jt ks 0)) (f (jt ks 1))},ai (cf m) 27 [.ptr (.arg 0) 0,.t (bf 15 n s t ns ks),.map (.arg 1)] [.cells 63 (aT q),.map aQ 26] (aL r.1 [.cells 63 (aT q),.map aQ 26]):=by
 obtain⟨ev,aI,gG,bC⟩:∃ev,aC (cf m) ev/\Has ev 51 (O4 [.ptr (.arg 0) 0,.ptr (.arg 1) 0,.ptr (.arg 2) 0] [.cells 61 [.ptr (.arg 3) 0],.cells 26 (bg 15 n s t ns ks),.cells 66 [.map (.arg 4)],.cells 63 (aT q),.map aQ 26] ks.length (λi=>f (jt ks i)))/\Has ev 52 sH:=⟨_,(aq (E8 (λi hi=>by obtain⟨⟨r,rfl⟩,h⟩:=KX m q 15 n s t ns ks lk hks f hf Fi i hi;exact h)) (aq (jY m) aF)),au,(az rfl au)⟩;refine AX.start 61 3 Tryz.func27 rfl (by decide) rfl rfl (by decide) ?_;refine AX.frames ?_;rcases hr_1:f (jt ks 0) with v_1|w_1
 ·have adt:=Fi _ (mT (by omega)) _ hr_1;obtain⟨k_1,b_1,n_1,s_1,t_1,je,wk,rfl,_⟩:=T.aD adt;rcases aK ((k_1==0)) with hk2|hk2
  ·have Ut:=eq_of_beq hk2;rcases aK ((b_1==false)) with bN|bN
   ·have mX:=eq_of_beq bN;refine⟨⟨.inl (aA k_1 b_1 n_1 s_1 t_1 je wk),(by first|(simp only[gH,dQ,kd,jq,ni,hr_1,hk2,bN,cond_true,cond_false];done)|(simp[gH,dQ,kd,jq,ni,hr_1,hk2,bN];done)|(simp_all [gH,dQ,kd,jq,ni];done))⟩,kf ah [oF,oT,oT,oN (o:=.map aQ 26) aZ,oC (show ev 51 (.t (.int .i64 ((0:Nat):Int))::[.ptr (.arg 0) 0,.ptr (.arg 1) 0,.ptr (.arg 2) 0]) [.cells 61 [.ptr (.arg 3) 0],.cells 26 (bg 15 n s t ns ks),.cells 66 [.map (.arg 4)],.cells 63 (aT q),.map aQ 26]=some (aL (.inl (aA k_1 b_1 n_1 s_1 t_1 je wk)) [.cells 61 [.ptr (.arg 3) 0],.cells 26 (bg 15 n s t ns ks),.cells 66 [.map (.arg 4)],.cells 63 (aT q),.map aQ 26]) from(fD gG 0 (by omega)).trans (congrArg (λz=>some (aL z [.cells 61 [.ptr (.arg 3) 0],.cells 26 (bg 15 n s t ns ks),.cells 66 [.map (.arg 4)],.cells 63 (aT q),.map aQ 26])) hr_1)),oN (o:=.map aQ 26) aZ,oC (show ev 52 [.t (aA k_1 b_1 n_1 s_1 t_1 je wk),.t (.int .u8 0)] []=some (aL (.inl (aA k_1 b_1 n_1 s_1 t_1 je wk)) []) from bC _ _ _ (by show some (aL (cond ((k_1==0)) _ _) [])=_;rw[hk2];rfl)),oB bN,oN (o:=.map aQ 26) (λ_=>rfl)]⟩
   ·have mX:=ne_of_beq_false bN;rcases hr_4:f (jt ks 1) with v_4|UL
    ·have O5:=Fi _ (mT (by omega)) _ hr_4;obtain⟨Fj,Lb,yM,yN,Lc,Ld,Le,rfl,_⟩:=T.aD O5;have ao3:=show ev 52 [.t (aA k_1 b_1 n_1 s_1 t_1 je wk),.t (.int .u8 0)] []=some (aL (.inl (aA k_1 b_1 n_1 s_1 t_1 je wk)) []) from bC _ _ _ (by show some (aL (cond ((k_1==0)) _ _) [])=_;rw[hk2];rfl);rcases aK ((Fj==0)) with O6|O6
     ·have akS:=eq_of_beq O6;refine⟨⟨.inl (aA Fj Lb yM yN Lc Ld Le),(by first|(simp only[gH,dQ,kd,jq,ni,hr_1,hr_4,hk2,bN,O6,cond_true,cond_false];done)|(simp[gH,dQ,kd,jq,ni,hr_1,hr_4,hk2,bN,O6];done)|(simp_all [gH,dQ,kd,jq,ni];done))⟩,kf ah [oF,oT,oT,oN (o:=.map aQ 26) aZ,oC (show ev 51 (.t (.int .i64 ((0:Nat):Int))::[.ptr (.arg 0) 0,.ptr (.arg 1) 0,.ptr (.arg 2) 0]) [.cells 61 [.ptr (.arg 3) 0],.cells 26 (bg 15 n s t ns ks),.cells 66 [.map (.arg 4)],.cells 63 (aT q),.map aQ 26]=some (aL (.inl (aA k_1 b_1 n_1 s_1 t_1 je wk)) [.cells 61 [.ptr (.arg 3) 0],.cells 26 (bg 15 n s t ns ks),.cells 66 [.map (.arg 4)],.cells 63 (aT q),.map aQ 26]) from(fD gG 0 (by omega)).trans (congrArg (λz=>some (aL z [.cells 61 [.ptr (.arg 3) 0],.cells 26 (bg 15 n s t ns ks),.cells 66 [.map (.arg 4)],.cells 63 (aT q),.map aQ 26])) hr_1)),oN (o:=.map aQ 26) aZ,oC ao3,oB bN,oN (o:=.map aQ 26) aZ,oC (show ev 51 (.t (.int .i64 ((1:Nat):Int))::[.ptr (.arg 0) 0,.ptr (.arg 1) 0,.ptr (.arg 2) 0]) [.cells 61 [.ptr (.arg 3) 0],.cells 26 (bg 15 n s t ns ks),.cells 66 [.map (.arg 4)],.cells 63 (aT q),.map aQ 26]=some (aL (.inl (aA Fj Lb yM yN Lc Ld Le)) [.cells 61 [.ptr (.arg 3) 0],.cells 26 (bg 15 n s t ns ks),.cells 66 [.map (.arg 4)],.cells 63 (aT q),.map aQ 26]) from(fD gG 1 (by omega)).trans (congrArg (λz=>some (aL z [.cells 61 [.ptr (.arg 3) 0],.cells 26 (bg 15 n s t ns ks),.cells 66 [.map (.arg 4)],.cells 63 (aT q),.map aQ 26])) hr_4)),oN (o:=.map aQ 26) aZ,oC (show ev 52 [.t (aA Fj Lb yM yN Lc Ld Le),.t (.int .u8 0)] []=some (aL (.inl (aA Fj Lb yM yN Lc Ld Le)) []) from bC _ _ _ (by show some (aL (cond ((Fj==0)) _ _) [])=_;rw[O6];rfl)),oN (o:=.map aQ 26) (λ_=>rfl)]⟩
     ·have akS:=ne_of_beq_false O6;refine⟨⟨.inr (7),(by first|(simp only[gH,dQ,kd,jq,ni,hr_1,hr_4,hk2,bN,O6,cond_true,cond_false];done)|(simp[gH,dQ,kd,jq,ni,hr_1,hr_4,hk2,bN,O6];done)|(simp_all [gH,dQ,kd,jq,ni];done))⟩,kf ah [oF,oT,oT,oN (o:=.map aQ 26) aZ,oC (show ev 51 (.t (.int .i64 ((0:Nat):Int))::[.ptr (.arg 0) 0,.ptr (.arg 1) 0,.ptr (.arg 2) 0]) [.cells 61 [.ptr (.arg 3) 0],.cells 26 (bg 15 n s t ns ks),.cells 66 [.map (.arg 4)],.cells 63 (aT q),.map aQ 26]=some (aL (.inl (aA k_1 b_1 n_1 s_1 t_1 je wk)) [.cells 61 [.ptr (.arg 3) 0],.cells 26 (bg 15 n s t ns ks),.cells 66 [.map (.arg 4)],.cells 63 (aT q),.map aQ 26]) from(fD gG 0 (by omega)).trans (congrArg (λz=>some (aL z [.cells 61 [.ptr (.arg 3) 0],.cells 26 (bg 15 n s t ns ks),.cells 66 [.map (.arg 4)],.cells 63 (aT q),.map aQ 26])) hr_1)),oN (o:=.map aQ 26) aZ,oC ao3,oB bN,oN (o:=.map aQ 26) aZ,oC (show ev 51 (.t (.int .i64 ((1:Nat):Int))::[.ptr (.arg 0) 0,.ptr (.arg 1) 0,.ptr (.arg 2) 0]) [.cells 61 [.ptr (.arg 3) 0],.cells 26 (bg 15 n s t ns ks),.cells 66 [.map (.arg 4)],.cells 63 (aT q),.map aQ 26]=some (aL (.inl (aA Fj Lb yM yN Lc Ld Le)) [.cells 61 [.ptr (.arg 3) 0],.cells 26 (bg 15 n s t ns ks),.cells 66 [.map (.arg 4)],.cells 63 (aT q),.map aQ 26]) from(fD gG 1 (by omega)).trans (congrArg (λz=>some (aL z [.cells 61 [.ptr (.arg 3) 0],.cells 26 (bg 15 n s t ns ks),.cells 66 [.map (.arg 4)],.cells 63 (aT q),.map aQ 26])) hr_4)),oN (o:=.map aQ 26) aZ,oC (show ev 52 [.t (aA Fj Lb yM yN Lc Ld Le),.t (.int .u8 0)] []=some (aL (.inr (7)) []) from bC _ _ _ (by show some (aL (cond ((Fj==0)) _ _) [])=_;rw[O6];rfl))]⟩
    ·refine⟨⟨.inr (UL),(by first|(simp only[gH,dQ,kd,jq,ni,hr_1,hr_4,hk2,bN,cond_true,cond_false];done)|(simp[gH,dQ,kd,jq,ni,hr_1,hr_4,hk2,bN];done)|(simp_all [gH,dQ,kd,jq,ni];done))⟩,kf ah [oF,oT,oT,oN (o:=.map aQ 26) aZ,oC (show ev 51 (.t (.int .i64 ((0:Nat):Int))::[.ptr (.arg 0) 0,.ptr (.arg 1) 0,.ptr (.arg 2) 0]) [.cells 61 [.ptr (.arg 3) 0],.cells 26 (bg 15 n s t ns ks),.cells 66 [.map (.arg 4)],.cells 63 (aT q),.map aQ 26]=some (aL (.inl (aA k_1 b_1 n_1 s_1 t_1 je wk)) [.cells 61 [.ptr (.arg 3) 0],.cells 26 (bg 15 n s t ns ks),.cells 66 [.map (.arg 4)],.cells 63 (aT q),.map aQ 26]) from(fD gG 0 (by omega)).trans (congrArg (λz=>some (aL z [.cells 61 [.ptr (.arg 3) 0],.cells 26 (bg 15 n s t ns ks),.cells 66 [.map (.arg 4)],.cells 63 (aT q),.map aQ 26])) hr_1)),oN (o:=.map aQ 26) aZ,oC (show ev 52 [.t (aA k_1 b_1 n_1 s_1 t_1 je wk),.t (.int .u8 0)] []=some (aL (.inl (aA k_1 b_1 n_1 s_1 t_1 je wk)) []) from bC _ _ _ (by show some (aL (cond ((k_1==0)) _ _) [])=_;rw[hk2];rfl)),oB bN,oN (o:=.map aQ 26) aZ,oC (show ev 51 (.t (.int .i64 ((1:Nat):Int))::[.ptr (.arg 0) 0,.ptr (.arg 1) 0,.ptr (.arg 2) 0]) [.cells 61 [.ptr (.arg 3) 0],.cells 26 (bg 15 n s t ns ks),.cells 66 [.map (.arg 4)],.cells 63 (aT q),.map aQ 26]=some (aL (.inr UL) [.cells 61 [.ptr (.arg 3) 0],.cells 26 (bg 15 n s t ns ks),.cells 66 [.map (.arg 4)],.cells 63 (aT q),.map aQ 26]) from(fD gG 1 (by omega)).trans (congrArg (λz=>some (aL z [.cells 61 [.ptr (.arg 3) 0],.cells 26 (bg 15 n s t ns ks),.cells 66 [.map (.arg 4)],.cells 63 (aT q),.map aQ 26])) hr_4))]⟩
  ·have Ut:=ne_of_beq_false hk2;refine⟨⟨.inr (7),(by first|(simp only[gH,dQ,kd,jq,ni,hr_1,hk2,cond_true,cond_false];done)|(simp[gH,dQ,kd,jq,ni,hr_1,hk2];done)|(simp_all [gH,dQ,kd,jq,ni];done))⟩,kf ah [oF,oT,oT,oN (o:=.map aQ 26) aZ,oC (show ev 51 (.t (.int .i64 ((0:Nat):Int))::[.ptr (.arg 0) 0,.ptr (.arg 1) 0,.ptr (.arg 2) 0]) [.cells 61 [.ptr (.arg 3) 0],.cells 26 (bg 15 n s t ns ks),.cells 66 [.map (.arg 4)],.cells 63 (aT q),.map aQ 26]=some (aL (.inl (aA k_1 b_1 n_1 s_1 t_1 je wk)) [.cells 61 [.ptr (.arg 3) 0],.cells 26 (bg 15 n s t ns ks),.cells 66 [.map (.arg 4)],.cells 63 (aT q),.map aQ 26]) from(fD gG 0 (by omega)).trans (congrArg (λz=>some (aL z [.cells 61 [.ptr (.arg 3) 0],.cells 26 (bg 15 n s t ns ks),.cells 66 [.map (.arg 4)],.cells 63 (aT q),.map aQ 26])) hr_1)),oN (o:=.map aQ 26) aZ,oC (show ev 52 [.t (aA k_1 b_1 n_1 s_1 t_1 je wk),.t (.int .u8 0)] []=some (aL (.inr (7)) []) from bC _ _ _ (by show some (aL (cond ((k_1==0)) _ _) [])=_;rw[hk2];rfl))]⟩
 ·refine⟨⟨.inr (w_1),(by first|(simp only[gH,dQ,kd,jq,ni,hr_1,cond_true,cond_false];done)|(simp[gH,dQ,kd,jq,ni,hr_1];done)|(simp_all [gH,dQ,kd,jq,ni];done))⟩,kf ah [oF,oT,oT,oN (o:=.map aQ 26) aZ,oC (show ev 51 (.t (.int .i64 ((0:Nat):Int))::[.ptr (.arg 0) 0,.ptr (.arg 1) 0,.ptr (.arg 2) 0]) [.cells 61 [.ptr (.arg 3) 0],.cells 26 (bg 15 n s t ns ks),.cells 66 [.map (.arg 4)],.cells 63 (aT q),.map aQ 26]=some (aL (.inr w_1) [.cells 61 [.ptr (.arg 3) 0],.cells 26 (bg 15 n s t ns ks),.cells 66 [.map (.arg 4)],.cells 63 (aT q),.map aQ 26]) from(fD gG 0 (by omega)).trans (congrArg (λz=>some (aL z [.cells 61 [.ptr (.arg 3) 0],.cells 26 (bg 15 n s t ns ks),.cells 66 [.map (.arg 4)],.cells 63 (aT q),.map aQ 26])) hr_1))]⟩
theorem ao4 (m:Int)(q:Sc)(n:Int)(s t:List UInt8)(ns ks:List Tree)(hE:T .aM (bf 16 n s t ns ks))(lk:ks.length<=4194304)(hks:∀y∈ks,T .aM y)(f:Tree->Tree ⊕ Int)(hf:∀x∈ks,ai (cf m) 27 [.ptr (.arg 0) 0,.t x,.map (.arg 1)] [.cells 63 (aT q),.map aQ 26] (aL (f x) [.cells 63 (aT q),.map aQ 26]))(Fi:∀x∈ks,∀v,f x=.inl v->T .av v)(hlen:ks.length=2):∃r:{r:Tree ⊕ Int // r=dQ 16 (f (jt ks 0)) (f (jt ks 1))},ai (cf m) 27 [.ptr (.arg 0) 0,.t (bf 16 n s t ns ks),.map (.arg 1)] [.cells 63 (aT q),.map aQ 26] (aL r.1 [.cells 63 (aT q),.map aQ 26]):=by
 obtain⟨ev,aI,gG,bC⟩:∃ev,aC (cf m) ev/\Has ev 51 (O4 [.ptr (.arg 0) 0,.ptr (.arg 1) 0,.ptr (.arg 2) 0] [.cells 61 [.ptr (.arg 3) 0],.cells 26 (bg 16 n s t ns ks),.cells 66 [.map (.arg 4)],.cells 63 (aT q),.map aQ 26] ks.length (λi=>f (jt ks i)))/\Has ev 52 sH:=⟨_,(aq (E8 (λi hi=>by obtain⟨⟨r,rfl⟩,h⟩:=KX m q 16 n s t ns ks lk hks f hf Fi i hi;exact h)) (aq (jY m) aF)),au,(az rfl au)⟩;refine AX.start 61 3 Tryz.func27 rfl (by decide) rfl rfl (by decide) ?_;refine AX.frames ?_;rcases hr_1:f (jt ks 0) with v_1|w_1
 ·have adt:=Fi _ (mT (by omega)) _ hr_1;obtain⟨k_1,b_1,n_1,s_1,t_1,je,wk,rfl,_⟩:=T.aD adt;rcases aK ((k_1==0)) with hk2|hk2
  ·have Ut:=eq_of_beq hk2;rcases aK ((b_1==true)) with bN|bN
   ·have mX:=eq_of_beq bN;refine⟨⟨.inl (aA k_1 b_1 n_1 s_1 t_1 je wk),(by first|(simp only[gH,dQ,kd,jq,ni,hr_1,hk2,bN,cond_true,cond_false];done)|(simp[gH,dQ,kd,jq,ni,hr_1,hk2,bN];done)|(simp_all [gH,dQ,kd,jq,ni];done))⟩,kf ah [oF,oF,oT,oN (o:=.map aQ 26) aZ,oC (show ev 51 (.t (.int .i64 ((0:Nat):Int))::[.ptr (.arg 0) 0,.ptr (.arg 1) 0,.ptr (.arg 2) 0]) [.cells 61 [.ptr (.arg 3) 0],.cells 26 (bg 16 n s t ns ks),.cells 66 [.map (.arg 4)],.cells 63 (aT q),.map aQ 26]=some (aL (.inl (aA k_1 b_1 n_1 s_1 t_1 je wk)) [.cells 61 [.ptr (.arg 3) 0],.cells 26 (bg 16 n s t ns ks),.cells 66 [.map (.arg 4)],.cells 63 (aT q),.map aQ 26]) from(fD gG 0 (by omega)).trans (congrArg (λz=>some (aL z [.cells 61 [.ptr (.arg 3) 0],.cells 26 (bg 16 n s t ns ks),.cells 66 [.map (.arg 4)],.cells 63 (aT q),.map aQ 26])) hr_1)),oN (o:=.map aQ 26) aZ,oC (show ev 52 [.t (aA k_1 b_1 n_1 s_1 t_1 je wk),.t (.int .u8 0)] []=some (aL (.inl (aA k_1 b_1 n_1 s_1 t_1 je wk)) []) from bC _ _ _ (by show some (aL (cond ((k_1==0)) _ _) [])=_;rw[hk2];rfl)),oB bN,oN (o:=.map aQ 26) (λ_=>rfl)]⟩
   ·have mX:=ne_of_beq_false bN;rcases hr_4:f (jt ks 1) with v_4|UL
    ·have O5:=Fi _ (mT (by omega)) _ hr_4;obtain⟨Fj,Lb,yM,yN,Lc,Ld,Le,rfl,_⟩:=T.aD O5;have ao5:=show ev 52 [.t (aA k_1 b_1 n_1 s_1 t_1 je wk),.t (.int .u8 0)] []=some (aL (.inl (aA k_1 b_1 n_1 s_1 t_1 je wk)) []) from bC _ _ _ (by show some (aL (cond ((k_1==0)) _ _) [])=_;rw[hk2];rfl);rcases aK ((Fj==0)) with O6|O6
     ·have akS:=eq_of_beq O6;refine⟨⟨.inl (aA Fj Lb yM yN Lc Ld Le),(by first|(simp only[gH,dQ,kd,jq,ni,hr_1,hr_4,hk2,bN,O6,cond_true,cond_false];done)|(simp[gH,dQ,kd,jq,ni,hr_1,hr_4,hk2,bN,O6];done)|(simp_all [gH,dQ,kd,jq,ni];done))⟩,kf ah [oF,oF,oT,oN (o:=.map aQ 26) aZ,oC (show ev 51 (.t (.int .i64 ((0:Nat):Int))::[.ptr (.arg 0) 0,.ptr (.arg 1) 0,.ptr (.arg 2) 0]) [.cells 61 [.ptr (.arg 3) 0],.cells 26 (bg 16 n s t ns ks),.cells 66 [.map (.arg 4)],.cells 63 (aT q),.map aQ 26]=some (aL (.inl (aA k_1 b_1 n_1 s_1 t_1 je wk)) [.cells 61 [.ptr (.arg 3) 0],.cells 26 (bg 16 n s t ns ks),.cells 66 [.map (.arg 4)],.cells 63 (aT q),.map aQ 26]) from(fD gG 0 (by omega)).trans (congrArg (λz=>some (aL z [.cells 61 [.ptr (.arg 3) 0],.cells 26 (bg 16 n s t ns ks),.cells 66 [.map (.arg 4)],.cells 63 (aT q),.map aQ 26])) hr_1)),oN (o:=.map aQ 26) aZ,oC ao5,oB bN,oN (o:=.map aQ 26) aZ,oC (show ev 51 (.t (.int .i64 ((1:Nat):Int))::[.ptr (.arg 0) 0,.ptr (.arg 1) 0,.ptr (.arg 2) 0]) [.cells 61 [.ptr (.arg 3) 0],.cells 26 (bg 16 n s t ns ks),.cells 66 [.map (.arg 4)],.cells 63 (aT q),.map aQ 26]=some (aL (.inl (aA Fj Lb yM yN Lc Ld Le)) [.cells 61 [.ptr (.arg 3) 0],.cells 26 (bg 16 n s t ns ks),.cells 66 [.map (.arg 4)],.cells 63 (aT q),.map aQ 26]) from(fD gG 1 (by omega)).trans (congrArg (λz=>some (aL z [.cells 61 [.ptr (.arg 3) 0],.cells 26 (bg 16 n s t ns ks),.cells 66 [.map (.arg 4)],.cells 63 (aT q),.map aQ 26])) hr_4)),oN (o:=.map aQ 26) aZ,oC (show ev 52 [.t (aA Fj Lb yM yN Lc Ld Le),.t (.int .u8 0)] []=some (aL (.inl (aA Fj Lb yM yN Lc Ld Le)) []) from bC _ _ _ (by show some (aL (cond ((Fj==0)) _ _) [])=_;rw[O6];rfl)),oN (o:=.map aQ 26) (λ_=>rfl)]⟩
     ·have akS:=ne_of_beq_false O6;refine⟨⟨.inr (7),(by first|(simp only[gH,dQ,kd,jq,ni,hr_1,hr_4,hk2,bN,O6,cond_true,cond_false];done)|(simp[gH,dQ,kd,jq,ni,hr_1,hr_4,hk2,bN,O6];done)|(simp_all [gH,dQ,kd,jq,ni];done))⟩,kf ah [oF,oF,oT,oN (o:=.map aQ 26) aZ,oC (show ev 51 (.t (.int .i64 ((0:Nat):Int))::[.ptr (.arg 0) 0,.ptr (.arg 1) 0,.ptr (.arg 2) 0]) [.cells 61 [.ptr (.arg 3) 0],.cells 26 (bg 16 n s t ns ks),.cells 66 [.map (.arg 4)],.cells 63 (aT q),.map aQ 26]=some (aL (.inl (aA k_1 b_1 n_1 s_1 t_1 je wk)) [.cells 61 [.ptr (.arg 3) 0],.cells 26 (bg 16 n s t ns ks),.cells 66 [.map (.arg 4)],.cells 63 (aT q),.map aQ 26]) from(fD gG 0 (by omega)).trans (congrArg (λz=>some (aL z [.cells 61 [.ptr (.arg 3) 0],.cells 26 (bg 16 n s t ns ks),.cells 66 [.map (.arg 4)],.cells 63 (aT q),.map aQ 26])) hr_1)),oN (o:=.map aQ 26) aZ,oC ao5,oB bN,oN (o:=.map aQ 26) aZ,oC (show ev 51 (.t (.int .i64 ((1:Nat):Int))::[.ptr (.arg 0) 0,.ptr (.arg 1) 0,.ptr (.arg 2) 0]) [.cells 61 [.ptr (.arg 3) 0],.cells 26 (bg 16 n s t ns ks),.cells 66 [.map (.arg 4)],.cells 63 (aT q),.map aQ 26]=some (aL (.inl (aA Fj Lb yM yN Lc Ld Le)) [.cells 61 [.ptr (.arg 3) 0],.cells 26 (bg 16 n s t ns ks),.cells 66 [.map (.arg 4)],.cells 63 (aT q),.map aQ 26]) from(fD gG 1 (by omega)).trans (congrArg (λz=>some (aL z [.cells 61 [.ptr (.arg 3) 0],.cells 26 (bg 16 n s t ns ks),.cells 66 [.map (.arg 4)],.cells 63 (aT q),.map aQ 26])) hr_4)),oN (o:=.map aQ 26) aZ,oC (show ev 52 [.t (aA Fj Lb yM yN Lc Ld Le),.t (.int .u8 0)] []=some (aL (.inr (7)) []) from bC _ _ _ (by show some (aL (cond ((Fj==0)) _ _) [])=_;rw[O6];rfl))]⟩
    ·refine⟨⟨.inr (UL),(by first|(simp only[gH,dQ,kd,jq,ni,hr_1,hr_4,hk2,bN,cond_true,cond_false];done)|(simp[gH,dQ,kd,jq,ni,hr_1,hr_4,hk2,bN];done)|(simp_all [gH,dQ,kd,jq,ni];done))⟩,kf ah [oF,oF,oT,oN (o:=.map aQ 26) aZ,oC (show ev 51 (.t (.int .i64 ((0:Nat):Int))::[.ptr (.arg 0) 0,.ptr (.arg 1) 0,.ptr (.arg 2) 0]) [.cells 61 [.ptr (.arg 3) 0],.cells 26 (bg 16 n s t ns ks),.cells 66 [.map (.arg 4)],.cells 63 (aT q),.map aQ 26]=some (aL (.inl (aA k_1 b_1 n_1 s_1 t_1 je wk)) [.cells 61 [.ptr (.arg 3) 0],.cells 26 (bg 16 n s t ns ks),.cells 66 [.map (.arg 4)],.cells 63 (aT q),.map aQ 26]) from(fD gG 0 (by omega)).trans (congrArg (λz=>some (aL z [.cells 61 [.ptr (.arg 3) 0],.cells 26 (bg 16 n s t ns ks),.cells 66 [.map (.arg 4)],.cells 63 (aT q),.map aQ 26])) hr_1)),oN (o:=.map aQ 26) aZ,oC (show ev 52 [.t (aA k_1 b_1 n_1 s_1 t_1 je wk),.t (.int .u8 0)] []=some (aL (.inl (aA k_1 b_1 n_1 s_1 t_1 je wk)) []) from bC _ _ _ (by show some (aL (cond ((k_1==0)) _ _) [])=_;rw[hk2];rfl)),oB bN,oN (o:=.map aQ 26) aZ,oC (show ev 51 (.t (.int .i64 ((1:Nat):Int))::[.ptr (.arg 0) 0,.ptr (.arg 1) 0,.ptr (.arg 2) 0]) [.cells 61 [.ptr (.arg 3) 0],.cells 26 (bg 16 n s t ns ks),.cells 66 [.map (.arg 4)],.cells 63 (aT q),.map aQ 26]=some (aL (.inr UL) [.cells 61 [.ptr (.arg 3) 0],.cells 26 (bg 16 n s t ns ks),.cells 66 [.map (.arg 4)],.cells 63 (aT q),.map aQ 26]) from(fD gG 1 (by omega)).trans (congrArg (λz=>some (aL z [.cells 61 [.ptr (.arg 3) 0],.cells 26 (bg 16 n s t ns ks),.cells 66 [.map (.arg 4)],.cells 63 (aT q),.map aQ 26])) hr_4))]⟩
  ·have Ut:=ne_of_beq_false hk2;refine⟨⟨.inr (7),(by first|(simp only[gH,dQ,kd,jq,ni,hr_1,hk2,cond_true,cond_false];done)|(simp[gH,dQ,kd,jq,ni,hr_1,hk2];done)|(simp_all [gH,dQ,kd,jq,ni];done))⟩,kf ah [oF,oF,oT,oN (o:=.map aQ 26) aZ,oC (show ev 51 (.t (.int .i64 ((0:Nat):Int))::[.ptr (.arg 0) 0,.ptr (.arg 1) 0,.ptr (.arg 2) 0]) [.cells 61 [.ptr (.arg 3) 0],.cells 26 (bg 16 n s t ns ks),.cells 66 [.map (.arg 4)],.cells 63 (aT q),.map aQ 26]=some (aL (.inl (aA k_1 b_1 n_1 s_1 t_1 je wk)) [.cells 61 [.ptr (.arg 3) 0],.cells 26 (bg 16 n s t ns ks),.cells 66 [.map (.arg 4)],.cells 63 (aT q),.map aQ 26]) from(fD gG 0 (by omega)).trans (congrArg (λz=>some (aL z [.cells 61 [.ptr (.arg 3) 0],.cells 26 (bg 16 n s t ns ks),.cells 66 [.map (.arg 4)],.cells 63 (aT q),.map aQ 26])) hr_1)),oN (o:=.map aQ 26) aZ,oC (show ev 52 [.t (aA k_1 b_1 n_1 s_1 t_1 je wk),.t (.int .u8 0)] []=some (aL (.inr (7)) []) from bC _ _ _ (by show some (aL (cond ((k_1==0)) _ _) [])=_;rw[hk2];rfl))]⟩
 ·refine⟨⟨.inr (w_1),(by first|(simp only[gH,dQ,kd,jq,ni,hr_1,cond_true,cond_false];done)|(simp[gH,dQ,kd,jq,ni,hr_1];done)|(simp_all [gH,dQ,kd,jq,ni];done))⟩,kf ah [oF,oF,oT,oN (o:=.map aQ 26) aZ,oC (show ev 51 (.t (.int .i64 ((0:Nat):Int))::[.ptr (.arg 0) 0,.ptr (.arg 1) 0,.ptr (.arg 2) 0]) [.cells 61 [.ptr (.arg 3) 0],.cells 26 (bg 16 n s t ns ks),.cells 66 [.map (.arg 4)],.cells 63 (aT q),.map aQ 26]=some (aL (.inr w_1) [.cells 61 [.ptr (.arg 3) 0],.cells 26 (bg 16 n s t ns ks),.cells 66 [.map (.arg 4)],.cells 63 (aT q),.map aQ 26]) from(fD gG 0 (by omega)).trans (congrArg (λz=>some (aL z [.cells 61 [.ptr (.arg 3) 0],.cells 26 (bg 16 n s t ns ks),.cells 66 [.map (.arg 4)],.cells 63 (aT q),.map aQ 26])) hr_1))]⟩
theorem agG {C:ew}{g:FuncId}{a b:TV}{o:List aP}{r:br}(h:ai C g [a,b,.t (.sl [])] o r):ai C g [a,b,.bX] o r:=λG w vs hw hg hd hH hv=>h G w vs hw hg hd hH ⟨hv.1,λj c u hc hu=>by
 match j,hc with
 |0,hc=>exact hv.2 0 c u hc hu
 |1,hc=>exact hv.2 1 c u hc hu
 |2,hc=>
  cases hc
  have h2:=hv.2 2 .bX u rfl hu
  cases h2
  exact .t _ _ (.Fg _ _)
 |n+3,hc=>simp at hc⟩
theorem vC {l:List Tree}{i:Nat}(h:i<l.length):l[i]?=some (jt l i):=by
 rw[fh (List.getElem?_eq_getElem h)];exact List.getElem?_eq_getElem h
def EvO (m:Int)(q:Sc)(f:Tree->Tree ⊕ Int)(e:Tree)(ks:List Tree)(r:Tree ⊕ Int):Prop:=(∃w,iN f ks=.inr w/\r=.inr w)\/∃l,iN f ks=.inl l/\l.length=ks.length/\(∀y∈l,T .av y)/\QO m q e l r
theorem UM {f:_->Bool×List Tree×Tree}{a:List TV}{r1:br}(q:Sc):∀x o r,px a [SG q] r1 x o=some r->gU yC CD (λx=>O3 x (f x)) x o=none:=λx o r hr=>by
 unfold px at hr;split at hr
 ·rename_i hp;unfold gU;refine dif_neg λ⟨z,_,hz⟩=> ?_
  rw[hp.2] at hz;exact absurd (congrArg (λp=>p.2.length) hz) (by simp[yC])
 ·cases hr
theorem ao6 (m:Int)(q:Sc)(op:Int)(n:Int)(s t:List UInt8)(ns ks:List Tree)(hE:T .aM (bf op n s t ns ks))(lk:ks.length<=4194304)(hks:∀y∈ks,T .aM y)(f:Tree->Tree ⊕ Int)(hf:∀x∈ks,ai (cf m) 27 [.ptr (.arg 0) 0,.t x,.map (.arg 1)] [.cells 63 (aT q),.map aQ 26] (aL (f x) [.cells 63 (aT q),.map aQ 26]))(Fi:∀x∈ks,∀v,f x=.inl v->T .av v)(hM:BA op ns.length ks.length)(h6:op≠6)(SB:op≠14)(Qx:op≠15)(h16:op≠16)(hs:SD q):∃r:{r:Tree ⊕ Int // EvO m q f (bf op n s t ns ks) ks r},ai (cf m) 27 [.ptr (.arg 0) 0,.t (bf op n s t ns ks),.map (.arg 1)] [.cells 63 (aT q),.map aQ 26] (aL r.1 [.cells 63 (aT q),.map aQ 26]):=by
 obtain⟨⟨hM1,hM2⟩,_⟩:=id hM;obtain⟨G,hG⟩:=bK (α:=List Tree) (P:=PO q (bf op n s t ns ks)) (Q:=λl (r:Tree ⊕ Int)=>ai (cf m) (gOf op) [.ptr (.arg 0) 0,.t (bf op n s t ns ks),.t (.sl l)] [SG q] (aL r [SG q])/\QO m q (bf op n s t ns ks) l r) λl hl=>akM m q (bf op n s t ns ks) l hl h6 SB Qx h16
 obtain⟨ev,aI,gG,BB⟩:∃ev,aC (cf m) ev/\Has ev 51 (O4 [.ptr (.arg 0) 0,.ptr (.arg 1) 0,.ptr (.arg 2) 0] [.cells 61 [.ptr (.arg 3) 0],.cells 26 (bg op n s t ns ks),.cells 66 [.map (.arg 4)],.cells 63 (aT q),.map aQ 26] ks.length (λi=>f (jt ks i)))/\Has ev (gOf op) (agD q (bf op n s t ns ks) G):=⟨_,(aq (E8 (λi hi=>by obtain⟨⟨r,rfl⟩,h⟩:=KX m q op n s t ns ks lk hks f hf Fi i hi;exact h)) (aq (agE (λl hl=>(hG l hl).1)) aF)),au,(az (akQ op) au)⟩;refine AX.start 61 3 Tryz.func27 rfl (by decide) rfl rfl (by decide) ?_;refine AX.frames ?_;refine kl (α:=Nat×List Tree) ah 0 [] 61 4 [.loc [0],.loc [1],.loc [2],.loc [3]] [.loc [0],.loc [1],.loc [2],.loc [3],.arg 0,.arg 1] [3,4,5,6,7,9,42,43] (λx=>(match x.2 with| []=>⟨eA 61 [(3,.ptr (.loc [0]) 0),(4,.ptr (.loc [1]) 0),(5,.ptr (.loc [2]) 0),(6,.ptr (.loc [3]) 0),(7,.fn (.func 51) [] [.ptr (.loc [0]) 0,.ptr (.loc [1]) 0,.ptr (.loc [2]) 0]),(9,.bX),(42,.t (.int .i64 ((ks.length:Nat):Int))),(43,.t (.int .i64 ((x.1:Nat):Int)))],[(.loc [0],.cells 61 [.ptr (.arg 0) 0]),(.loc [1],.cells 26 (bg op n s t ns ks)),(.loc [2],.cells 66 [.map (.arg 1)]),(.loc [3],.cells 32 [.t (.int .u8 0),.t (.bool false),.t (.int .i64 0),.t (.str []),.t (.str []),.bX,.bX]),(.arg 0,.cells 63 (aT q)),(.arg 1,.map aQ 26)],4⟩|_::_=>⟨eA 61 [(3,.ptr (.loc [0]) 0),(4,.ptr (.loc [1]) 0),(5,.ptr (.loc [2]) 0),(6,.ptr (.loc [3]) 0),(7,.fn (.func 51) [] [.ptr (.loc [0]) 0,.ptr (.loc [1]) 0,.ptr (.loc [2]) 0]),(9,.ref (.loc [4]) 0 x.2.length),(42,.t (.int .i64 ((ks.length:Nat):Int))),(43,.t (.int .i64 ((x.1:Nat):Int)))],[(.loc [0],.cells 61 [.ptr (.arg 0) 0]),(.loc [1],.cells 26 (bg op n s t ns ks)),(.loc [2],.cells 66 [.map (.arg 1)]),(.loc [3],.cells 32 [.t (.int .u8 0),.t (.bool false),.t (.int .i64 0),.t (.str []),.t (.str []),.bX,.bX]),(.loc [4],.arr (32,true) 7 false ((flat x.2).map .t)),(.arg 0,.cells 63 (aT q)),(.arg 1,.map aQ 26)],5⟩)) (λx=>(x.1<=ks.length)/\(∀y∈x.2,T .av y)/\(x.2.length=x.1)/\(iN f (ks.take x.1)=.inl x.2)) (λx=>ks.length - x.1) (⟨0,[]⟩) (j6 (Tryz.f27.body.getD .skip) 15) [oB (beq_eq_false_iff_ne.mpr SB),oB (beq_eq_false_iff_ne.mpr Qx),oB (beq_eq_false_iff_ne.mpr h16),oN (o:=.map aQ 26) (λ_=>rfl)] ⟨Nat.zero_le _,λy hy=>(by cases hy),rfl,rfl⟩ (λx hok=> ?_);obtain⟨i_1,iY⟩:=x;replace hok:(i_1<=ks.length)/\(∀y∈iY,T .av y)/\(iY.length=i_1)/\(iN f (ks.take i_1)=.inl iY):=hok;obtain⟨cI,bI,fN,gW⟩:=hok;rcases iY with _|⟨jG,jH⟩
 ·rcases aK (decide (((i_1:Nat):Int)<((ks.length:Nat):Int))) with cm|cm
  ·have jP:=of_decide_eq_true cm;rcases An:f (jt ks i_1) with v_3|w_3
   ·have adu:=Fi _ (mT (by omega)) _ An;obtain⟨Wj,Wk,jw,iu,Wl,fW,Wm,rfl,_⟩:=T.aD adu;exact⟨.inl ⟨⟨i_1+1,([(aA Wj Wk jw iu Wl fW Wm)]:List Tree)⟩,⟨⟨(by show(i_1+1)<=ks.length;omega),(λy hy=>by rw[List.mem_singleton.1 hy];exact adu),(by have h9:=fN;(try dsimp only at h9 ⊢);(try simp only[List.length_append,List.length_cons,List.length_nil] at h9 ⊢);omega),(yD gW (vC (by omega)) An)⟩,(by show(ks.length - (i_1+1))<(ks.length - i_1);omega)⟩⟩,vL ah 0 [] 61 5 [.loc [0],.loc [1],.loc [2],.loc [3],.loc [12]] [.loc [0],.loc [1],.loc [2],.loc [3],.loc [12],.arg 0,.arg 1] [3,4,5,6,7,9,42,43] [oB cm,oN (o:=.map aQ 26) aZ,oC (show ev 51 (.t (.int .i64 ((i_1:Nat):Int))::[.ptr (.arg 0) 0,.ptr (.arg 1) 0,.ptr (.arg 2) 0]) [.cells 61 [.ptr (.arg 3) 0],.cells 26 (bg op n s t ns ks),.cells 66 [.map (.arg 4)],.cells 63 (aT q),.map aQ 26]=some (aL (.inl (aA Wj Wk jw iu Wl fW Wm)) [.cells 61 [.ptr (.arg 3) 0],.cells 26 (bg op n s t ns ks),.cells 66 [.map (.arg 4)],.cells 63 (aT q),.map aQ 26]) from(fD gG i_1 (by omega)).trans (congrArg (λz=>some (aL z [.cells 61 [.ptr (.arg 3) 0],.cells 26 (bg op n s t ns ks),.cells 66 [.map (.arg 4)],.cells 63 (aT q),.map aQ 26])) An)),oN (o:=.map aQ 26) aZ,oU true 7 ([(aA Wj Wk jw iu Wl fW Wm)]:List Tree) (eV.cons ⟨rfl,rfl,rfl⟩ eV.nil) (by simp),oA (([(aA Wj Wk jw iu Wl fW Wm)]:List Tree).length*96) cO,oI (i_1) (by omega),cU 32 7 ([(aA Wj Wk jw iu Wl fW Wm)]:List Tree),oN (o:=.map aQ 26) (λ_=>rfl)]⟩
   ·refine kx ah [oB cm,oN (o:=.map aQ 26) aZ,oC (show ev 51 (.t (.int .i64 ((i_1:Nat):Int))::[.ptr (.arg 0) 0,.ptr (.arg 1) 0,.ptr (.arg 2) 0]) [.cells 61 [.ptr (.arg 3) 0],.cells 26 (bg op n s t ns ks),.cells 66 [.map (.arg 4)],.cells 63 (aT q),.map aQ 26]=some (aL (.inr w_3) [.cells 61 [.ptr (.arg 3) 0],.cells 26 (bg op n s t ns ks),.cells 66 [.map (.arg 4)],.cells 63 (aT q),.map aQ 26]) from(fD gG i_1 (by omega)).trans (congrArg (λz=>some (aL z [.cells 61 [.ptr (.arg 3) 0],.cells 26 (bg op n s t ns ks),.cells 66 [.map (.arg 4)],.cells 63 (aT q),.map aQ 26])) An))] ?_;refine⟨⟨.inr (w_3),.inl ⟨_,yE gW (vC (by omega)) An,rfl⟩⟩,kf ah []⟩
  ·have jP:=of_decide_eq_false cm;refine kx ah [oB cm] ?_;have Wn:iN f ks=.inl ([]:List Tree):=by have h:=gW;rw[show i_1=ks.length by omega,List.take_length] at h;exact h
   have Sf:List.length ([]:List Tree)=ks.length:=by have h:=fN;omega
   have Sg:PO q (bf op n s t ns ks) ([]:List Tree):=⟨hs,hE,by omega,bI,by show BA op ns.length _;rw[Sf];exact hM⟩;have akT:=(hG _ Sg).2;rcases hr_4:G ([]:List Tree) with v_4|UL
   ·have O5:=akT.1.1 _ hr_4;obtain⟨Fj,Lb,yM,yN,Lc,Ld,Le,rfl,_⟩:=T.aD O5;refine⟨⟨.inl (aA Fj Lb yM yN Lc Ld Le),.inr ⟨([]:List Tree),Wn,Sf,Sg.2.2.2.1,by rw[← hr_4];exact akT⟩⟩,kf ah [oO (E9 m (op:=op) (by omega) (by omega) SB Qx h16),oC (show ev (gOf op) [.ptr (.arg 0) 0,.t (bf op n s t ns ks),.t (.sl ([]:List Tree))] [.cells 63 (aT q)]=some (aL (.inl (aA Fj Lb yM yN Lc Ld Le)) [.cells 63 (aT q)]) from(agF BB Sg).trans (congrArg (λz=>some (aL z [SG q])) hr_4)),oN (o:=.map aQ 26) (λ_=>rfl)]⟩
   ·refine⟨⟨.inr (UL),.inr ⟨([]:List Tree),Wn,Sf,Sg.2.2.2.1,by rw[← hr_4];exact akT⟩⟩,kf ah [oO (E9 m (op:=op) (by omega) (by omega) SB Qx h16),oC (show ev (gOf op) [.ptr (.arg 0) 0,.t (bf op n s t ns ks),.t (.sl ([]:List Tree))] [.cells 63 (aT q)]=some (aL (.inr UL) [.cells 63 (aT q)]) from(agF BB Sg).trans (congrArg (λz=>some (aL z [SG q])) hr_4))]⟩
 ·rcases aK (decide (((i_1:Nat):Int)<((ks.length:Nat):Int))) with ja|ja
  ·have Ca:=of_decide_eq_true ja;rcases Bb:f (jt ks i_1) with v_6|w_6
   ·have adv:=Fi _ (mT (by omega)) _ Bb;obtain⟨k_6,b_6,qm,qR,t_6,N_6,L_6,rfl,_⟩:=T.aD adv;exact⟨.inl ⟨⟨i_1+1,(jG::jH)++([(aA k_6 b_6 qm qR t_6 N_6 L_6)]:List Tree)⟩,⟨⟨(by show(i_1+1)<=ks.length;omega),(λy hy=>(List.mem_append.1 hy).elim (bI y) (λh=>by rw[List.mem_singleton.1 h];exact adv)),(by have h9:=fN;(try dsimp only at h9 ⊢);(try simp only[List.length_append,List.length_cons,List.length_nil] at h9 ⊢);omega),(yD gW (vC (by omega)) Bb)⟩,(by show(ks.length - (i_1+1))<(ks.length - i_1);omega)⟩⟩,vL ah 0 [] 61 5 [.loc [0],.loc [1],.loc [2],.loc [3],.loc [4]] [.loc [0],.loc [1],.loc [2],.loc [3],.loc [4],.arg 0,.arg 1] [3,4,5,6,7,9,42,43] [oB ja,oN (o:=.map aQ 26) aZ,oC (show ev 51 (.t (.int .i64 ((i_1:Nat):Int))::[.ptr (.arg 0) 0,.ptr (.arg 1) 0,.ptr (.arg 2) 0]) [.cells 61 [.ptr (.arg 3) 0],.cells 26 (bg op n s t ns ks),.cells 66 [.map (.arg 4)],.cells 63 (aT q),.map aQ 26]=some (aL (.inl (aA k_6 b_6 qm qR t_6 N_6 L_6)) [.cells 61 [.ptr (.arg 3) 0],.cells 26 (bg op n s t ns ks),.cells 66 [.map (.arg 4)],.cells 63 (aT q),.map aQ 26]) from(fD gG i_1 (by omega)).trans (congrArg (λz=>some (aL z [.cells 61 [.ptr (.arg 3) 0],.cells 26 (bg op n s t ns ks),.cells 66 [.map (.arg 4)],.cells 63 (aT q),.map aQ 26])) Bb)),oN (o:=.map aQ 26) aZ,oU true 7 ([(aA k_6 b_6 qm qR t_6 N_6 L_6)]:List Tree) (eV.cons ⟨rfl,rfl,rfl⟩ eV.nil) (by simp),oW true 7 (jG::jH) (aG bI),oA (((jG::jH).length+([(aA k_6 b_6 qm qR t_6 N_6 L_6)]:List Tree).length) *96) cO,oI (i_1) (by omega),cU 32 7 ((jG::jH)++([(aA k_6 b_6 qm qR t_6 N_6 L_6)]:List Tree)),oN (o:=.map aQ 26) (λ_=>rfl)]⟩
   ·refine kx ah [oB ja,oN (o:=.map aQ 26) aZ,oC (show ev 51 (.t (.int .i64 ((i_1:Nat):Int))::[.ptr (.arg 0) 0,.ptr (.arg 1) 0,.ptr (.arg 2) 0]) [.cells 61 [.ptr (.arg 3) 0],.cells 26 (bg op n s t ns ks),.cells 66 [.map (.arg 4)],.cells 63 (aT q),.map aQ 26]=some (aL (.inr w_6) [.cells 61 [.ptr (.arg 3) 0],.cells 26 (bg op n s t ns ks),.cells 66 [.map (.arg 4)],.cells 63 (aT q),.map aQ 26]) from(fD gG i_1 (by omega)).trans (congrArg (λz=>some (aL z [.cells 61 [.ptr (.arg 3) 0],.cells 26 (bg op n s t ns ks),.cells 66 [.map (.arg 4)],.cells 63 (aT q),.map aQ 26])) Bb))] ?_;refine⟨⟨.inr (w_6),.inl ⟨_,yE gW (vC (by omega)) Bb,rfl⟩⟩,kf ah []⟩
  ·have Ca:=of_decide_eq_false ja;refine kx ah [oB ja] ?_;have Sh:iN f ks=.inl (jG::jH):=by have h:=gW;rw[show i_1=ks.length by omega,List.take_length] at h;exact h
   have KY:List.length (jG::jH)=ks.length:=by have h:=fN;omega
   have Si:PO q (bf op n s t ns ks) (jG::jH):=⟨hs,hE,by omega,bI,by show BA op ns.length _;rw[KY];exact hM⟩;have akU:=(hG _ Si).2;rcases adw:G (jG::jH) with v_7|w_7
   ·have adx:=akU.1.1 _ adw;obtain⟨k_7,b_7,SE,SF,t_7,N_7,L_7,rfl,_⟩:=T.aD adx;refine⟨⟨.inl (aA k_7 b_7 SE SF t_7 N_7 L_7),.inr ⟨(jG::jH),Sh,KY,Si.2.2.2.1,by rw[← adw];exact akU⟩⟩,kf ah [oO (E9 m (op:=op) (by omega) (by omega) SB Qx h16),oW true 7 (jG::jH) (aG bI),oC (show ev (gOf op) [.ptr (.arg 0) 0,.t (bf op n s t ns ks),.t (.sl (jG::jH))] [.cells 63 (aT q)]=some (aL (.inl (aA k_7 b_7 SE SF t_7 N_7 L_7)) [.cells 63 (aT q)]) from(agF BB Si).trans (congrArg (λz=>some (aL z [SG q])) adw)),oN (o:=.map aQ 26) (λ_=>rfl)]⟩
   ·refine⟨⟨.inr (w_7),.inr ⟨(jG::jH),Sh,KY,Si.2.2.2.1,by rw[← adw];exact akU⟩⟩,kf ah [oO (E9 m (op:=op) (by omega) (by omega) SB Qx h16),oW true 7 (jG::jH) (aG bI),oC (show ev (gOf op) [.ptr (.arg 0) 0,.t (bf op n s t ns ks),.t (.sl (jG::jH))] [.cells 63 (aT q)]=some (aL (.inr w_7) [.cells 63 (aT q)]) from(agF BB Si).trans (congrArg (λz=>some (aL z [SG q])) adw))]⟩
theorem akV (m:Int)(q:Sc)(n:Int)(s t:List UInt8)(ns ks:List Tree)(hE:T .aM (bf 6 n s t ns ks))(lk:ks.length<=4194304)(hks:∀y∈ks,T .aM y)(f:Tree->Tree ⊕ Int)(hf:∀x∈ks,ai (cf m) 27 [.ptr (.arg 0) 0,.t x,.map (.arg 1)] [.cells 63 (aT q),.map aQ 26] (aL (f x) [.cells 63 (aT q),.map aQ 26]))(Fi:∀x∈ks,∀v,f x=.inl v->T .av v)(h16:ks.length<=16):∃r:{r:Tree ⊕ Int // EvO m q f (bf 6 n s t ns ks) ks r},ai (cf m) 27 [.ptr (.arg 0) 0,.t (bf 6 n s t ns ks),.map (.arg 1)] [.cells 63 (aT q),.map aQ 26] (aL r.1 [.cells 63 (aT q),.map aQ 26]):=by
 obtain⟨ady,adz⟩:=ads m;obtain⟨⟨v0,hv0⟩,hc0⟩:=adq m q (bf 6 n s t ns ks) hE;obtain⟨ev,aI,gG,adA⟩:∃ev,aC (cf m) ev/\Has ev 51 (O4 [.ptr (.arg 0) 0,.ptr (.arg 1) 0,.ptr (.arg 2) 0] [.cells 61 [.ptr (.arg 3) 0],.cells 26 (bg 6 n s t ns ks),.cells 66 [.map (.arg 4)],.cells 63 (aT q),.map aQ 26] ks.length (λi=>f (jt ks i)))/\Has ev 55 (Ke (gU yC (CD) (λx=>O3 x (ady x))) (px [.ptr (.arg 0) 0,.t (bf 6 n s t ns ks),.bX] [.cells 63 (aT q)] (.ret (.t v0) [.cells 63 (aT q)] []))):=⟨_,(aq (E8 (λi hi=>by obtain⟨⟨r,rfl⟩,h⟩:=KX m q 6 n s t ns ks lk hks f hf Fi i hi;exact h)) (aq (DS (cW (λ⟨q,e,L,n⟩ hx=>(adz q e L n hx).1)) (fU (agG hc0))) aF)),au,(az rfl au)⟩;refine AX.start 61 3 Tryz.func27 rfl (by decide) rfl rfl (by decide) ?_;refine AX.frames ?_;refine kl (α:=Nat×List Tree) ah 2305843009213693952 [] 61 4 [.loc [0],.loc [1],.loc [2],.loc [3]] [.loc [0],.loc [1],.loc [2],.loc [3],.arg 0,.arg 1] [3,4,5,6,7,9,42,43] (λx=>(match x.2 with| []=>⟨eA 61 [(3,.ptr (.loc [0]) 0),(4,.ptr (.loc [1]) 0),(5,.ptr (.loc [2]) 0),(6,.ptr (.loc [3]) 0),(7,.fn (.func 51) [] [.ptr (.loc [0]) 0,.ptr (.loc [1]) 0,.ptr (.loc [2]) 0]),(9,.bX),(42,.t (.int .i64 ((ks.length:Nat):Int))),(43,.t (.int .i64 ((x.1:Nat):Int)))],[(.loc [0],.cells 61 [.ptr (.arg 0) 0]),(.loc [1],.cells 26 (bg 6 n s t ns ks)),(.loc [2],.cells 66 [.map (.arg 1)]),(.loc [3],.cells 32 [.t (.int .u8 0),.t (.bool false),.t (.int .i64 0),.t (.str []),.t (.str []),.bX,.bX]),(.arg 0,.cells 63 (aT q)),(.arg 1,.map aQ 26)],4⟩|_::_=>⟨eA 61 [(3,.ptr (.loc [0]) 0),(4,.ptr (.loc [1]) 0),(5,.ptr (.loc [2]) 0),(6,.ptr (.loc [3]) 0),(7,.fn (.func 51) [] [.ptr (.loc [0]) 0,.ptr (.loc [1]) 0,.ptr (.loc [2]) 0]),(9,.ref (.loc [4]) 0 x.2.length),(42,.t (.int .i64 ((ks.length:Nat):Int))),(43,.t (.int .i64 ((x.1:Nat):Int)))],[(.loc [0],.cells 61 [.ptr (.arg 0) 0]),(.loc [1],.cells 26 (bg 6 n s t ns ks)),(.loc [2],.cells 66 [.map (.arg 1)]),(.loc [3],.cells 32 [.t (.int .u8 0),.t (.bool false),.t (.int .i64 0),.t (.str []),.t (.str []),.bX,.bX]),(.loc [4],.arr (32,true) 7 false ((flat x.2).map .t)),(.arg 0,.cells 63 (aT q)),(.arg 1,.map aQ 26)],5⟩)) (λx=>(x.1<=ks.length)/\(∀y∈x.2,T .av y)/\(x.2.length=x.1)/\(iN f (ks.take x.1)=.inl x.2)) (λx=>ks.length - x.1) (⟨0,[]⟩) (j6 (Tryz.f27.body.getD .skip) 15) [oF,oF,oF,oN (o:=.map aQ 26) (λ_=>rfl)] ⟨Nat.zero_le _,λy hy=>(by cases hy),rfl,rfl⟩ (λx hok=> ?_);obtain⟨i_1,iY⟩:=x;replace hok:(i_1<=ks.length)/\(∀y∈iY,T .av y)/\(iY.length=i_1)/\(iN f (ks.take i_1)=.inl iY):=hok;obtain⟨cI,bI,fN,gW⟩:=hok;have akW:=E9 m (op:=6) (by decide) (by decide) (by decide) (by decide) (by decide);rcases iY with _|⟨jG,jH⟩
 ·rcases aK (decide (((i_1:Nat):Int)<((ks.length:Nat):Int))) with cm|cm
  ·have jP:=of_decide_eq_true cm;rcases An:f (jt ks i_1) with v_3|w_3
   ·have adu:=Fi _ (mT (by omega)) _ An;obtain⟨Wj,Wk,jw,iu,Wl,fW,Wm,rfl,_⟩:=T.aD adu;exact⟨.inl ⟨⟨i_1+1,([(aA Wj Wk jw iu Wl fW Wm)]:List Tree)⟩,⟨⟨(by show(i_1+1)<=ks.length;omega),(λy hy=>by rw[List.mem_singleton.1 hy];exact adu),(by have h9:=fN;(try dsimp only at h9 ⊢);(try simp only[List.length_append,List.length_cons,List.length_nil] at h9 ⊢);omega),(yD gW (vC (by omega)) An)⟩,(by show(ks.length - (i_1+1))<(ks.length - i_1);omega)⟩⟩,vL ah 2305843009213693952 [] 61 5 [.loc [0],.loc [1],.loc [2],.loc [3],.loc [12]] [.loc [0],.loc [1],.loc [2],.loc [3],.loc [12],.arg 0,.arg 1] [3,4,5,6,7,9,42,43] [oB cm,oN (o:=.map aQ 26) aZ,oC (show ev 51 (.t (.int .i64 ((i_1:Nat):Int))::[.ptr (.arg 0) 0,.ptr (.arg 1) 0,.ptr (.arg 2) 0]) [.cells 61 [.ptr (.arg 3) 0],.cells 26 (bg 6 n s t ns ks),.cells 66 [.map (.arg 4)],.cells 63 (aT q),.map aQ 26]=some (aL (.inl (aA Wj Wk jw iu Wl fW Wm)) [.cells 61 [.ptr (.arg 3) 0],.cells 26 (bg 6 n s t ns ks),.cells 66 [.map (.arg 4)],.cells 63 (aT q),.map aQ 26]) from(fD gG i_1 (by omega)).trans (congrArg (λz=>some (aL z [.cells 61 [.ptr (.arg 3) 0],.cells 26 (bg 6 n s t ns ks),.cells 66 [.map (.arg 4)],.cells 63 (aT q),.map aQ 26])) An)),oN (o:=.map aQ 26) aZ,oU true 7 ([(aA Wj Wk jw iu Wl fW Wm)]:List Tree) (eV.cons ⟨rfl,rfl,rfl⟩ eV.nil) (by simp),oA (([(aA Wj Wk jw iu Wl fW Wm)]:List Tree).length*96) cO,oI (i_1) (by omega),cU 32 7 ([(aA Wj Wk jw iu Wl fW Wm)]:List Tree),oN (o:=.map aQ 26) (λ_=>rfl)]⟩
   ·refine F3 ah 2305843009213693952 [] [oB cm,oN (o:=.map aQ 26) aZ,oC (show ev 51 (.t (.int .i64 ((i_1:Nat):Int))::[.ptr (.arg 0) 0,.ptr (.arg 1) 0,.ptr (.arg 2) 0]) [.cells 61 [.ptr (.arg 3) 0],.cells 26 (bg 6 n s t ns ks),.cells 66 [.map (.arg 4)],.cells 63 (aT q),.map aQ 26]=some (aL (.inr w_3) [.cells 61 [.ptr (.arg 3) 0],.cells 26 (bg 6 n s t ns ks),.cells 66 [.map (.arg 4)],.cells 63 (aT q),.map aQ 26]) from(fD gG i_1 (by omega)).trans (congrArg (λz=>some (aL z [.cells 61 [.ptr (.arg 3) 0],.cells 26 (bg 6 n s t ns ks),.cells 66 [.map (.arg 4)],.cells 63 (aT q),.map aQ 26])) An))] ?_;refine⟨⟨.inr (w_3),.inl ⟨_,yE gW (vC (by omega)) An,rfl⟩⟩,q4 ah 2305843009213693952 [] []⟩
  ·have jP:=of_decide_eq_false cm;refine F3 ah 2305843009213693952 [] [oB cm] ?_;have Wn:iN f ks=.inl ([]:List Tree):=by have h:=gW;rw[show i_1=ks.length by omega,List.take_length] at h;exact h
   have Sf:List.length ([]:List Tree)=ks.length:=by have h:=fN;omega
   obtain⟨v_4,O5,ao7⟩:∃v,v=v0/\T .av v:=⟨v0,rfl,hv0⟩;obtain⟨Fj,Lb,yM,yN,Lc,Ld,Le,rfl,_⟩:=T.aD ao7;refine⟨⟨.inl (aA Fj Lb yM yN Lc Ld Le),.inr ⟨([]:List Tree),Wn,Sf,(λy hy=>by cases hy),⟨(λv hv=>by cases hv;exact ao7),λw hw=>(by cases hw)⟩,(λh=>absurd h (by show(6:Int)≠12;decide)),(λh=>absurd h (by show(6:Int)≠13;decide)),(λh=>absurd h (by show ¬((6:Int)=17\/(6:Int)=18);decide)),(λh=>absurd h (by show ¬(19:Int)<=6;decide)),(λh=>absurd h (by show(6:Int)≠24;decide)),(λh=>absurd h (by show(6:Int)≠25;decide)),(λh=>absurd h (by show(6:Int)≠4;decide)),(λh=>absurd h (by show(6:Int)≠23;decide))⟩⟩,q4 ah 2305843009213693952 [] [oO akW,oC (show ev 55 [.ptr (.arg 0) 0,.t (bf 6 n s t ns ks),.bX] [.cells 63 (aT q)]=some (br.ret (.t (aA Fj Lb yM yN Lc Ld Le)) [.cells 63 (aT q)] []) from(jm (DT adA (UM _))).trans (congrArg (λz=>some (br.ret (.t z) [.cells 63 (aT q)] [])) O5.symm)),oN (o:=.map aQ 26) (λ_=>rfl)]⟩
 ·rcases aK (decide (((i_1:Nat):Int)<((ks.length:Nat):Int))) with ja|ja
  ·have Ca:=of_decide_eq_true ja;rcases Bb:f (jt ks i_1) with v_6|w_6
   ·have adv:=Fi _ (mT (by omega)) _ Bb;obtain⟨k_6,b_6,qm,qR,t_6,N_6,L_6,rfl,_⟩:=T.aD adv;exact⟨.inl ⟨⟨i_1+1,(jG::jH)++([(aA k_6 b_6 qm qR t_6 N_6 L_6)]:List Tree)⟩,⟨⟨(by show(i_1+1)<=ks.length;omega),(λy hy=>(List.mem_append.1 hy).elim (bI y) (λh=>by rw[List.mem_singleton.1 h];exact adv)),(by have h9:=fN;(try dsimp only at h9 ⊢);(try simp only[List.length_append,List.length_cons,List.length_nil] at h9 ⊢);omega),(yD gW (vC (by omega)) Bb)⟩,(by show(ks.length - (i_1+1))<(ks.length - i_1);omega)⟩⟩,vL ah 2305843009213693952 [] 61 5 [.loc [0],.loc [1],.loc [2],.loc [3],.loc [4]] [.loc [0],.loc [1],.loc [2],.loc [3],.loc [4],.arg 0,.arg 1] [3,4,5,6,7,9,42,43] [oB ja,oN (o:=.map aQ 26) aZ,oC (show ev 51 (.t (.int .i64 ((i_1:Nat):Int))::[.ptr (.arg 0) 0,.ptr (.arg 1) 0,.ptr (.arg 2) 0]) [.cells 61 [.ptr (.arg 3) 0],.cells 26 (bg 6 n s t ns ks),.cells 66 [.map (.arg 4)],.cells 63 (aT q),.map aQ 26]=some (aL (.inl (aA k_6 b_6 qm qR t_6 N_6 L_6)) [.cells 61 [.ptr (.arg 3) 0],.cells 26 (bg 6 n s t ns ks),.cells 66 [.map (.arg 4)],.cells 63 (aT q),.map aQ 26]) from(fD gG i_1 (by omega)).trans (congrArg (λz=>some (aL z [.cells 61 [.ptr (.arg 3) 0],.cells 26 (bg 6 n s t ns ks),.cells 66 [.map (.arg 4)],.cells 63 (aT q),.map aQ 26])) Bb)),oN (o:=.map aQ 26) aZ,oU true 7 ([(aA k_6 b_6 qm qR t_6 N_6 L_6)]:List Tree) (eV.cons ⟨rfl,rfl,rfl⟩ eV.nil) (by simp),oW true 7 (jG::jH) (aG bI),oA (((jG::jH).length+([(aA k_6 b_6 qm qR t_6 N_6 L_6)]:List Tree).length) *96) cO,oI (i_1) (by omega),cU 32 7 ((jG::jH)++([(aA k_6 b_6 qm qR t_6 N_6 L_6)]:List Tree)),oN (o:=.map aQ 26) (λ_=>rfl)]⟩
   ·refine F3 ah 2305843009213693952 [] [oB ja,oN (o:=.map aQ 26) aZ,oC (show ev 51 (.t (.int .i64 ((i_1:Nat):Int))::[.ptr (.arg 0) 0,.ptr (.arg 1) 0,.ptr (.arg 2) 0]) [.cells 61 [.ptr (.arg 3) 0],.cells 26 (bg 6 n s t ns ks),.cells 66 [.map (.arg 4)],.cells 63 (aT q),.map aQ 26]=some (aL (.inr w_6) [.cells 61 [.ptr (.arg 3) 0],.cells 26 (bg 6 n s t ns ks),.cells 66 [.map (.arg 4)],.cells 63 (aT q),.map aQ 26]) from(fD gG i_1 (by omega)).trans (congrArg (λz=>some (aL z [.cells 61 [.ptr (.arg 3) 0],.cells 26 (bg 6 n s t ns ks),.cells 66 [.map (.arg 4)],.cells 63 (aT q),.map aQ 26])) Bb))] ?_;refine⟨⟨.inr (w_6),.inl ⟨_,yE gW (vC (by omega)) Bb,rfl⟩⟩,q4 ah 2305843009213693952 [] []⟩
  ·have Ca:=of_decide_eq_false ja;refine F3 ah 2305843009213693952 [] [oB ja] ?_;have Sh:iN f ks=.inl (jG::jH):=by have h:=gW;rw[show i_1=ks.length by omega,List.take_length] at h;exact h
   have KY:List.length (jG::jH)=ks.length:=by have h:=fN;omega
   have XL:CD (q,(bf 6 n s t ns ks),(jG::jH),(jG::jH).length):=⟨by have h9:=KY;show List.length (jG::jH)<=16;omega,bI,rfl,hE⟩;have hq8:=adz q (bf 6 n s t ns ks) (jG::jH) ((jG::jH).length) XL;obtain⟨akX,ao8,v_7,Km⟩:∃b S v,(ady (q,(bf 6 n s t ns ks),(jG::jH),(jG::jH).length))=(b,S,v):=⟨_,_,_,rfl⟩;have adx:T .av v_7:=by have h9:=hq8.2;rw[Km] at h9;exact h9
   obtain⟨k_7,b_7,SE,SF,t_7,N_7,L_7,rfl,_⟩:=T.aD adx;rcases aK akX with akY|akY
   ·refine⟨⟨.inl (aA k_7 b_7 SE SF t_7 N_7 L_7),.inr ⟨(jG::jH),Sh,KY,bI,⟨(λv hv=>by cases hv;exact adx),λw hw=>(by cases hw)⟩,(λh=>absurd h (by show(6:Int)≠12;decide)),(λh=>absurd h (by show(6:Int)≠13;decide)),(λh=>absurd h (by show ¬((6:Int)=17\/(6:Int)=18);decide)),(λh=>absurd h (by show ¬(19:Int)<=6;decide)),(λh=>absurd h (by show(6:Int)≠24;decide)),(λh=>absurd h (by show(6:Int)≠25;decide)),(λh=>absurd h (by show(6:Int)≠4;decide)),(λh=>absurd h (by show(6:Int)≠23;decide))⟩⟩,q4 ah 2305843009213693952 [] [oO akW,cU 32 7 (jG::jH),oC (show ev 55 [.ptr (.arg 0) 0,.t (bf 6 n s t ns ks),.ref (.arg 1) 0 (jG::jH).length] [.cells 63 (aT q),.arr (32,true) 7 false ((flat (jG::jH)).map .t)]=some (br.ret (.t (aA k_7 b_7 SE SF t_7 N_7 L_7)) [.cells 63 (aT q),.dead] []) from(fu (vg adA) Se (q,(bf 6 n s t ns ks),(jG::jH),(jG::jH).length) XL rfl rfl).trans (by rw[Km];show some (br.ret _ [_,cond akX _ _] [])=_;rw[akY];rfl)),oN (o:=.map aQ 26) (λ_=>rfl)]⟩
   ·refine⟨⟨.inl (aA k_7 b_7 SE SF t_7 N_7 L_7),.inr ⟨(jG::jH),Sh,KY,bI,⟨(λv hv=>by cases hv;exact adx),λw hw=>(by cases hw)⟩,(λh=>absurd h (by show(6:Int)≠12;decide)),(λh=>absurd h (by show(6:Int)≠13;decide)),(λh=>absurd h (by show ¬((6:Int)=17\/(6:Int)=18);decide)),(λh=>absurd h (by show ¬(19:Int)<=6;decide)),(λh=>absurd h (by show(6:Int)≠24;decide)),(λh=>absurd h (by show(6:Int)≠25;decide)),(λh=>absurd h (by show(6:Int)≠4;decide)),(λh=>absurd h (by show(6:Int)≠23;decide))⟩⟩,q4 ah 2305843009213693952 [] [oO akW,cU 32 7 (jG::jH),oC (show ev 55 [.ptr (.arg 0) 0,.t (bf 6 n s t ns ks),.ref (.arg 1) 0 (jG::jH).length] [.cells 63 (aT q),.arr (32,true) 7 false ((flat (jG::jH)).map .t)]=some (br.ret (.t (aA k_7 b_7 SE SF t_7 N_7 L_7)) [.cells 63 (aT q),.arr (32,true) 7 true ((flat ao8).map .t)] []) from(fu (vg adA) Se (q,(bf 6 n s t ns ks),(jG::jH),(jG::jH).length) XL rfl rfl).trans (by rw[Km];show some (br.ret _ [_,cond akX _ _] [])=_;rw[akY];rfl)),oN (o:=.arr (32,true) 7 true ((flat ao8).map .t)) (λ_=>k7),oN (o:=.map aQ 26) (λ_=>rfl)]⟩
end
end Go.Proofs.YtfdnciimclnncaaGreatDoor.w.e
namespace Go.Proofs.YtfdnciimclnncaaGreatDoor.w.e
open Go Go.Abs
set_option maxRecDepth 100000
set_option maxHeartbeats 2000000
noncomputable section
open Go.Abs.Ty
def IC (q:Sc):List aP:=[SG q,.map aQ 26]
def Sj (r:Tree ⊕ Int):Prop:=(∀v,r=.inl v->T .av v)/\∀w,r=.inr w->w≠0
def CF (m:Int)(q:Sc)(f:Tree->Tree ⊕ Int)(e:Tree)(r:Tree ⊕ Int):Prop:=
 ai (cf m) 27 [.ptr (.arg 0) 0,.t e,.map (.arg 1)] (IC q) (aL r (IC q))/\Sj r/\
 (ff e=14->r=gH (f (jt (mB e) 0)) (f (jt (mB e) 1)) (f (jt (mB e) 2)))/\
 (ff e=15\/ff e=16->r=dQ (ff e) (f (jt (mB e) 0)) (f (jt (mB e) 1)))/\
 (ff e≠14->ff e≠15->ff e≠16->EvO m q f e (mB e) r)
theorem adB {r:Tree ⊕ Int}(h:Sj r)(k:Int):Sj (kd k r):=by
 cases r with
 |inr w=>exact⟨λv hv=>by(cases hv),λw hw=>h.2 w hw⟩
 |inl v=>
  show Sj (cond (jq v==k) (.inl v) (.inr 7))
  cases jq v==k with
  |true=>exact h
  |false=>exact⟨λv hv=>by(cases hv),λw hw=>by cases hw;decide⟩
theorem agH {a b c:Tree ⊕ Int}(ha:Sj a)(hb:Sj b)(hc:Sj c):Sj (gH a b c):=by
 unfold gH;have h:=adB ha 0;cases hk:kd 0 a with
 |inr w=>rw[hk] at h;exact⟨λv hv=>by(cases hv),λw hw=>h.2 w hw⟩
 |inl v=>
  show Sj (cond (ni v) b c)
  cases ni v<;>assumption
theorem Sk {op:Int}{a b:Tree ⊕ Int}(ha:Sj a)(hb:Sj b):Sj (dQ op a b):=by
 unfold dQ;have h:=adB ha 0;cases hk:kd 0 a with
 |inr w=>rw[hk] at h;exact⟨λv hv=>by(cases hv),λw hw=>h.2 w hw⟩
 |inl v=>
  rw[hk] at h
  show Sj (cond (ni v==(op==16)) (.inl v) (kd 0 b))
  cases ni v==(op==16)
  · exact adB hb 0
  · exact h
theorem MY {f:Tree->Tree ⊕ Int}:∀{l:List Tree} {w:Int},iN f l=.inr w->∃x∈l,f x=.inr w
 | [],_,h=>by cases h
 | a::l,w,h=>by
  unfold iN at h
  cases ha:f a with
  |inr u=>rw[ha] at h;cases h;exact⟨a,List.mem_cons_self,ha⟩
  | inl v=>
   rw[ha] at h
   simp only at h
   cases hl:iN f l with
   |inr u=>
    rw[hl] at h
    cases h
    obtain⟨x,hx,e⟩:=MY hl
    exact⟨x,List.mem_cons_of_mem _ hx,e⟩
   |inl vs=>rw[hl] at h;cases h
theorem Hz {f g:Tree->Tree ⊕ Int}:∀{l:List Tree},(∀x∈l,f x=g x)->iN f l=iN g l
 | [],_=>rfl
 |a::l,h=>by
  unfold iN
  rw[h a List.mem_cons_self,Hz λx hx=>h x (List.mem_cons_of_mem _ hx)]
theorem Wo (m:Int)(q:Sc)(hs:SD q)(f:Tree->Tree ⊕ Int){e:Tree}(hE:T .aM e)(hR:Rt e)
 (hf:∀x∈mB e,ai (cf m) 27 [.ptr (.arg 0) 0,.t x,.map (.arg 1)] (IC q) (aL (f x) (IC q)))(hT:∀x∈mB e,Sj (f x)):∃r,CF m q f e r:=by
 obtain⟨op,n,s,t,ns,ks,rfl,h0,WR,htb,hn,Yo,lk,hks⟩:=T.bO hE
 cases hR with|mk _ _ _ _ _ _ hM _=>
 obtain⟨⟨m1,m2⟩,m3,m4,m5,m6,m7⟩:=id hM
 have Fi:∀x∈ks,∀v,f x=.inl v->T .av v:=λx hx=>(hT x hx).1
 have ty:∀i,i<ks.length->Sj (f (jt ks i)):=λi hi=>hT _ (mT hi)
 by_cases SB:op=14
 ·subst SB;have hl:ks.length=3:=m4 rfl;obtain⟨⟨r,hr⟩,hc⟩:=ao2 m q n s t ns ks hE lk hks f hf Fi hl;exact⟨r,hc,by rw[hr];exact agH (ty 0 (by omega)) (ty 1 (by omega)) (ty 2 (by omega)),λ_=>hr,λh=>absurd h (by show ¬((14:Int)=15\/(14:Int)=16);decide),λh=>absurd rfl h⟩
 by_cases Qx:op=15
 ·subst Qx;have hl:ks.length=2:=m6 (by decide);obtain⟨⟨r,hr⟩,hc⟩:=akR m q n s t ns ks hE lk hks f hf Fi hl;exact⟨r,hc,by rw[hr];exact Sk (ty 0 (by omega)) (ty 1 (by omega)),λh=>absurd h (by show(15:Int)≠14;decide),λ_=>hr,λ_ h=>absurd rfl h⟩
 by_cases h16:op=16
 ·subst h16;have hl:ks.length=2:=m6 (by decide);obtain⟨⟨r,hr⟩,hc⟩:=ao4 m q n s t ns ks hE lk hks f hf Fi hl;exact⟨r,hc,by rw[hr];exact Sk (ty 0 (by omega)) (ty 1 (by omega)),λh=>absurd h (by show(16:Int)≠14;decide),λ_=>hr,λ_ _ h=>absurd rfl h⟩
 have fin:∀r,EvO m q f (bf op n s t ns ks) ks r->Sj r:=λr h=>by
  rcases h with ⟨w,h1,rfl⟩|⟨l,_,_,_,hq⟩
  ·obtain⟨x,hx,e⟩:=MY h1;exact⟨λv hv=>by(cases hv),λw' hw=>by cases hw;exact(hT x hx).2 _ e⟩
  ·exact hq.1
 by_cases h6:op=6
 ·subst h6;obtain⟨⟨r,hr⟩,hc⟩:=akV m q n s t ns ks hE lk hks f hf Fi (m7 rfl);exact⟨r,hc,fin r hr,λh=>absurd h SB,λh=>absurd h (by show ¬((6:Int)=15\/(6:Int)=16);decide),λ_ _ _=>hr⟩
 ·obtain⟨⟨r,hr⟩,hc⟩:=ao6 m q op n s t ns ks hE lk hks f hf Fi hM h6 SB Qx h16 hs;exact⟨r,hc,fin r hr,λh=>absurd h SB,λh=>h.elim (λh=>absurd h Qx) (λh=>absurd h h16),λ_ _ _=>hr⟩
open Classical in
def pick (P:Tree ⊕ Int->Prop):Tree ⊕ Int:=if h:∃r,P r then h.choose else .inr 7
theorem Wp {P:Tree ⊕ Int->Prop}(h:∃r,P r):P (pick P):=by
 unfold pick;rw[dif_pos h];exact h.choose_spec
def evN (m:Int)(q:Sc):Nat->Tree->Tree ⊕ Int
 |0,_=>.inr 7
 |n+1,e=>pick (CF m q (evN m q n) e)
theorem Fa {e:Tree}(hR:Rt e):∀x∈mB e,Rt x:=by
 cases hR with|mk _ _ _ _ _ _ _ hk=>exact hk
theorem UN {e:Tree}(hE:T .aM e):∀x∈mB e,T .aM x:=by
 obtain⟨op,n,s,t,ns,ks,rfl,_,_,_,_,_,_,hks⟩:=T.bO hE;exact hks
theorem UO (m:Int)(q:Sc)(hs:SD q):∀(n:Nat) (e:Tree),Dx (n+1) e->T .aM e->Rt e->CF m q (evN m q n) e (evN m q (n+1) e)
 |0,e,hd,hE,hR=>Wp (Wo m q hs _ hE hR (λx hx=>(hd x hx).elim) (λx hx=>(hd x hx).elim))
 |n+1,e,hd,hE,hR=>Wp (Wo m q hs _ hE hR (λx hx=>(UO m q hs n x (hd x hx) (UN hE x hx) (Fa hR x hx)).1) (λx hx=>(UO m q hs n x (hd x hx) (UN hE x hx) (Fa hR x hx)).2.1))
theorem v7 {l:List Tree}{i n:Nat}(h:l.length=n)(hi:i<n):jt l i∈l:=mT (by omega)
theorem KZ {m:Int}{q:Sc}{f g:Tree->Tree ⊕ Int}{e:Tree}(hR:Rt e)(h:∀x∈mB e,f x=g x):CF m q f e=CF m q g e:=by
 funext r;cases hR with|mk op n s t ns ks hM hk=>
 obtain⟨⟨m1,m2⟩,m3,m4,m5,m6,m7⟩:=id hM;have h:∀x∈ks,f x=g x:=h;have e1:(ff (bf op n s t ns ks)=14->r=gH (f (jt ks 0)) (f (jt ks 1)) (f (jt ks 2)))=(ff (bf op n s t ns ks)=14->r=gH (g (jt ks 0)) (g (jt ks 1)) (g (jt ks 2))):=propext ⟨λk q=>by
  rw[← h _ (v7 (m4 q) (by decide)),← h _ (v7 (m4 q) (by decide)),← h _ (v7 (m4 q) (by decide))];exact k q,λk q=>by
  rw[h _ (v7 (m4 q) (by decide)),h _ (v7 (m4 q) (by decide)),h _ (v7 (m4 q) (by decide))];exact k q⟩
 have hop:∀q:ff (bf op n s t ns ks)=15\/ff (bf op n s t ns ks)=16,ks.length=2:=λq=>m6 (by have q:op=15\/op=16:=q;omega)
 have e2:(ff (bf op n s t ns ks)=15\/ff (bf op n s t ns ks)=16->r=dQ op (f (jt ks 0)) (f (jt ks 1)))=(ff (bf op n s t ns ks)=15\/ff (bf op n s t ns ks)=16->r=dQ op (g (jt ks 0)) (g (jt ks 1))):=propext ⟨λk q=>by
  rw[← h _ (v7 (hop q) (by decide)),← h _ (v7 (hop q) (by decide))];exact k q,λk q=>by
  rw[h _ (v7 (hop q) (by decide)),h _ (v7 (hop q) (by decide))];exact k q⟩
 have e3:EvO m q f (bf op n s t ns ks) ks r=EvO m q g (bf op n s t ns ks) ks r:=by
  unfold EvO;rw[Hz h]
 exact propext ⟨λ⟨a,b,c,d,e⟩=>⟨a,b,e1.mp c,e2.mp d,λx y z=>e3.mp (e x y z)⟩,λ⟨a,b,c,d,e⟩=>⟨a,b,e1.mpr c,e2.mpr d,λx y z=>e3.mpr (e x y z)⟩⟩
theorem K0 (m:Int)(q:Sc):∀(n k:Nat) (e:Tree),Dx n e->Dx k e->Rt e->evN m q n e=evN m q k e
 |0,_,_,h,_,_=>h.elim
 |_+1,0,_,_,h,_=>h.elim
 |n+1,k+1,e,h1,h2,hR=>by
  show pick _=pick _
  rw[KZ hR λx hx=>K0 m q n k x (h1 x hx) (h2 x hx) (Fa hR x hx)]
noncomputable def SH (m:Int):Tree->Int:=(yz m).choose
theorem K1 (m:Int):∀x,T .aM x->R1 (cf m) 8 x (.int .i64 (SH m x)):=λx h=>((yz m).choose_spec x h).1
theorem UP (m:Int){x:Tree}(hx:T .aM x)(h:SH m x=0):Rt x:=((yz m).choose_spec x hx).2.1 h
theorem ah4 (m:Int){x:Tree}(hx:T .aM x):∃n,Dx n x/\SH m x=Lr (Vc (q8 m) n x):=((yz m).choose_spec x hx).2.2
noncomputable def qcF (m:Int):Tree->Int:=(VF m).choose
theorem O7 (m:Int):∀x,T .bP x->R1 (cf m) 9 x (.int .i64 (qcF m x)):=λx h=>((VF m).choose_spec x h).1
noncomputable def Yi (m:Int):Tree->Int:=(s9 m).choose
theorem UQ (m:Int):∀x,T .aN x->R1 (cf m) 24 x (.int .i64 (Yi m x)):=λx h=>((s9 m).choose_spec x h).1
def zeroV:Tree:=(aA 0 false 0 [] [] [] [])
theorem agI (m:Int)(op n:Int)(s t:List UInt8)(ns ks:List Tree)(hE:T .aM (bf op n s t ns ks))(p1 p2 a1 a2 r1 r2:List UInt8)(qk:Int)(qb:Bool)(qn:Int)(qs qt:List UInt8)(qo ql:List Tree)(hQ:T .bP (lD p1 p2 a1 a2 r1 r2 qk qb qn qs qt qo ql))(l:List Tree)(hl:l.length<=4194304)(hl2:∀y∈l,T .bS y)(h1:SH m (bf op n s t ns ks)≠0):ai (cf m) 11 [.t (bf op n s t ns ks),.t (lD p1 p2 a1 a2 r1 r2 qk qb qn qs qt qo ql),.t (.sl l)] [] (.ret (.t (.cG [zeroV,.int .i64 (SH m (bf op n s t ns ks))])) [] []):=by
 obtain⟨ev,aI,K2⟩:∃ev,aC (cf m) ev/\Has ev 8 (mW (λx=>T .aM x) (λx=>.int .i64 (SH m x))):=⟨_,(aq (bU (λx h=>K1 m x h)) aF),au⟩;refine ai.iE ?_;refine AX.start 40 3 Tryz.func11 rfl (by decide) rfl rfl (by decide) ?_;refine AX.frames ?_;exact⟨(),kf ah [oC (cE K2 (x:=(bf op n s t ns ks)) hE),oB (bne_iff_ne.mpr h1)]⟩
theorem agJ (m:Int)(op n:Int)(s t:List UInt8)(ns ks:List Tree)(hE:T .aM (bf op n s t ns ks))(p1 p2 a1 a2 r1 r2:List UInt8)(qk:Int)(qb:Bool)(qn:Int)(qs qt:List UInt8)(qo ql:List Tree)(hQ:T .bP (lD p1 p2 a1 a2 r1 r2 qk qb qn qs qt qo ql))(l:List Tree)(hl:l.length<=4194304)(hl2:∀y∈l,T .bS y)(h1:SH m (bf op n s t ns ks)=0)(h2:qcF m (lD p1 p2 a1 a2 r1 r2 qk qb qn qs qt qo ql)≠0):ai (cf m) 11 [.t (bf op n s t ns ks),.t (lD p1 p2 a1 a2 r1 r2 qk qb qn qs qt qo ql),.t (.sl l)] [] (.ret (.t (.cG [zeroV,.int .i64 (qcF m (lD p1 p2 a1 a2 r1 r2 qk qb qn qs qt qo ql))])) [] []):=by
 obtain⟨ev,aI,K2,Sl⟩:∃ev,aC (cf m) ev/\Has ev 8 (mW (λx=>T .aM x) (λx=>.int .i64 (SH m x)))/\Has ev 9 (mW (λx=>T .bP x) (λx=>.int .i64 (qcF m x))):=⟨_,(aq (bU (λx h=>K1 m x h)) (aq (bU (λx h=>O7 m x h)) aF)),au,(az rfl au)⟩;refine ai.iE ?_;refine AX.start 40 3 Tryz.func11 rfl (by decide) rfl rfl (by decide) ?_;refine AX.frames ?_;exact⟨(),kf ah [oC (cE K2 (x:=(bf op n s t ns ks)) hE),oB (bne_eq_false_iff_eq.mpr h1),oC (cE Sl (x:=(lD p1 p2 a1 a2 r1 r2 qk qb qn qs qt qo ql)) hQ),oB (bne_iff_ne.mpr h2)]⟩
theorem agK (m:Int)(op n:Int)(s t:List UInt8)(ns ks:List Tree)(hE:T .aM (bf op n s t ns ks))(p1 p2 a1 a2 r1 r2:List UInt8)(qk:Int)(qb:Bool)(qn:Int)(qs qt:List UInt8)(qo ql:List Tree)(hQ:T .bP (lD p1 p2 a1 a2 r1 r2 qk qb qn qs qt qo ql))(l:List Tree)(hl:l.length<=4194304)(hl2:∀y∈l,T .bS y)(h1:SH m (bf op n s t ns ks)=0)(h2:qcF m (lD p1 p2 a1 a2 r1 r2 qk qb qn qs qt qo ql)=0)(h3:Yi m (.sl l)≠0):ai (cf m) 11 [.t (bf op n s t ns ks),.t (lD p1 p2 a1 a2 r1 r2 qk qb qn qs qt qo ql),.t (.sl l)] [] (.ret (.t (.cG [zeroV,.int .i64 (Yi m (.sl l))])) [] []):=by
 obtain⟨ev,aI,K2,Sl,adC⟩:∃ev,aC (cf m) ev/\Has ev 8 (mW (λx=>T .aM x) (λx=>.int .i64 (SH m x)))/\Has ev 9 (mW (λx=>T .bP x) (λx=>.int .i64 (qcF m x)))/\Has ev 24 (mW (λx=>T .aN x) (λx=>.int .i64 (Yi m x))):=⟨_,(aq (bU (λx h=>K1 m x h)) (aq (bU (λx h=>O7 m x h)) (aq (bU (λx h=>UQ m x h)) aF))),au,(az rfl au),(az rfl (az rfl au))⟩;refine ai.iE ?_;refine AX.start 40 3 Tryz.func11 rfl (by decide) rfl rfl (by decide) ?_;refine AX.frames ?_;exact⟨(),kf ah [oC (cE K2 (x:=(bf op n s t ns ks)) hE),oB (bne_eq_false_iff_eq.mpr h1),oC (cE Sl (x:=(lD p1 p2 a1 a2 r1 r2 qk qb qn qs qt qo ql)) hQ),oB (bne_eq_false_iff_eq.mpr h2),oC (cE adC (x:=.sl l) (.aN _ bJ hl2)),oB (bne_iff_ne.mpr h3)]⟩
end
end Go.Proofs.YtfdnciimclnncaaGreatDoor.w.e
noncomputable section
namespace Go.Abs
open Go
section
variable {C:ew}{fn:Func}{n:Nat}{r:br}
def Yt (C:ew)(fn:Func)(n:Nat)(r:br)(c:Code)(st:St):Prop:=
 ∀(G0:Gh) (w0:World) (G:Gh) (w:World) (a:Act),(∀p,¬G0.dom (.loc p))->dW G0 w0 G w->y5 C G w st a->a.defers=[]->
  c.wp C.P (bodyPostD C.P fn (yV G0 w0 n r)) a w
theorem akZ {f:FuncId}{body:Code}{args:List TV}{bq:List aP}(Nu:C.P.fn f=some fn)(hbody:fn.body=some body)(hname:fn.name≠ "runtime.NumGoroutine")
 (h:Yt C fn bq.length r body ⟨args++List.replicate (fn.ntmps - args.length) dc,dw 0 bq,0⟩):ai C f args bq r:=by
 intro G w vs hw hg had hH hv
 have hfn:=C.P.Yw _ _ Nu
 have hst:y5 C G w ⟨args++List.replicate (fn.ntmps - args.length) dc,dw 0 bq,0⟩ {tmps:=vs.toArray++Array.replicate (fn.ntmps - vs.toArray.size) undef,defers:=[]}:=by
  refine⟨hw,hg, ?_,hH,λp hp=>absurd hp (had.2 p)⟩;have e:(vs.toArray++Array.replicate (fn.ntmps - vs.toArray.size) undef).toList=vs++List.replicate (fn.ntmps - args.length) undef:=by simp[hv.1]
  unfold SR;rw[e];refine dU.append hv ⟨by simp,λj c u hc hu=> ?_⟩;rw[List.getElem?_replicate] at hc hu;by_cases hl:j<fn.ntmps - args.length
  ·rw[if_pos hl] at hc hu;simp at hc hu;subst hc;subst hu;exact rA G
  ·rw[if_neg hl] at hc;simp at hc
 refine .inl ⟨?_,calls_of_wp_defers hfn hbody ?_⟩
 ·simp[callFunc,hfn,hname,hbody]
 ·exact h G w G w _ had.2 (Step.refl hw _ _) hst rfl
theorem agL {G0:Gh}{w0:World}{e:aR}{s:St}{ex:Exit}{a a':Act}{w':World}(hq:wE C fn n r e s)(hg:Good C G0 w0 a e s ex a' w')(hd0:a.defers=[]):bodyPostD C.P fn (yV G0 w0 n r) ex a' w':=by
 cases e with
 |normal=>
  obtain⟨G',hs,hd,rfl,qF⟩:=hg
  show Leaves C.P fn a'.tmps _ a'.defers .returning w'
  rw[hd,hd0]
  exact hq.elim (λh=>s7 h hs qF) (λh=>BS h hs qF)
 |ret=>
  obtain⟨G',hs,hd,rfl,qF⟩:=hg
  show Leaves C.P fn a'.tmps _ a'.defers .returning w'
  rw[hd,hd0]
  exact hq.elim (λh=>s7 h hs qF) (λh=>BS h hs qF)
 |exit id=>exact hq.elim
 |panic v=>
  obtain⟨_,rfl⟩:=hq
  obtain⟨G',hs,hd,x,rfl,hx,hH',_⟩:=hg
  show Leaves C.P fn a'.tmps _ a'.defers (.panicking _) w'
  rw[hd,hd0]
  refine⟨x,G',rfl,hs,λi o ho=> ?_,hx⟩
  have:=xN ho
  rw[Nat.zero_add] at this
  exact hH' _ _ this
theorem Yt.of {c:Code}{st:St}(h:AW C c st (wE C fn n r)):Yt C fn n r c st:=λG0 w0 G w a h0 hs hst hd=>
 wp_mono (h G0 w0 G w a h0 hs hst) λex a' w' ⟨e,s,hq,hg⟩=>agL hq hg hd
def ah5 (C:ew)(fn:Func)(n:Nat)(r:br)(y:Code):aR->St->Prop
 |.normal,s=>Yt C fn n r y s
 |e,s=>wE C fn n r e s
theorem Yt.seq {x y:Code}{st:St}(h:AW C x st (ah5 C fn n r y)):Yt C fn n r (.seq x y) st:=by
 intro G0 w0 G w a h0 hs hst hd0;refine wp_seq (wp_mono (h G0 w0 G w a h0 hs hst) λex a1 w1 ⟨e,st1,hq,hg⟩=> ?_);cases e with
 |normal=>
  obtain⟨rfl,hd,G1,hs1,jk⟩:=hg.nS
  exact hq G0 w0 G1 w1 a1 h0 hs1 jk (hd.trans hd0)
 |exit id=>exact gP (hg.gO (by simp)) (agL (e:=.exit id) hq hg hd0)
 |ret=>exact gP (hg.gO (by simp)) (agL (e:=.ret) hq hg hd0)
 |panic v=>exact gP (hg.gO (by simp)) (agL (e:=.panic v) hq hg hd0)
def O8 (G:Gh)(u:FrameMode):Option TV->Prop
 |none=>u=.returning
 |some x=>∃pv,VR G x pv/\u=.panicking [{v:=pv,recovered:=false}]
def ah6:aR->Option TV
 |.panic v=>some v
 |_=>none
def O9 (C:ew)(g:FuncId)(args:List TV)(bq:List aP)(uD:Option TV)(os':List aP):Prop:=
 ∀ (G:Gh) (w:World) (vs:List Value) (u:FrameMode),WF G w->jK C G->Ft G bq.length->HR G w (dw 0 bq)->dU G args vs->
  O8 G u uD->
  (callFunc g vs.toArray).run C.P w=.ok (.enter g vs.toArray) w/\
  CallsD C.P g vs.toArray u w λe u' w'=>∃v G',e=.returned v/\settle u'=.returning/\Step (λ_=>True) (λk=>k.jf=true) G w G' w'/\os'.length=bq.length/\
   ∀i o,os'[i]?=some o->G'.dom (.arg i)/\OR G' w' (.arg i) o
theorem adD {g:FuncId}{H:Heap}{args vc:List TV}{S:List Nm}{os os':List aP}{h:Heap}{t:Nat}{G:Gh}{w:World}{vs:List Value}{u:FrameMode}{uD Pa:Option TV}(hD:O9 C g vc os Pa os')
 (hn:S.Nodup)(h1:TV.yZ (LL S) args=some vc)(h2:jM H S S=some os)(h4:kB S t S os'=some h)(hp:uD.map (·.rn (LL S))=Pa.map some)
 (hw:WF G w)(hg:jK C G)(hH:HR G w H)(hfresh:∀p,¬G.dom (.loc (t::p)))(hv:dU G args vs)
 (hu:O8 G u uD):
 (callFunc g vs.toArray).run C.P w=.ok (.enter g vs.toArray) w/\
 CallsD C.P g vs.toArray u w λe u' w'=>∃v G',e=.returned v/\settle u'=.returning/\Step (λk=>k∈h.map (·.1)) (λk=>∃p,k=.loc (t::p)) G w G' w'/\∀k ob,(k,ob)∈h->G'.dom k/\OR G' w' k ob:=by
 have Ia:∀k∈S,G.dom k:=by
  intro k hk;obtain⟨j,hj⟩:=List.mem_iff_getElem?.1 hk;obtain⟨o,o',e1,_,_⟩:=(jT h2).2 j k hj;exact(hH k o e1).1
 have nj:O8 (G.within S) u Pa:=by
  cases uD with
  |none=>
   cases Pa with
   |none=>exact hu
   |some y=>simp at hp
  | some x=>
   cases Pa with
   |none=>simp at hp
   |some y=>
    simp at hp
    obtain⟨pv,hx,e⟩:=hu
    exact⟨pv,hx.rn mq hp,e⟩
 obtain⟨Qe,hc⟩:=hD (G.within S) w vs u (AA hw hn Ia) (λx cs hx=>hg x cs hx)
  ⟨λi hi=>by have:=(jT h2).1;exact(by omega:i<S.length),λp d=>d⟩ (AB hH h2) (hv.rn mq h1) nj
 refine⟨Qe,hc.mono λe u' w' he=> ?_⟩
 obtain⟨v,G2,rfl,YD,hs2,hl,Y4⟩:=he
 have Nl:=wB hw hn Ia hfresh hs2
 have yI:=AE hn Ia hfresh hs2
 obtain⟨ek,_,hO⟩:=xL h4
 refine⟨v,G.back S t G2,rfl,YD,Nl.mono (λk _ hk=>by rw[ek];exact hk) (λk hk=>hk),λk ob hm=> ?_⟩
 obtain⟨i,o',e1,e2,e3⟩:=hO k ob hm
 obtain⟨d,ho⟩:=Y4 i o' e2
 exact⟨.inl (Ia _ (List.mem_of_getElem? e1)),OR.rn yI (λ_ _ _=>rfl) (uT hn e1) ho e3⟩
def ak0 (C:ew)(fn:Func)(g:FuncId)(caps:List TV)(N:Nat)(x:Tree)(e:aR)(s:St):Prop:=
 (∀i,e≠ .exit i)/\∃(S:List Nm) (vc:List TV) (os os':List aP) (h:Heap) (osX:List aP) (ah7:Heap) (Pa:Option TV),S.Nodup/\TV.yZ (LL S) caps=some vc/\jM s.H S S=some os/\(∀t,kB S t S os'=some h)/\
  (∀t,finish C fn N ⟨s.slots,s.H.fk h,t⟩=some (.ret (.t x) osX ah7))/\
  (ah6 e).map (·.rn (LL S))=Pa.map some/\O9 C g vc os Pa os'
theorem ak1 {g:FuncId}{caps:List TV}{x:Tree}{e:aR}{s:St}{N:Nat}{G1 G0:Gh}{w1 w0:World}{S:List Nm}{t1:Nat}{a a':Act}{ex:Exit}{w':World}{ms:List Value}
 (hq:ak0 C fn g caps N x e s)(hg:Good C (G1.within S) w1 a e s ex a' w')(hd:a.defers=[{target:=.fn (.func g) ms.toArray,args:= #[]}])(hv:dU (G1.within S) caps ms)
 (hw1:WF G1 w1)(hn:S.Nodup)(Ia:∀k∈S,G1.dom k)(hfresh:∀p,¬G1.dom (.loc (t1::p)))(ak3:dW G0 w0 G1 w1)(hgl:jK C G1):bodyPostD C.P fn (yV G0 w0 0 (.ret (.t x) [] [])) ex a' w':=by
 obtain⟨hne,S2,vc,os,os',h,osX,ah7,Pa,hn2,h1,h2,h4,arO,hpn,hD⟩:=hq
 have main:∀(G2:Gh) (tk:Nat) (u:FrameMode),dW (G1.within S) w1 G2 w'->HR G2 w' s.H->SR G2 s.slots a'->zo G2 tk->
  O8 G2 u (ah6 e)->u≠ .run->
  Leaves C.P fn a'.tmps (yV G0 w0 0 (.ret (.t x) [] [])) [{target:=.fn (.func g) ms.toArray,args:= #[]}] u w':=by
  intro G2 tk u hs2 hH2 GB hfr hu hur
  have arP:jK C (G1.within S):=λx cs hx=>hgl x cs hx
  have ao9:jK C G2:=arP.mono hs2.le
  obtain⟨Qe,hc⟩:=adD (t:=tk) hD hn2 h1 h2 (h4 tk) hpn hs2.wf ao9 hH2 hfr.not (hv.mono hs2.le) hu
  refine leaves_cons (f:=g) (args:=ms.toArray) hur (by simpa [invoke] using Qe) (hc.mono ?_)
  rintro e1 u1 w3 ⟨v1,G3,rfl,YD,Nl,Y4⟩
  show Leaves C.P fn a'.tmps _ [] (settle u1) w3
  rw[YD]
  have ZB:y5 C G3 w3 ⟨s.slots,s.H.fk h,tk+1⟩ a':=⟨Nl.wf,ao9.mono Nl.le,GB.mono Nl.le,HR.fk Nl hs2.wf hH2 Y4 (λk _ hk=>hk),hfr.step Nl⟩
  obtain⟨v,hr,x',G4,e4,hs4,_,_,_,hx4⟩:=s7 (fn:=fn) (n:=N) (st:=⟨s.slots,s.H.fk h,tk+1⟩) (arO (tk+1)) (dW.comp hs2 Nl.any) ZB
  refine⟨v,hr,x',G1.back S t1 G4,e4,dW.comp ak3 (wB hw1 hn Ia hfresh hs4).any,rfl,λi o ho=>by simp at ho,λk o ho=>by simp at ho, ?_⟩
  exact .t _ _ hx4.tree
 cases e with
 |exit i=>exact absurd rfl (hne i)
 |normal=>
  obtain⟨G2,hs2,hd2,rfl,qG⟩:=hg
  show Leaves C.P fn a'.tmps _ a'.defers .returning w'
  rw[hd2,hd]
  exact main G2 s.tick .returning hs2 qG.heap qG.slots qG.fresh rfl (by simp)
 |ret=>
  obtain⟨G2,hs2,hd2,rfl,qG⟩:=hg
  show Leaves C.P fn a'.tmps _ a'.defers .returning w'
  rw[hd2,hd]
  exact main G2 s.tick .returning hs2 qG.heap qG.slots qG.fresh rfl (by simp)
 |panic v=>
  obtain⟨G2,hs2,hd2,px,rfl,hpx,hH2,GB,tk,hfr⟩:=hg
  show Leaves C.P fn a'.tmps _ a'.defers (.panicking _) w'
  rw[hd2,hd]
  exact main G2 tk _ hs2 hH2 GB hfr ⟨px,hpx,rfl⟩ (by simp)
theorem Yt.defer {ev:bp}(aI:aC C ev){f:FuncId}{id:Nat}{o1 o2:Oper}{fo:Operand}{g:FuncId}{y:Code}{slots UR:List TV}{H:Heap}{t:Nat}{v:TV}{u:Heap}{caps ah8:List TV}{S:List Nm}{bq:List aP}{x:Tree}
 (hw1:eX #[o1,o2] slots o1=some true)(hx1:bk C ev f H slots t o1=some (.val v u))(hg2:o2.guard=none)(hd2:o2.dst=none)(PK:o2.op=.defer ⟨.value fo, #[], #[]⟩)
 (hf:dr C (eu slots o1.dst v) fo=some (.fn (.func g) [] caps))(hn:S.Nodup)(hS:jM (H.fk u) S S=some bq)(GB:TV.yZ (LL S) (eu slots o1.dst v)=some UR)(hcv:TV.yZ (LL S) caps=some ah8)
 (hy:AW C y ⟨UR,dw 0 bq,0⟩ (ak0 C fn g ah8 bq.length x)):
 Yt C fn 0 (.ret (.t x) [] []) (.seq (.region id #[o1,o2] false) y) ⟨slots,H,t⟩:=by
 intro G0 w0 G w a h0 hs hst hd0
 refine wp_seq (wp_region_list ?_)
 refine wpList_step λK hK=> ?_
 rw[jA hw1 hst.slots]
 simp only[if_true]
 refine(tG aI hx1 hst.wf hst.ku hst.slots hst.heap hst.fresh.not).wp nu.no (λx1 w1 hr=> ?_) (λch w1 hr=> ?_)
 rotate_left
 ·obtain⟨x',G',e1,_⟩:=hr;simp at e1
 obtain⟨x',G1,e1,hs1,hu1,hv1⟩:=hr
 simp at e1;subst e1
 refine hK _ _ ?_
 have jk:=hst.op o1.dst hs1 hu1 hv1
 have ak3:dW G0 w0 G1 w1:=dW.comp hs hs1.any
 generalize ha1:a.put o1.dst x1=a1 at jk ⊢
 have hd1:a1.defers=[]:=by rw[← ha1,put_defers];exact hd0
 have hfv:=cH jk.slots jk.ku hf
 generalize hfe:a1.eval fo=fv at hfv
 cases hfv with|fn _ _ _ ls ms LY hp1 hl2 hp2=>
 have hls:ls=[]:=by simpa using LY
 subst hls
 refine wpList_step λK hK=> ?_
 have hwt:Region.wanted o2 (yielded #[o1,o2] a1.tmps)=true:=by simp[Region.wanted,hg2]
 rw[hwt]
 simp only[if_true]
 have hex:(execOp a1.eval o2).run C.P w1=.ok (.defer {target:=.fn (.func g) ms.toArray,args:= #[]}) w1:=by
  simp[execOp,PK,resolve,hfe,Deferred.ofValue]
 unfold Oper.wp
 rw[hex,Oper.upon_defer]
 refine hK _ _ ?_
 generalize ha2:({a1 with defers:={target:=.fn (.func g) ms.toArray,args:= #[]}::a1.defers}:Act).put o2.dst undef=a2
 have qG:y5 C G1 w1 ⟨eu slots o1.dst v,H.fk u,t+1⟩ a2:=by
  rw[← ha2,hd2];exact⟨jk.wf,jk.ku,jk.slots,jk.heap,jk.fresh⟩
 have hda:a2.defers=[{target:=.fn (.func g) ms.toArray,args:= #[]}]:=by
  rw[← ha2,hd2];show _::a1.defers=_;rw[hd1]
 have Ia:∀k∈S,G1.dom k:=by
  intro k hk;obtain⟨j,hj⟩:=List.mem_iff_getElem?.1 hk;obtain⟨o,o',e1,_,_⟩:=(jT hS).2 j k hj;exact(qG.heap k o e1).1
 have hlen:bq.length=S.length:=(jT hS).1
 have hv0:dU G1 caps ms:=⟨hl2,hp2⟩
 have apa:y5 C (G1.within S) w1 ⟨UR,dw 0 bq,0⟩ a2:=⟨AA qG.wf hn Ia,λx cs hx=>qG.ku x cs hx,dU.rn mq qG.slots GB,AB qG.heap hS,λp hp=>False.elim hp⟩
 have arQ:∀p,¬(G1.within S).dom (.loc p):=λp hp=>hp
 exact wp_mono (hy (G1.within S) w1 (G1.within S) w1 a2 arQ (Step.refl apa.wf _ _) apa) λex a' w' ⟨e,s,hq,hg⟩=>
  ak1 hq hg hda (dU.rn mq hv0 hcv) qG.wf hn Ia qG.fresh.not ak3 qG.ku
end
end Go.Abs
end
namespace Go.Proofs.YtfdnciimclnncaaGreatDoor.w.e
open Go Go.Abs Go.RowKit
set_option maxRecDepth 100000
set_option maxHeartbeats 2000000
noncomputable section
theorem ak4 (x1 x2:Value)(w:World):
 CallsD Tryz.prog 25 #[x1,x2] .returning w λe u' w'=>e=.returned (.tuple #[])/\u'=.returning/\w'=w:=by
 refine callsD_of_wpS Tryz.func25 rfl λc₀ cs hu=> ?_
 apply wpS_seq
 apply wpS_region
 simp[wpOpsS,go_sem,recoverD,hu,Tryz.ntmps25,Exit.thenS]
 show Code.wpS Tryz.prog _ _ {tmps:= #[x1,x2,Value.nilIface,Value.nilIface,undef,undef,undef,undef,undef,undef],defers:=[]} _ _
 refine wpS_of_wp ?_
 go_wp2
 exact⟨rfl,.returning,by cases c₀;simp_all,.tuple #[],results_none rfl _ _ _,rfl,rfl,rfl⟩
def zc:List TV:=[.t (.int .u8 0),.t (.bool false),.t (.int .i64 0),.t (.str []),.t (.str []),.bX,.bX]
noncomputable def US:Code:=match Tryz.f25.body with
 |some (.seq _ y)=>y
 |_=>.skip
noncomputable def ak5 (vc:List TV)(w0 wn:Int):St:=⟨eA 10 [(0,.ptr (.arg 0) 0),(1,.ptr (.arg 1) 0),(2,.t (.iface 60 (.agg [.int .i64 wn]))),(3,.t (.iface 60 (.agg [.int .i64 wn])))],[(.arg 0,.cells 32 vc),(.arg 1,.cells 37 [.t (.int .i64 w0)])],0⟩
theorem arR (m:Int)(w0 wn:Int):AW (cf m) US (ak5 zc w0 wn) (λe s=>e=.normal/\s=⟨eA 10 [],[(.arg 0,.cells 32 zc),(.arg 1,.cells 37 [.t (.int .i64 wn)])],0⟩):=by
 obtain⟨r,h⟩:=aiS (C:=cf m) (f:=0) (n:=3000) (once:=[]) (k:=10) (T:=0) (S:=[]) (ks:=[.arg 0,.arg 1]) (live:=[]) (K:=[.c US]) (e:=.normal) (s:=ak5 zc w0 wn) (Q:=λ(_:Unit) e s=>e=.normal/\s=⟨eA 10 [],[(.arg 0,.cells 32 zc),(.arg 1,.cells 37 [.t (.int .i64 wn)])],0⟩) ah (aF) .normal ⟨eA 10 [],[(.arg 0,.cells 32 zc),(.arg 1,.cells 37 [.t (.int .i64 wn)])],0⟩ [oT] (by kernel_rfl) (by kernel_rfl) ⟨(),rfl,rfl⟩;exact(AX.frames ⟨r,h⟩).elim λ_ h=>h
theorem apb:∀args w,(callFunc 25 args).run Tryz.prog w=.ok (.enter 25 args) w:=enters_of Tryz.func25 (by kernel_rfl) rfl
theorem adE (m:Int)(o0 o1:aP):O9 (cf m) 25 [.ptr (.arg 0) 0,.ptr (.arg 1) 0] [o0,o1] none [o0,o1]:=by
 intro G w vs u hw hg had hH hv hm;obtain rfl:u=.returning:=hm;obtain⟨x1,x2,rfl,h1,h2⟩:=hv.two;refine⟨apb _ _,(ak4 x1 x2 w).mono ?_⟩;rintro e u' w' ⟨rfl,rfl,rfl⟩;exact⟨.tuple #[],G,rfl,rfl,Step.refl hw _ _,rfl,js hH⟩
theorem agM (m:Int)(wn:Int):O9 (cf m) 25 [.ptr (.arg 0) 0,.ptr (.arg 1) 0] [.cells 32 zc,.cells 37 [.t (.int .i64 0)]] (some (.t (.iface 60 (.agg [.int .i64 wn])))) [.cells 32 zc,.cells 37 [.t (.int .i64 wn)]]:=by
 intro G w vs u hw hg had hH hv hm;obtain⟨pv,hpv,rfl⟩:=hm;obtain⟨x1,x2,rfl,h1,h2⟩:=hv.two;obtain⟨pv',rfl⟩:∃pv',pv=.iface 60 pv':=by
  cases hpv with|t _ _ h=>cases h;exact⟨_,rfl⟩
 refine⟨apb _ _, ?_⟩;refine callsD_of_wpS Tryz.func25 rfl λc₀ cs hu=> ?_
 apply wpS_seq;apply wpS_region;simp[wpOpsS,go_sem,recoverD,hu,Tryz.ntmps25,Exit.thenS];show Code.wpS Tryz.prog US _ {tmps:= #[x1,x2,Value.iface 60 pv',Value.iface 60 pv',undef,undef,undef,undef,undef,undef],defers:=[]} _ _;refine wpS_of_wp ?_;have hst:y5 (cf m) G w (ak5 zc 0 wn) {tmps:= #[x1,x2,Value.iface 60 pv',Value.iface 60 pv',undef,undef,undef,undef,undef,undef],defers:=[]}:=by
  refine⟨hw,hg, ?_, ?_,λp hp=>absurd hp (had.2 p)⟩
  ·exact .cons h1 (.cons h2 (.cons hpv (.cons hpv (.cons (.any _) (.cons (.any _) (.cons (.any _) (.cons (.any _) (.cons (.any _) (.cons (.any _) (.nil G))))))))))
  ·exact hH
 refine wp_mono (arR m 0 wn G w G w _ had.2 (Step.refl hw _ _) hst) ?_;rintro ex a' w' ⟨e,s,⟨rfl,rfl⟩,hgd⟩;obtain⟨rfl,hd,G1,hs1,jk⟩:=hgd.nS;refine⟨hd,.panicking [{v:=Value.iface 60 pv',recovered:=true}],rfl,.tuple #[],results_none rfl _ _ _,⟨_,rfl⟩,rfl,G1,hs1,λi o ho=> ?_⟩;skip;match i,ho with
 |0,ho=>cases ho;exact jk.heap _ _ rfl
 |1,ho=>cases ho;exact jk.heap _ _ rfl
noncomputable def bdy:Code:=Tryz.f11.body.getD .skip
noncomputable def sq1:Code->Code
 |.seq a _=>a
 |_=>.skip
noncomputable def UT:Code->Code
 |.seq _ b=>b
 |_=>.skip
noncomputable abbrev cY:Code:=UT (UT (UT (UT (UT bdy))))
theorem ak6:Tryz.f11.body=some (.seq (sq1 bdy) (.seq (sq1 (UT bdy)) (.seq (sq1 (UT (UT bdy))) (.seq (sq1 (UT (UT (UT bdy)))) (.seq (sq1 (UT (UT (UT (UT bdy))))) cY))))):=by kernel_rfl
theorem Wq {m:Int}{fn:Func}{n0:Nat}{r:br}{x y:Code}{st:St}{k T:Nat}{S ks:List Nm}{live:List Nat}{ev:bp}(aI:aC (cf m) ev)(s2:St)(obs:List (Ob ev))
 (h:bn (goK (cf m) 0 [] 100000 3000 [.c x] .normal st) (aeG k S ks live T) (vals obs)=some ((.normal,s2),[],vals obs))(kk:Yt (cf m) fn n0 r y s2):Yt (cf m) fn n0 r (.seq x y) st:=
 Yt.seq ((AX.frames (R:=Unit) (aiS ah aI (Q:=λ_ e s=>ah5 (cf m) fn n0 r y e s) .normal s2 obs rfl h ⟨(),kk⟩)).elim λ_ h=>h)
theorem adF (m:Int)(op n:Int)(s t:List UInt8)(ns ks:List Tree)(hE:T .aM (bf op n s t ns ks))(p1 p2 a1 a2 r1 r2:List UInt8)(qk:Int)(qb:Bool)(qn:Int)(qs qt:List UInt8)(qo ql:List Tree)(hQ:T .bP (lD p1 p2 a1 a2 r1 r2 qk qb qn qs qt qo ql))(l:List Tree)(hl:l.length<=4194304)(hl2:∀y∈l,T .bS y)(h1:R1 (cf m) 8 (bf op n s t ns ks) (.int .i64 0))(h2:R1 (cf m) 9 (lD p1 p2 a1 a2 r1 r2 qk qb qn qs qt qo ql) (.int .i64 0))(h3:R1 (cf m) 24 (.sl l) (.int .i64 0))(x:Tree)
 (hy:AW (cf m) cY ⟨eA 40 [(2,.t (.sl l)),(3,.ptr (.arg 0) 0),(4,.ptr (.arg 1) 0),(6,.ptr (.arg 2) 0),(7,.ptr (.arg 3) 0),(30,.fn (.func 25) [] [.ptr (.arg 2) 0,.ptr (.arg 3) 0])],dw 0 [.cells 26 (bg op n s t ns ks),.cells 34 (mD p1 p2 a1 a2 r1 r2 qk qb qn qs qt qo ql),.cells 32 zc,.cells 37 [.t (.int .i64 0)]],0⟩ (ak0 (cf m) Tryz.f11 25 [.ptr (.arg 2) 0,.ptr (.arg 3) 0] 4 x)):ai (cf m) 11 [.t (bf op n s t ns ks),.t (lD p1 p2 a1 a2 r1 r2 qk qb qn qs qt qo ql),.t (.sl l)] [] (.ret (.t x) [] []):=by
 obtain⟨ev,aI,K2,Sl,adC⟩:∃ev,aC (cf m) ev/\Has ev 8 (mW (λx=>x=(bf op n s t ns ks)) (λ_=>.int .i64 0))/\Has ev 9 (mW (λx=>x=(lD p1 p2 a1 a2 r1 r2 qk qb qn qs qt qo ql)) (λ_=>.int .i64 0))/\Has ev 24 (mW (λx=>x=.sl l) (λ_=>.int .i64 0)):=⟨_,(aq (bU (λx h=>by subst h;exact h1)) (aq (bU (λx h=>by subst h;exact h2)) (aq (bU (λx h=>by subst h;exact h3)) aF))),au,(az rfl au),(az rfl (az rfl au))⟩
 refine akZ (fn:=Tryz.f11) rfl ak6 (by decide) ?_
 refine Wq (k:=40) (T:=4) (S:=[.loc [0],.loc [1],.loc [2],.loc [3]]) (ks:=[.loc [0],.loc [1],.loc [2],.loc [3]]) (live:=[2,3,4,6,7]) aI ⟨eA 40 [(2,.t (.sl l)),(3,.ptr (.loc [0]) 0),(4,.ptr (.loc [1]) 0),(6,.ptr (.loc [2]) 0),(7,.ptr (.loc [3]) 0)],[(.loc [0],.cells 26 (bg op n s t ns ks)),(.loc [1],.cells 34 (mD p1 p2 a1 a2 r1 r2 qk qb qn qs qt qo ql)),(.loc [2],.cells 32 zc),(.loc [3],.cells 37 [.t (.int .i64 0)])],4⟩ [] (by kernel_rfl) ?_
 refine Wq (k:=40) (T:=4) (S:=[.loc [0],.loc [1],.loc [2],.loc [3]]) (ks:=[.loc [0],.loc [1],.loc [2],.loc [3]]) (live:=[2,3,4,6,7]) aI ⟨eA 40 [(2,.t (.sl l)),(3,.ptr (.loc [0]) 0),(4,.ptr (.loc [1]) 0),(6,.ptr (.loc [2]) 0),(7,.ptr (.loc [3]) 0)],[(.loc [0],.cells 26 (bg op n s t ns ks)),(.loc [1],.cells 34 (mD p1 p2 a1 a2 r1 r2 qk qb qn qs qt qo ql)),(.loc [2],.cells 32 zc),(.loc [3],.cells 37 [.t (.int .i64 0)])],4⟩ [oC (cE K2 (x:=(bf op n s t ns ks)) rfl),oF] (by kernel_rfl) ?_
 refine Wq (k:=40) (T:=4) (S:=[.loc [0],.loc [1],.loc [2],.loc [3]]) (ks:=[.loc [0],.loc [1],.loc [2],.loc [3]]) (live:=[2,3,4,6,7]) aI ⟨eA 40 [(2,.t (.sl l)),(3,.ptr (.loc [0]) 0),(4,.ptr (.loc [1]) 0),(6,.ptr (.loc [2]) 0),(7,.ptr (.loc [3]) 0)],[(.loc [0],.cells 26 (bg op n s t ns ks)),(.loc [1],.cells 34 (mD p1 p2 a1 a2 r1 r2 qk qb qn qs qt qo ql)),(.loc [2],.cells 32 zc),(.loc [3],.cells 37 [.t (.int .i64 0)])],4⟩ [oC (cE Sl (x:=(lD p1 p2 a1 a2 r1 r2 qk qb qn qs qt qo ql)) rfl),oF] (by kernel_rfl) ?_
 refine Wq (k:=40) (T:=4) (S:=[.loc [0],.loc [1],.loc [2],.loc [3]]) (ks:=[.loc [0],.loc [1],.loc [2],.loc [3]]) (live:=[2,3,4,6,7]) aI ⟨eA 40 [(2,.t (.sl l)),(3,.ptr (.loc [0]) 0),(4,.ptr (.loc [1]) 0),(6,.ptr (.loc [2]) 0),(7,.ptr (.loc [3]) 0)],[(.loc [0],.cells 26 (bg op n s t ns ks)),(.loc [1],.cells 34 (mD p1 p2 a1 a2 r1 r2 qk qb qn qs qt qo ql)),(.loc [2],.cells 32 zc),(.loc [3],.cells 37 [.t (.int .i64 0)])],4⟩ [oC (cE adC (x:=.sl l) rfl),oF] (by kernel_rfl) ?_
 exact Yt.defer (ev:=ev) aI (f:=0) (S:=[.loc [0],.loc [1],.loc [2],.loc [3]]) (v:=.fn (.func 25) [] [.ptr (.loc [2]) 0,.ptr (.loc [3]) 0]) (u:=[]) (caps:=[.ptr (.loc [2]) 0,.ptr (.loc [3]) 0]) (g:=25) (by kernel_rfl) (by kernel_rfl) rfl rfl rfl (by kernel_rfl) (by decide) (by kernel_rfl) (by kernel_rfl) (by kernel_rfl) hy
def exQ (r:GoR):aR:=match r with
 |some ((_,e,_),_,_)=>e
 |none=>.normal
def stQ (r:GoR):St:=match r with
 |some ((_,_,s),_,_)=>s
 |none=>⟨[],[],0⟩
theorem UU {C:ew}{Q:aR->St->Prop}(e:aR)(s:St):KE C Q [] e s=Q e s:=by kernel_rfl
theorem apc {C:ew}{ev:bp}{f:FuncId}(hm:C.P.prog.follows .mixedOrders=true)(aI:aC C ev){K:List Fr}{e:aR}{s:St}{Q:aR->St->Prop}(obs:List (Ob ev))(h:QF (goK C f [] 100000 3000 K e s (vals obs))=some ([],vals obs))
 (k:Q (exQ (goK C f [] 100000 3000 K e s (vals obs))) (stQ (goK C f [] 100000 3000 K e s (vals obs)))):KE C Q K e s:=by
 have hv:=ou obs
 cases hg:goK C f [] 100000 3000 K e s (vals obs) with
 |none=>rw[hg] at h;cases h
 | some q=>
  obtain⟨⟨K',e',s'⟩,c,em⟩:=q
  rw[hg] at h k
  cases K' with
  |cons=>cases h
  |nil=>
   cases e' with
   |normal=>cases h
   |exit i=>cases h;exact r5 hm aI _ _ _ _ _ _ _ _ hg hv Q (cast (UU _ _).symm k)
   |ret=>cases h;exact r5 hm aI _ _ _ _ _ _ _ _ hg hv Q (cast (UU _ _).symm k)
   |panic v=>cases h;exact r5 hm aI _ _ _ _ _ _ _ _ hg hv Q (cast (UU _ _).symm k)
theorem UW (m:Int)(op n:Int)(s t:List UInt8)(ns ks:List Tree)(hE:T .aM (bf op n s t ns ks))(p1 p2 a1 a2 r1 r2:List UInt8)(qk:Int)(qb:Bool)(qn:Int)(qs qt:List UInt8)(qo ql:List Tree)(hQ:T .bP (lD p1 p2 a1 a2 r1 r2 qk qb qn qs qt qo ql))(l:List Tree)(hl:l.length<=4194304)(hl2:∀y∈l,T .bS y)(h1:R1 (cf m) 8 (bf op n s t ns ks) (.int .i64 0))(h2:R1 (cf m) 9 (lD p1 p2 a1 a2 r1 r2 qk qb qn qs qt qo ql) (.int .i64 0))(h3:R1 (cf m) 24 (.sl l) (.int .i64 0))(r:Tree ⊕ Int)(hr:ai (cf m) 27 [.ptr (.arg 0) 0,.t (bf op n s t ns ks),.map (.arg 1)] (IC ⟨p1,p2,a1,a2,r1,r2,qk,qb,qn,qs,qt,qo,ql,l⟩) (aL r (IC ⟨p1,p2,a1,a2,r1,r2,qk,qb,qn,qs,qt,qo,ql,l⟩)))(k:Int)(b:Bool)(nn:Int)(ss tt:List UInt8)(N L:List Tree)(hrr:r=.inl (aA k b nn ss tt N L))(hv:T .av (aA k b nn ss tt N L)):ai (cf m) 11 [.t (bf op n s t ns ks),.t (lD p1 p2 a1 a2 r1 r2 qk qb qn qs qt qo ql),.t (.sl l)] [] (.ret (.t (.cG [(aA k b nn ss tt N L),.int .i64 0])) [] []):=by
 refine adF m op n s t ns ks hE p1 p2 a1 a2 r1 r2 qk qb qn qs qt qo ql hQ l hl hl2 h1 h2 h3 _ ?_;obtain⟨ev,aI,BB,Yh,Ho⟩:∃ev,aC (cf m) ev/\Has ev 28 (px [] [] (.ret (.map (.loc [1])) [] [(.loc [1],.map aQ 26)]))/\Has ev 27 (px [.ptr (.arg 0) 0,.t (bf op n s t ns ks),.map (.arg 1)] (IC ⟨p1,p2,a1,a2,r1,r2,qk,qb,qn,qs,qt,qo,ql,l⟩) (aL r (IC ⟨p1,p2,a1,a2,r1,r2,qk,qb,qn,qs,qt,qo,ql,l⟩)))/\Has ev 26 (mW (λx=>T .av x) (λx=>x)):=⟨_,(aq (fU (E7 m)) (aq (fU hr) (aq (bU (V1 m)) aF))),au,(az rfl au),(az rfl (az rfl au))⟩;have zh1:=show ev 27 [.ptr (.arg 0) 0,.t (bf op n s t ns ks),.map (.arg 1)] (IC ⟨p1,p2,a1,a2,r1,r2,qk,qb,qn,qs,qt,qo,ql,l⟩)=some (aL (.inl (aA k b nn ss tt N L)) (IC ⟨p1,p2,a1,a2,r1,r2,qk,qb,qn,qs,qt,qo,ql,l⟩)) from(jm Yh).trans (by rw[hrr]);have zh2:=cE Ho (x:=(aA k b nn ss tt N L)) hv;refine(AX.frames (R:=Unit) ⟨(),apc (f:=0) ah aI [oC (jm BB),oN (o:=.map aQ 26) aZ,oN (o:=.map aQ 26) aZ,oN (o:=.map aQ 26) aZ,oC zh1,oN (o:=.map aQ 26) aZ,oC zh2] (by kernel_rfl) ?_⟩).elim λ_ h=>h
 have hx:exQ (goK (cf m) 0 [] 100000 3000 [.c cY] .normal ⟨eA 40 [(2,.t (.sl l)),(3,.ptr (.arg 0) 0),(4,.ptr (.arg 1) 0),(6,.ptr (.arg 2) 0),(7,.ptr (.arg 3) 0),(30,.fn (.func 25) [] [.ptr (.arg 2) 0,.ptr (.arg 3) 0])],dw 0 [.cells 26 (bg op n s t ns ks),.cells 34 (mD p1 p2 a1 a2 r1 r2 qk qb qn qs qt qo ql),.cells 32 zc,.cells 37 [.t (.int .i64 0)]],0⟩ (vals ([oC (jm BB),oN (o:=.map aQ 26) aZ,oN (o:=.map aQ 26) aZ,oN (o:=.map aQ 26) aZ,oC zh1,oN (o:=.map aQ 26) aZ,oC zh2]:List (Ob ev))))=.ret:=by kernel_rfl
 refine⟨λi=>(by rw[hx];exactλh=>(by cases h)),[.arg 2,.arg 3],[.ptr (.arg 0) 0,.ptr (.arg 1) 0],[.cells 32 (cF k b nn ss tt N L),.cells 37 [.t (.int .i64 0)]],[.cells 32 (cF k b nn ss tt N L),.cells 37 [.t (.int .i64 0)]],[(.arg 2,.cells 32 (cF k b nn ss tt N L)),(.arg 3,.cells 37 [.t (.int .i64 0)])],[.cells 26 (bg op n s t ns ks),.cells 34 (mD p1 p2 a1 a2 r1 r2 qk qb qn qs qt qo ql),.cells 32 (cF k b nn ss tt N L),.cells 37 [.t (.int .i64 0)]],[],none,by decide,by kernel_rfl,by kernel_rfl,λt=>by kernel_rfl,λt=>by kernel_rfl,by kernel_rfl,adE m _ _⟩
theorem UX (m:Int)(op n:Int)(s t:List UInt8)(ns ks:List Tree)(hE:T .aM (bf op n s t ns ks))(p1 p2 a1 a2 r1 r2:List UInt8)(qk:Int)(qb:Bool)(qn:Int)(qs qt:List UInt8)(qo ql:List Tree)(hQ:T .bP (lD p1 p2 a1 a2 r1 r2 qk qb qn qs qt qo ql))(l:List Tree)(hl:l.length<=4194304)(hl2:∀y∈l,T .bS y)(h1:R1 (cf m) 8 (bf op n s t ns ks) (.int .i64 0))(h2:R1 (cf m) 9 (lD p1 p2 a1 a2 r1 r2 qk qb qn qs qt qo ql) (.int .i64 0))(h3:R1 (cf m) 24 (.sl l) (.int .i64 0))(r:Tree ⊕ Int)(hr:ai (cf m) 27 [.ptr (.arg 0) 0,.t (bf op n s t ns ks),.map (.arg 1)] (IC ⟨p1,p2,a1,a2,r1,r2,qk,qb,qn,qs,qt,qo,ql,l⟩) (aL r (IC ⟨p1,p2,a1,a2,r1,r2,qk,qb,qn,qs,qt,qo,ql,l⟩)))(w:Int)(hrr:r=.inr w):ai (cf m) 11 [.t (bf op n s t ns ks),.t (lD p1 p2 a1 a2 r1 r2 qk qb qn qs qt qo ql),.t (.sl l)] [] (.ret (.t (.cG [zeroV,.int .i64 w])) [] []):=by
 refine adF m op n s t ns ks hE p1 p2 a1 a2 r1 r2 qk qb qn qs qt qo ql hQ l hl hl2 h1 h2 h3 _ ?_;obtain⟨ev,aI,BB,Yh,Ho⟩:∃ev,aC (cf m) ev/\Has ev 28 (px [] [] (.ret (.map (.loc [1])) [] [(.loc [1],.map aQ 26)]))/\Has ev 27 (px [.ptr (.arg 0) 0,.t (bf op n s t ns ks),.map (.arg 1)] (IC ⟨p1,p2,a1,a2,r1,r2,qk,qb,qn,qs,qt,qo,ql,l⟩) (aL r (IC ⟨p1,p2,a1,a2,r1,r2,qk,qb,qn,qs,qt,qo,ql,l⟩)))/\Has ev 26 (mW (λx=>T .av x) (λx=>x)):=⟨_,(aq (fU (E7 m)) (aq (fU hr) (aq (bU (V1 m)) aF))),au,(az rfl au),(az rfl (az rfl au))⟩;have zh3:=show ev 27 [.ptr (.arg 0) 0,.t (bf op n s t ns ks),.map (.arg 1)] (IC ⟨p1,p2,a1,a2,r1,r2,qk,qb,qn,qs,qt,qo,ql,l⟩)=some (aL (.inr w) (IC ⟨p1,p2,a1,a2,r1,r2,qk,qb,qn,qs,qt,qo,ql,l⟩)) from(jm Yh).trans (by rw[hrr]);refine(AX.frames (R:=Unit) ⟨(),apc (f:=0) ah aI [oC (jm BB),oN (o:=.map aQ 26) aZ,oN (o:=.map aQ 26) aZ,oN (o:=.map aQ 26) aZ,oC zh3] (by kernel_rfl) ?_⟩).elim λ_ h=>h
 have hx:exQ (goK (cf m) 0 [] 100000 3000 [.c cY] .normal ⟨eA 40 [(2,.t (.sl l)),(3,.ptr (.arg 0) 0),(4,.ptr (.arg 1) 0),(6,.ptr (.arg 2) 0),(7,.ptr (.arg 3) 0),(30,.fn (.func 25) [] [.ptr (.arg 2) 0,.ptr (.arg 3) 0])],dw 0 [.cells 26 (bg op n s t ns ks),.cells 34 (mD p1 p2 a1 a2 r1 r2 qk qb qn qs qt qo ql),.cells 32 zc,.cells 37 [.t (.int .i64 0)]],0⟩ (vals ([oC (jm BB),oN (o:=.map aQ 26) aZ,oN (o:=.map aQ 26) aZ,oN (o:=.map aQ 26) aZ,oC zh3]:List (Ob ev))))=.panic (.t (.iface 60 (.agg [.int .i64 w]))):=by kernel_rfl
 refine⟨λi=>(by rw[hx];exactλh=>(by cases h)),[.arg 2,.arg 3],[.ptr (.arg 0) 0,.ptr (.arg 1) 0],[.cells 32 zc,.cells 37 [.t (.int .i64 0)]],[.cells 32 zc,.cells 37 [.t (.int .i64 w)]],[(.arg 2,.cells 32 zc),(.arg 3,.cells 37 [.t (.int .i64 w)])],[.cells 26 (bg op n s t ns ks),.cells 34 (mD p1 p2 a1 a2 r1 r2 qk qb qn qs qt qo ql),.cells 32 zc,.cells 37 [.t (.int .i64 w)]],[],some (.t (.iface 60 (.agg [.int .i64 w]))),by decide,by kernel_rfl,by kernel_rfl,λt=>by kernel_rfl,λt=>by kernel_rfl,by kernel_rfl,agM m w⟩
end
end Go.Proofs.YtfdnciimclnncaaGreatDoor.w.e
namespace Go.Proofs.YtfdnciimclnncaaGreatDoor.w.e
open Go Go.Abs
set_option maxRecDepth 100000
set_option maxHeartbeats 2000000
noncomputable section
open Go.Abs.Ty
def adG:Tree->Tree->Sc
 |.agg [.str p1,.str p2,.str a1,.str a2,.str r1,.str r2,.int _ k,.bool b,.int _ n,.str s,.str t,.sl ns,.sl l],.sl row=>⟨p1,p2,a1,a2,r1,r2,k,b,n,s,t,ns,l,row⟩
 |_,_=>⟨[],[],[],[],[],[],0,false,0,[],[],[],[],[]⟩
theorem apd (m:Int){x:Tree}(hx:T .aM x):∃n,Dx (n+1) x:=by
 obtain⟨n,h,_⟩:=ah4 m hx;cases n with
 |zero=>exact h.elim
 |succ n=>exact⟨n,h⟩
open Classical in
noncomputable def dep (x:Tree):Nat:=if h:∃n,Dx (n+1) x then h.choose+1 else 0
theorem adH (m:Int){x:Tree}(hx:T .aM x):∃n,dep x=n+1/\Dx (n+1) x:=by
 have h:=apd m hx;exact⟨h.choose,by unfold dep;rw[dif_pos h],h.choose_spec⟩
noncomputable def K3 (m:Int)(q:Sc)(e:Tree):Tree ⊕ Int:=evN m q (dep e) e
def arS (r:Tree ⊕ Int):Tree×Int:=match r with
 |.inl v=>(v,0)
 |.inr w=>(zeroV,w)
noncomputable def ID (m:Int)(x y z:Tree):Tree×Int:=if SH m x≠0 then(zeroV,SH m x) else if qcF m y≠0 then(zeroV,qcF m y) else if Yi m z≠0 then(zeroV,Yi m z) else arS (K3 m (adG y z) x)
theorem UY {y z:Tree}(hy:T .bP y)(hz:T .aN z):SD (adG y z):=by
 obtain⟨p1,p2,a1,a2,r1,r2,k,b,n,s,t,ns,l,rfl,g1,g2,g3,g4,g5,g6,g7,g8,g9,g10,g11,g12⟩:=T.kK hy;obtain⟨row,rfl,hl,hl2⟩:=T.eL hz;exact⟨⟨.av _ _ _ _ _ _ _ g7 g8 g9 g10 g11 g12,g1,g2,g3,g4,g5,g6⟩,hl,hl2⟩
theorem Sm (m:Int){q:Sc}(hs:SD q){e:Tree}(hE:T .aM e)(hR:Rt e):∃n,dep e=n+1/\Dx (n+1) e/\CF m q (evN m q n) e (K3 m q e):=by
 obtain⟨n,h1,h2⟩:=adH m hE;refine⟨n,h1,h2, ?_⟩;unfold K3;rw[h1];exact UO m q hs n e h2 hE hR
theorem MZ {m:Int}{g:FuncId}{x:Tree}{k:Int}(h:k=0)(hr:R1 (cf m) g x (.int .i64 k)):R1 (cf m) g x (.int .i64 0):=h▸hr
theorem IE:T .av zeroV:=.av _ _ _ _ _ _ _ (by simp) (by simp) (by simp) (λ_ h=>by cases h) (by simp) (λ_ h=>by cases h)
theorem Wr (m:Int){x y z:Tree}(hx:T .aM x)(hy:T .bP y)(hz:T .aN z):R3 (cf m) 11 x y z (.cG [(ID m x y z).1,.int .i64 (ID m x y z).2])/\T .av (ID m x y z).1:=by
 have hs:=UY hy hz;obtain⟨op,n,s,t,ns,ks,rfl,_⟩:=T.bO hx;obtain⟨p1,p2,a1,a2,r1,r2,qk,qb,qn,qs,qt,qo,ql,rfl,_⟩:=T.kK hy;obtain⟨l,rfl,hl,hl2⟩:=T.eL hz;unfold ID;by_cases h1:SH m (bf op n s t ns ks)=0
 ·rw[ if_neg (by simpa using h1)];by_cases h2:qcF m (lD p1 p2 a1 a2 r1 r2 qk qb qn qs qt qo ql)=0
  ·rw[ if_neg (by simpa using h2)];by_cases h3:Yi m (.sl l)=0
   ·rw[if_neg (by simpa using h3)];obtain⟨d,_,_,hc,hty,_⟩:=Sm m hs hx (UP m hx h1);cases hrr:K3 m (adG (lD p1 p2 a1 a2 r1 r2 qk qb qn qs qt qo ql) (.sl l)) (bf op n s t ns ks) with
    | inl v=>
      have hv:=hty.1 v hrr
      obtain⟨k,b,nn,ss,tt,N,L,rfl,_⟩:=T.aD hv
      exact⟨UW m op n s t ns ks hx p1 p2 a1 a2 r1 r2 qk qb qn qs qt qo ql hy l hl hl2 (MZ h1 (K1 m _ hx)) (MZ h2 (O7 m _ hy)) (MZ h3 (UQ m _ hz)) _ hc k b nn ss tt N L hrr hv,hv⟩
    |inr w=>exact⟨UX m op n s t ns ks hx p1 p2 a1 a2 r1 r2 qk qb qn qs qt qo ql hy l hl hl2 (MZ h1 (K1 m _ hx)) (MZ h2 (O7 m _ hy)) (MZ h3 (UQ m _ hz)) _ hc w hrr,IE⟩
   ·rw[if_pos h3];exact⟨agK m op n s t ns ks hx p1 p2 a1 a2 r1 r2 qk qb qn qs qt qo ql hy l hl hl2 h1 h2 h3,IE⟩
  ·rw[if_pos h2];exact⟨agJ m op n s t ns ks hx p1 p2 a1 a2 r1 r2 qk qb qn qs qt qo ql hy l hl hl2 h1 h2,IE⟩
 ·rw[if_pos h1];exact⟨agI m op n s t ns ks hx p1 p2 a1 a2 r1 r2 qk qb qn qs qt qo ql hy l hl hl2 h1,IE⟩
end
end Go.Proofs.YtfdnciimclnncaaGreatDoor.w.e
namespace Go.Proofs.YtfdnciimclnncaaGreatDoor.w.e
open Go Go.Abs
set_option maxRecDepth 100000
set_option maxHeartbeats 2000000
noncomputable section
def Yu (r:Tree×Int):Bool×Int:=cond (r.2 != 0) (false,r.2) (cond (jq r.1 != 0) (false,7) (ni r.1,0))
theorem adI (m:Int)(x y z:Tree)(hx:T .aM x)(hy:T .bP y)(hz:T .aN z):∃r:{r:Bool×Int // r=Yu (ID m x y z)},R3 (cf m) 10 x y z (.cG [.bool r.1.1,.int .i64 r.1.2]):=by
 have bu:=hx;obtain⟨bY,n_1,s_1,dA,aV,bR,rfl,cT,cQ,gh,dX,fM,fe,jQ⟩:=T.bO bu;have dz:=hy;obtain⟨qX,uz,wg,Ao,sC,wh,uA,Ap,Aq,Ar,Au,sD,uB,rfl,iA,lU,x8,vM,x9,tU,abz,ajh,aji,ajj,aqw,aqx⟩:=T.kK dz;have jv:=hz;obtain⟨v_3,rfl,uk,um⟩:=T.eL jv;obtain⟨ev,aI,ak7⟩:∃ev,aC (cf m) ev/\Has ev 11 (pc3 (λx y z=>T .aM x/\T .bP y/\T .aN z) (λx y z=>.cG [(ID m x y z).1,.int .i64 (ID m x y z).2])):=⟨_,(aq (NP (λx y z h=>(Wr m h.1 h.2.1 h.2.2).1)) aF),au⟩;refine AX.start 27 3 Tryz.func10 rfl (by decide) rfl rfl (by decide) ?_;refine AX.frames ?_;obtain⟨g_4,UL,agN,arT⟩:∃g w,ID m (bf bY n_1 s_1 dA aV bR) (lD qX uz wg Ao sC wh uA Ap Aq Ar Au sD uB) (.sl v_3)=(g,w)/\T .av g:=⟨_,_,rfl,(Wr m bu dz jv).2⟩;have nV:=arT;obtain⟨ez,o5,rN,By,qg,fB,gY,rfl,ya,Cd,Ku,Kv,Kw,Ky⟩:=T.aD nV;have ak8:=show ev 11 [.t (bf bY n_1 s_1 dA aV bR),.t (lD qX uz wg Ao sC wh uA Ap Aq Ar Au sD uB),.t (.sl v_3)] []=some (br.ret (.t (.cG [(aA ez o5 rN By qg fB gY),.int .i64 UL])) [] []) from(aen ak7 (x:=(bf bY n_1 s_1 dA aV bR)) (y:=(lD qX uz wg Ao sC wh uA Ap Aq Ar Au sD uB)) (z:=(.sl v_3)) ⟨bu,dz,jv⟩).trans (congrArg (λz:Tree×Int=>some (br.ret (.t (.cG [z.1,.int .i64 z.2])) [] [])) agN);rcases aK ((UL != 0)) with nI|nI
 ·have F7:=dI nI;refine⟨⟨(false,UL),(by rw[agN];simp only[Yu,jq,ni,nI,cond_true,cond_false])⟩,kf ah [oC ak8,oB nI]⟩
 ·have F7:=cg nI;rcases aK ((ez != 0)) with gx|gx
  ·have nW:=dI gx;refine⟨⟨(false,7),(by rw[agN];simp only[Yu,jq,ni,nI,gx,cond_true,cond_false])⟩,kf ah [oC ak8,oB nI,oB gx]⟩
  ·have nW:=cg gx;refine⟨⟨(o5,0),(by rw[agN];simp only[Yu,jq,ni,nI,gx,cond_true,cond_false])⟩,kf ah [oC ak8,oB nI,oB gx]⟩
end
end Go.Proofs.YtfdnciimclnncaaGreatDoor.w.e
namespace Go.Proofs.YtfdnciimclnncaaGreatDoor.w.e
open Go Go.Abs
set_option maxRecDepth 100000
noncomputable section
open Go.Abs.Ty
theorem adJ {op:Int}{ks:List Tree}(h0:0<=op)(h1:ks.length<=4194304)(h:∀k∈ks,T .aM k):T .aM (kj op ks):=.aM _ _ _ _ _ _ h0 (by simp) (by simp) (by simp) (λ_ h=>by cases h) h1 h
theorem adK {op:Int}{a b:Tree}(h0:0<=op)(h:T .aM a)(h2:T .aM b):T .aM (kj op [a,b]):=adJ h0 (by simp) (by simpa using ⟨h,h2⟩)
theorem Gy (m:Int){q:Sc}(hs:SD q){e:Tree}(hE:T .aM e)(hR:Rt e):CF m q (K3 m q) e (K3 m q e):=by
 obtain⟨n,h1,h2,h3⟩:=Sm m hs hE hR;rwa [KZ hR (g:=K3 m q) λk hk=> ?_] at h3;obtain⟨d,g1,g2⟩:=adH m (UN hE k hk);show _=evN m q (dep k) k;rw[g1];exact K0 m q n (d+1) k (h2 k hk) g2 (Fa hR k hk)
theorem agO (m:Int){q:Sc}(hs:SD q){op:Int}{a b:Tree}(hE:T .aM (kj op [a,b]))(hR:Rt (kj op [a,b]))(SB:op≠14)(Qx:op≠15)(h16:op≠16):
 (∃w,K3 m q a=.inr w/\K3 m q (kj op [a,b])=.inr w)\/(∃v w,K3 m q a=.inl v/\K3 m q b=.inr w/\K3 m q (kj op [a,b])=.inr w)\/
 ∃v u,K3 m q a=.inl v/\K3 m q b=.inl u/\T .av v/\T .av u/\QO m q (kj op [a,b]) [v,u] (K3 m q (kj op [a,b])):=by
 have h:=(Gy m hs hE hR).2.2.2.2 SB Qx h16
 have h:EvO m q (K3 m q) (kj op [a,b]) [a,b] _:=h
 unfold EvO iN at h
 cases ha:K3 m q a with
 |inr w=>
  rw[ha] at h
  rcases h with ⟨w',h1,h2⟩|⟨l,h1,_⟩
  · cases h1;exact .inl ⟨w,rfl,h2⟩
  · cases h1
 | inl v=>
  rw[ha] at h
  unfold iN at h
  cases hb:K3 m q b with
  |inr w=>
   rw[hb] at h
   rcases h with ⟨w',h1,h2⟩|⟨l,h1,_⟩
   · cases h1;exact .inr (.inl ⟨v,w,rfl,rfl,h2⟩)
   · cases h1
  |inl u=>
   rw[hb] at h
   rcases h with ⟨w',h1,h2⟩|⟨l,h1,_,hT,hQ⟩
   · cases h1
   · cases h1;exact .inr (.inr ⟨v,u,rfl,rfl,hT v List.mem_cons_self,hT u (by simp),hQ⟩)
theorem ak9 (m:Int){q:Sc}(hs:SD q){e:Tree}(hE:T .aM e)(hR:Rt e):Sj (K3 m q e):=(Gy m hs hE hR).2.1
theorem agP {m:Int}{x y z:Tree}(hx:T .aM x)(hy:T .bP y)(hz:T .aN z)(h:(ID m x y z).2=0):SH m x=0/\qcF m y=0/\Yi m z=0/\K3 m (adG y z) x=.inl (ID m x y z).1:=by
 unfold ID at h ⊢;by_cases h1:SH m x=0
 ·rw[ if_neg (by simpa using h1)] at h ⊢;by_cases h2:qcF m y=0
  ·rw[if_neg (by simpa using h2)] at h ⊢;by_cases h3:Yi m z=0
   ·rw[if_neg (by simpa using h3)] at h ⊢;refine⟨h1,h2,h3, ?_⟩;have ht:=ak9 m (UY hy hz) hx (UP m hx h1);cases hr:K3 m (adG y z) x with
    |inl v=>rfl
    |inr w=>rw[hr] at h ht;exact absurd h (ht.2 w rfl)
   ·rw[if_pos h3] at h;exact absurd h h3
  ·rw[if_pos h2] at h;exact absurd h h2
 ·rw[if_pos h1] at h;exact absurd h h1
theorem agQ {w:Int}(v:Tree)(h:w≠0):Yu (v,w)=(false,w):=by
 show cond (w != 0) _ _=_;rw[bne_iff_ne.mpr h];rfl
theorem Pb {s t:List UInt8}(hs:s.length<=4194304)(ht:t.length<=4194304):T .aM (ux s t):=.aM _ _ _ _ _ _ (by decide) hs ht (by simp) (λ_ h=>by cases h) (by simp) (λ_ h=>by cases h)
def Ws (s t s2 t2:List UInt8):Tree:=kj 23 [ux s t,ux s2 t2]
theorem ah9 {s t s2 t2:List UInt8}(hs:s.length<=4194304)(ht:t.length<=4194304)(hs2:s2.length<=4194304)(ht2:t2.length<=4194304):T .aM (Ws s t s2 t2):=adK (by decide) (Pb hs ht) (Pb hs2 ht2)
theorem agR (m:Int){x:Tree}(hx:T .aM x)(h:SH m x=0):q8 m x=true/\∀k∈mB x,q8 m k=true:=by
 obtain⟨n,hd,e⟩:=ah4 m hx;rw[e,Xc] at h;have h1:=h.1;cases n with
 |zero=>exact absurd (show false=true from h1) (by decide)
 |succ n=>
  rw[Zj] at h1
  refine⟨h1.1,λk hk=> ?_⟩
  have h2:=h1.2 k hk
  cases n with
  |zero=>exact absurd (show false=true from h2) (by decide)
  |succ n=>exact((Zj ..).1 h2).1
theorem Wt (m:Int){q:Sc}(hs:SD q){s t:List UInt8}(hE:T .aM (ux s t))(hR:Rt (ux s t)):K3 m q (ux s t)=.inl (ajQ s t):=by
 have h:=(Gy m hs hE hR).2.2.2.2 (show(4:Int)≠14 by decide) (show(4:Int)≠15 by decide) (show(4:Int)≠16 by decide);have h:EvO m q (K3 m q) (ux s t) [] _:=h;unfold EvO iN at h;rcases h with ⟨w,h1,h2⟩|⟨l,h1,_,hT,hQ⟩
 ·cases h1
 ·exact hQ.2.2.2.2.2.2.2.1 rfl
theorem adL (m:Int){x y:Tree}(hx:T .aN x)(hy:T .aB y)(hc:Yi m x=0)(hu:Yq m y=0)(v:Tree):v∈(KR m x y).1↔vp (p8 (nh m) (iq x)) [y] v:=(Classical.choose_spec (yB m) x y ⟨hx,hy⟩).2.2.2 hc hu v
theorem kG (m:Int){s t s2 t2:List UInt8}{y z:Tree}(hs:s.length<=4194304)(ht:t.length<=4194304)(hs2:s2.length<=4194304)(ht2:t2.length<=4194304)(hy:T .bP y)(hz:T .aN z):
 (∃w,w≠0/\Yu (ID m (Ws s t s2 t2) y z)=(false,w))\/∃b,Yu (ID m (Ws s t s2 t2) y z)=(b,0)/\Yi m z=0/\(b=true↔vp (p8 (nh m) (iq z)) [.agg [.str t,.str s]] (.agg [.str t2,.str s2])):=by
 have hx:=ah9 hs ht hs2 ht2
 have hs0:=UY hy hz
 by_cases h:(ID m (Ws s t s2 t2) y z).2=0
 ·obtain⟨h1,h2,h3,h4⟩:=agP hx hy hz h;have hR:=UP m hx h1;have hb:∀k∈[ux s t,ux s2 t2],q8 m k=true:=(agR m hx h1).2;have hk:∀k∈[ux s t,ux s2 t2],Rt k:=Fa hR;have hu:=af7 hs ht (hb _ List.mem_cons_self);rw[show ID m (Ws s t s2 t2) y z=((ID m (Ws s t s2 t2) y z).1,0) from Prod.ext rfl h];have e1:=Wt m hs0 (Pb hs ht) (hk _ List.mem_cons_self);have e2:=Wt m hs0 (Pb hs2 ht2) (hk _ (List.mem_cons_of_mem _ List.mem_cons_self));rcases agO m hs0 hx hR (by decide) (by decide) (by decide) with ⟨w,h5,_⟩|⟨v,w,_,h5,_⟩|⟨v,u,h5,h6,_,_,hQ⟩
  ·rw[e1] at h5;cases h5
  ·rw[e2] at h5;cases h5
  ·rw[e1] at h5;cases h5;rw[e2] at h6;cases h6;obtain⟨b,h7,h8⟩:=hQ.2.2.2.2.2.2.2.2 rfl rfl _ h4;refine .inr ⟨b,by rw[h7];rfl,h3, ?_⟩;rw[h8];obtain⟨l,rfl,_⟩:=T.eL hz;obtain⟨_,_,_,_,_,_,_,_,_,_,_,_,_,rfl,_⟩:=T.kK hy;exact adL m hz (.aB _ _ ht hs) h3 hu _
 ·refine .inl ⟨_,h, ?_⟩;rw[show ID m (Ws s t s2 t2) y z=((ID m (Ws s t s2 t2) y z).1,(ID m (Ws s t s2 t2) y z).2) from rfl];exact agQ _ h
theorem agS (m:Int){a b z:Tree}(ha:T .aB a)(hz:T .aN z)(hc:Yi m z=0)(h1:vp (p8 (nh m) (iq z)) [a] b)(h2:vp (p8 (nh m) (iq z)) [b] a):b=a:=by
 refine aq9 ((Classical.choose_spec (s9 m) z hz).2 hc).2 (λhne=> ?_) h1 h2;obtain⟨l,rfl,_⟩:=T.eL hz;obtain⟨k,e1,e2⟩:=(Classical.choose_spec (D7 m) (.sl l) a ⟨hz,ha⟩).2;have e1:(nh m (.sl l) a).1=(k:Int):=e1;cases hb:(nh m (.sl l) a).2 with
 |false=>exact absurd (DX (k:=(k:Int)) (Prod.ext e1 hb)) hne
 |true=>
  obtain⟨e,he,hu⟩:=e2 hb
  exact⟨e,fT he,hu,DY (Prod.ext e1 hb) he⟩
end
end Go.Proofs.YtfdnciimclnncaaGreatDoor.w.e
namespace Go.Proofs.YtfdnciimclnncaaGreatDoor.w.e
open Go Go.Abs
set_option maxRecDepth 100000
set_option maxHeartbeats 2000000
noncomputable section
open Go.Abs.Ty
def rB (z:Bool×Int):Option br:=some (.ret (.t (.cG [.bool z.1,.int .i64 z.2])) [] [])
end
end Go.Proofs.YtfdnciimclnncaaGreatDoor.w.e
