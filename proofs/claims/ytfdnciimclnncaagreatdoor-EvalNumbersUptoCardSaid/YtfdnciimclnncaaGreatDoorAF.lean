/- scene.eval: a step. -/
import Derived.Test.YtfdnciimclnncaaGreatDoorAE
import Derived.Test.YtfdnciimclnncaaGreatDoorZ
import Derived.Test.YtfdnciimclnncaaGreatDoorAC
import Derived.Test.YtfdnciimclnncaaGreatDoorR
import Derived.Defers
import Derived.Recover
set_option linter.unusedVariables false
set_option linter.unusedSimpArgs false
namespace Go.Proofs.YtfdnciimclnncaaGreatDoor.w.e
open Go Go.Abs
set_option maxRecDepth 100000
set_option maxHeartbeats 2000000
noncomputable section
theorem mP {l:List Tree}{i:Nat}(h:i<l.length):jR l i∈l:=by
 rw[fN (List.getElem?_eq_getElem h)];exact List.getElem_mem h
open Classical in
def O5 (pt:List TV)(ob:List aP)(n:Nat)(F:Nat->Tree ⊕ Int):List TV->List aP->Option bh:=λa o=>if h:∃i:Nat,i<n/\a=.t (.int .i64 (i:Int))::pt/\o=ob then some (aN (F h.choose) ob) else none
theorem Ei {C:ez}{g:FuncId}{pt:List TV}{ob:List aP}{n:Nat}{F:Nat->Tree ⊕ Int}(h:∀i,i<n->ai C g (.t (.int .i64 (i:Int))::pt) ob (aN (F i) ob)):kQ C g (O5 pt ob n F):=λa o q hq=>by
 unfold O5 at hq;split at hq
 ·rename_i hp;cases hq;obtain⟨h1,h2,h3⟩:=hp.choose_spec;have h4:=h _ h1;have key:∀a' o',a'=TV.t (.int .i64 ((hp.choose:Nat):Int))::pt->o'=ob->ai C g a' o' (aN (F hp.choose) ob):=λa' o' e1 e2=>by
   rw[e1,e2];exact h4
  exact key a o h2 h3
 ·cases hq
theorem fq {ev:bt}{g:FuncId}{pt:List TV}{ob:List aP}{n:Nat}{F:Nat->Tree ⊕ Int}(h:Has ev g (O5 pt ob n F))(i:Nat)(hi:i<n):ev g (.t (.int .i64 (i:Int))::pt) ob=some (aN (F i) ob):=by
 refine h _ _ _ ?_;have hp:∃j:Nat,j<n/\TV.t (.int .i64 (i:Int))::pt=.t (.int .i64 (j:Int))::pt/\ob=ob:=⟨i,hi,rfl,rfl⟩;unfold O5;rw[dif_pos hp];have e:=hp.choose_spec.2.1;have e2:((i:Nat):Int)=((hp.choose:Nat):Int):=by
  injection e with e _;injection e with e;injection e
 rw[← Int.ofNat.inj e2]
open Classical in
def agN (q:Sc)(e:Tree)(G:List Tree->Tree ⊕ Int):List TV->List aP->Option bh:=λa o=>match a with
 | [.ptr (.arg 0) 0,.t x,.t (.sl l)]=>if x=e/\o=[SF q]/\PO q e l then some (aN (G l) [SF q]) else none
 |_=>none
theorem agO {C:ez}{g:FuncId}{q:Sc}{e:Tree}{G:List Tree->Tree ⊕ Int}(h:∀l,PO q e l->ai C g [.ptr (.arg 0) 0,.t e,.t (.sl l)] [SF q] (aN (G l) [SF q])):kQ C g (agN q e G):=λa o r hq=>by
 unfold agN at hq;split at hq
 ·split at hq
  ·rename_i hp;obtain⟨rfl,rfl,hp⟩:=hp;cases hq;exact h _ hp
  ·cases hq
 ·cases hq
theorem agP {ev:bt}{g:FuncId}{q:Sc}{e:Tree}{G:List Tree->Tree ⊕ Int}(h:Has ev g (agN q e G)){l:List Tree}(hl:PO q e l):ev g [.ptr (.arg 0) 0,.t e,.t (.sl l)] [SF q]=some (aN (G l) [SF q]):=h _ _ _ (if_pos ⟨rfl,rfl,hl⟩)
theorem aq5 {c:Prop}[Decidable c]{a b k:Nat}(h:Nat.beq a k=false)(h2:Nat.beq b k=false):Nat.beq (if c then a else b) k=false:=by
 by_cases hc:c
 ·rw[if_pos hc];exact h
 ·rw[if_neg hc];exact h2
theorem akD (op:Int):Nat.beq (gOf op) 51=false:=by
 unfold gOf;repeat refine aq5 rfl ?_
 rfl
theorem Ej (m:Int){op:Int}(h0:1<=op)(h1:op<30)(Pk:op≠14)(Oc:op≠15)(h16:op≠16):A9 (cf m).P 66 aR (.t (.int .u8 op)) false=some (.t (.fn (.func (gOf op)))):=by
 have I6:op=1\/op=2\/op=3\/op=4\/op=5\/op=6\/op=7\/op=8\/op=9\/op=10\/op=11\/op=12\/op=13\/op=17\/op=18\/op=19\/op=20\/op=21\/op=22\/op=23\/op=24\/op=25\/op=26\/op=27\/op=28\/op=29:=by omega
 rcases I6 with rfl|rfl|rfl|rfl|rfl|rfl|rfl|rfl|rfl|rfl|rfl|rfl|rfl|rfl|rfl|rfl|rfl|rfl|rfl|rfl|rfl|rfl|rfl|rfl|rfl|rfl<;>exact(show A9 _ _ _ _ _=some _ by kernel_rfl)
theorem aoE (m:Int)(q:Sc)(n:Int)(s t:List UInt8)(ns ks:List Tree)(hE:T .aG (bf 14 n s t ns ks))(lk:ks.length<=4194304)(hks:∀y∈ks,T .aG y)(f:Tree->Tree ⊕ Int)(hf:∀x∈ks,ai (cf m) 27 [.ptr (.arg 0) 0,.t x,.map (.arg 1)] [.cells 63 (aV q),.map aR 26] (aN (f x) [.cells 63 (aV q),.map aR 26]))(Eu:∀x∈ks,∀v,f x=.inl v->T .av v)(hlen:ks.length=3):∃r:{r:Tree ⊕ Int // r=gD (f (jR ks 0)) (f (jR ks 1)) (f (jR ks 2))},ai (cf m) 27 [.ptr (.arg 0) 0,.t (bf 14 n s t ns ks),.map (.arg 1)] [.cells 63 (aV q),.map aR 26] (aN r.1 [.cells 63 (aV q),.map aR 26]):=by
 obtain⟨ev,aK,gA,bC⟩:∃ev,aD (cf m) ev/\Has ev 51 (O5 [.ptr (.arg 0) 0,.ptr (.arg 1) 0,.ptr (.arg 2) 0] [.cells 61 [.ptr (.arg 3) 0],.cells 26 (bk 14 n s t ns ks),.cells 66 [.map (.arg 4)],.cells 63 (aV q),.map aR 26] ks.length (λi=>f (jR ks i)))/\Has ev 52 sH:=⟨_,(aq (Ei (λi hi=>by obtain⟨⟨r,rfl⟩,h⟩:=K5 m q 14 n s t ns ks lk hks f hf Eu i hi;exact h)) (aq (jY m) aF)),au,(az rfl au)⟩;refine AX.start 61 3 Tryz.func27 rfl (by decide) rfl rfl (by decide) ?_;refine AX.frames ?_;rcases hr_1:f (jR ks 0) with v_1|w_1
 ·have adt:=Eu _ (mP (by omega)) _ hr_1;obtain⟨k_1,b_1,n_1,s_1,t_1,je,wh,rfl,_⟩:=T.aB adt;rcases aM ((k_1==0)) with hk2|hk2
  ·have Uq:=eq_of_beq hk2;rcases aM (b_1) with bK|bK
   ·rcases hr_4:f (jR ks 1) with Yv|UH
    ·have O6:=Eu _ (mP (by omega)) _ hr_4;obtain⟨Ev,Lj,yz,yA,Ll,Lm,Ln,rfl,_⟩:=T.aB O6;refine⟨⟨.inl (aA Ev Lj yz yA Ll Lm Ln),(by first|(simp only[gD,dU,kd,jh,mV,hr_1,hr_4,hk2,bK,cond_true,cond_false];done)|(simp[gD,dU,kd,jh,mV,hr_1,hr_4,hk2,bK];done)|(simp_all [gD,dU,kd,jh,mV];done))⟩,kf ah [oT,oN (o:=.map aR 26) bg,oC (show ev 51 (.t (.int .i64 ((0:Nat):Int))::[.ptr (.arg 0) 0,.ptr (.arg 1) 0,.ptr (.arg 2) 0]) [.cells 61 [.ptr (.arg 3) 0],.cells 26 (bk 14 n s t ns ks),.cells 66 [.map (.arg 4)],.cells 63 (aV q),.map aR 26]=some (aN (.inl (aA k_1 b_1 n_1 s_1 t_1 je wh)) [.cells 61 [.ptr (.arg 3) 0],.cells 26 (bk 14 n s t ns ks),.cells 66 [.map (.arg 4)],.cells 63 (aV q),.map aR 26]) from(fq gA 0 (by omega)).trans (congrArg (λz=>some (aN z [.cells 61 [.ptr (.arg 3) 0],.cells 26 (bk 14 n s t ns ks),.cells 66 [.map (.arg 4)],.cells 63 (aV q),.map aR 26])) hr_1)),oN (o:=.map aR 26) bg,oC (show ev 52 [.t (aA k_1 b_1 n_1 s_1 t_1 je wh),.t (.int .u8 0)] []=some (aN (.inl (aA k_1 b_1 n_1 s_1 t_1 je wh)) []) from bC _ _ _ (by show some (aN (cond ((k_1==0)) _ _) [])=_;rw[hk2];rfl)),oB bK,oN (o:=.map aR 26) bg,oC (show ev 51 (.t (.int .i64 ((1:Nat):Int))::[.ptr (.arg 0) 0,.ptr (.arg 1) 0,.ptr (.arg 2) 0]) [.cells 61 [.ptr (.arg 3) 0],.cells 26 (bk 14 n s t ns ks),.cells 66 [.map (.arg 4)],.cells 63 (aV q),.map aR 26]=some (aN (.inl (aA Ev Lj yz yA Ll Lm Ln)) [.cells 61 [.ptr (.arg 3) 0],.cells 26 (bk 14 n s t ns ks),.cells 66 [.map (.arg 4)],.cells 63 (aV q),.map aR 26]) from(fq gA 1 (by omega)).trans (congrArg (λz=>some (aN z [.cells 61 [.ptr (.arg 3) 0],.cells 26 (bk 14 n s t ns ks),.cells 66 [.map (.arg 4)],.cells 63 (aV q),.map aR 26])) hr_4)),oN (o:=.map aR 26) bg,oN (o:=.map aR 26) (λ_=>rfl)]⟩
    ·refine⟨⟨.inr (UH),(by first|(simp only[gD,dU,kd,jh,mV,hr_1,hr_4,hk2,bK,cond_true,cond_false];done)|(simp[gD,dU,kd,jh,mV,hr_1,hr_4,hk2,bK];done)|(simp_all [gD,dU,kd,jh,mV];done))⟩,kf ah [oT,oN (o:=.map aR 26) bg,oC (show ev 51 (.t (.int .i64 ((0:Nat):Int))::[.ptr (.arg 0) 0,.ptr (.arg 1) 0,.ptr (.arg 2) 0]) [.cells 61 [.ptr (.arg 3) 0],.cells 26 (bk 14 n s t ns ks),.cells 66 [.map (.arg 4)],.cells 63 (aV q),.map aR 26]=some (aN (.inl (aA k_1 b_1 n_1 s_1 t_1 je wh)) [.cells 61 [.ptr (.arg 3) 0],.cells 26 (bk 14 n s t ns ks),.cells 66 [.map (.arg 4)],.cells 63 (aV q),.map aR 26]) from(fq gA 0 (by omega)).trans (congrArg (λz=>some (aN z [.cells 61 [.ptr (.arg 3) 0],.cells 26 (bk 14 n s t ns ks),.cells 66 [.map (.arg 4)],.cells 63 (aV q),.map aR 26])) hr_1)),oN (o:=.map aR 26) bg,oC (show ev 52 [.t (aA k_1 b_1 n_1 s_1 t_1 je wh),.t (.int .u8 0)] []=some (aN (.inl (aA k_1 b_1 n_1 s_1 t_1 je wh)) []) from bC _ _ _ (by show some (aN (cond ((k_1==0)) _ _) [])=_;rw[hk2];rfl)),oB bK,oN (o:=.map aR 26) bg,oC (show ev 51 (.t (.int .i64 ((1:Nat):Int))::[.ptr (.arg 0) 0,.ptr (.arg 1) 0,.ptr (.arg 2) 0]) [.cells 61 [.ptr (.arg 3) 0],.cells 26 (bk 14 n s t ns ks),.cells 66 [.map (.arg 4)],.cells 63 (aV q),.map aR 26]=some (aN (.inr UH) [.cells 61 [.ptr (.arg 3) 0],.cells 26 (bk 14 n s t ns ks),.cells 66 [.map (.arg 4)],.cells 63 (aV q),.map aR 26]) from(fq gA 1 (by omega)).trans (congrArg (λz=>some (aN z [.cells 61 [.ptr (.arg 3) 0],.cells 26 (bk 14 n s t ns ks),.cells 66 [.map (.arg 4)],.cells 63 (aV q),.map aR 26])) hr_4))]⟩
   ·rcases UI:f (jR ks 2) with v_5|Co
    ·have aq6:=Eu _ (mP (by omega)) _ UI;obtain⟨k_5,b_5,rJ,Bi,t_5,N_5,L_5,rfl,_⟩:=T.aB aq6;refine⟨⟨.inl (aA k_5 b_5 rJ Bi t_5 N_5 L_5),(by first|(simp only[gD,dU,kd,jh,mV,hr_1,UI,hk2,bK,cond_true,cond_false];done)|(simp[gD,dU,kd,jh,mV,hr_1,UI,hk2,bK];done)|(simp_all [gD,dU,kd,jh,mV];done))⟩,kf ah [oT,oN (o:=.map aR 26) bg,oC (show ev 51 (.t (.int .i64 ((0:Nat):Int))::[.ptr (.arg 0) 0,.ptr (.arg 1) 0,.ptr (.arg 2) 0]) [.cells 61 [.ptr (.arg 3) 0],.cells 26 (bk 14 n s t ns ks),.cells 66 [.map (.arg 4)],.cells 63 (aV q),.map aR 26]=some (aN (.inl (aA k_1 b_1 n_1 s_1 t_1 je wh)) [.cells 61 [.ptr (.arg 3) 0],.cells 26 (bk 14 n s t ns ks),.cells 66 [.map (.arg 4)],.cells 63 (aV q),.map aR 26]) from(fq gA 0 (by omega)).trans (congrArg (λz=>some (aN z [.cells 61 [.ptr (.arg 3) 0],.cells 26 (bk 14 n s t ns ks),.cells 66 [.map (.arg 4)],.cells 63 (aV q),.map aR 26])) hr_1)),oN (o:=.map aR 26) bg,oC (show ev 52 [.t (aA k_1 b_1 n_1 s_1 t_1 je wh),.t (.int .u8 0)] []=some (aN (.inl (aA k_1 b_1 n_1 s_1 t_1 je wh)) []) from bC _ _ _ (by show some (aN (cond ((k_1==0)) _ _) [])=_;rw[hk2];rfl)),oB bK,oN (o:=.map aR 26) bg,oC (show ev 51 (.t (.int .i64 ((2:Nat):Int))::[.ptr (.arg 0) 0,.ptr (.arg 1) 0,.ptr (.arg 2) 0]) [.cells 61 [.ptr (.arg 3) 0],.cells 26 (bk 14 n s t ns ks),.cells 66 [.map (.arg 4)],.cells 63 (aV q),.map aR 26]=some (aN (.inl (aA k_5 b_5 rJ Bi t_5 N_5 L_5)) [.cells 61 [.ptr (.arg 3) 0],.cells 26 (bk 14 n s t ns ks),.cells 66 [.map (.arg 4)],.cells 63 (aV q),.map aR 26]) from(fq gA 2 (by omega)).trans (congrArg (λz=>some (aN z [.cells 61 [.ptr (.arg 3) 0],.cells 26 (bk 14 n s t ns ks),.cells 66 [.map (.arg 4)],.cells 63 (aV q),.map aR 26])) UI)),oN (o:=.map aR 26) bg,oN (o:=.map aR 26) (λ_=>rfl)]⟩
    ·refine⟨⟨.inr (Co),(by first|(simp only[gD,dU,kd,jh,mV,hr_1,UI,hk2,bK,cond_true,cond_false];done)|(simp[gD,dU,kd,jh,mV,hr_1,UI,hk2,bK];done)|(simp_all [gD,dU,kd,jh,mV];done))⟩,kf ah [oT,oN (o:=.map aR 26) bg,oC (show ev 51 (.t (.int .i64 ((0:Nat):Int))::[.ptr (.arg 0) 0,.ptr (.arg 1) 0,.ptr (.arg 2) 0]) [.cells 61 [.ptr (.arg 3) 0],.cells 26 (bk 14 n s t ns ks),.cells 66 [.map (.arg 4)],.cells 63 (aV q),.map aR 26]=some (aN (.inl (aA k_1 b_1 n_1 s_1 t_1 je wh)) [.cells 61 [.ptr (.arg 3) 0],.cells 26 (bk 14 n s t ns ks),.cells 66 [.map (.arg 4)],.cells 63 (aV q),.map aR 26]) from(fq gA 0 (by omega)).trans (congrArg (λz=>some (aN z [.cells 61 [.ptr (.arg 3) 0],.cells 26 (bk 14 n s t ns ks),.cells 66 [.map (.arg 4)],.cells 63 (aV q),.map aR 26])) hr_1)),oN (o:=.map aR 26) bg,oC (show ev 52 [.t (aA k_1 b_1 n_1 s_1 t_1 je wh),.t (.int .u8 0)] []=some (aN (.inl (aA k_1 b_1 n_1 s_1 t_1 je wh)) []) from bC _ _ _ (by show some (aN (cond ((k_1==0)) _ _) [])=_;rw[hk2];rfl)),oB bK,oN (o:=.map aR 26) bg,oC (show ev 51 (.t (.int .i64 ((2:Nat):Int))::[.ptr (.arg 0) 0,.ptr (.arg 1) 0,.ptr (.arg 2) 0]) [.cells 61 [.ptr (.arg 3) 0],.cells 26 (bk 14 n s t ns ks),.cells 66 [.map (.arg 4)],.cells 63 (aV q),.map aR 26]=some (aN (.inr Co) [.cells 61 [.ptr (.arg 3) 0],.cells 26 (bk 14 n s t ns ks),.cells 66 [.map (.arg 4)],.cells 63 (aV q),.map aR 26]) from(fq gA 2 (by omega)).trans (congrArg (λz=>some (aN z [.cells 61 [.ptr (.arg 3) 0],.cells 26 (bk 14 n s t ns ks),.cells 66 [.map (.arg 4)],.cells 63 (aV q),.map aR 26])) UI))]⟩
  ·have Uq:=ne_of_beq_false hk2;refine⟨⟨.inr (7),(by first|(simp only[gD,dU,kd,jh,mV,hr_1,hk2,cond_true,cond_false];done)|(simp[gD,dU,kd,jh,mV,hr_1,hk2];done)|(simp_all [gD,dU,kd,jh,mV];done))⟩,kf ah [oT,oN (o:=.map aR 26) bg,oC (show ev 51 (.t (.int .i64 ((0:Nat):Int))::[.ptr (.arg 0) 0,.ptr (.arg 1) 0,.ptr (.arg 2) 0]) [.cells 61 [.ptr (.arg 3) 0],.cells 26 (bk 14 n s t ns ks),.cells 66 [.map (.arg 4)],.cells 63 (aV q),.map aR 26]=some (aN (.inl (aA k_1 b_1 n_1 s_1 t_1 je wh)) [.cells 61 [.ptr (.arg 3) 0],.cells 26 (bk 14 n s t ns ks),.cells 66 [.map (.arg 4)],.cells 63 (aV q),.map aR 26]) from(fq gA 0 (by omega)).trans (congrArg (λz=>some (aN z [.cells 61 [.ptr (.arg 3) 0],.cells 26 (bk 14 n s t ns ks),.cells 66 [.map (.arg 4)],.cells 63 (aV q),.map aR 26])) hr_1)),oN (o:=.map aR 26) bg,oC (show ev 52 [.t (aA k_1 b_1 n_1 s_1 t_1 je wh),.t (.int .u8 0)] []=some (aN (.inr (7)) []) from bC _ _ _ (by show some (aN (cond ((k_1==0)) _ _) [])=_;rw[hk2];rfl))]⟩
 ·refine⟨⟨.inr (w_1),(by first|(simp only[gD,dU,kd,jh,mV,hr_1,cond_true,cond_false];done)|(simp[gD,dU,kd,jh,mV,hr_1];done)|(simp_all [gD,dU,kd,jh,mV];done))⟩,kf ah [oT,oN (o:=.map aR 26) bg,oC (show ev 51 (.t (.int .i64 ((0:Nat):Int))::[.ptr (.arg 0) 0,.ptr (.arg 1) 0,.ptr (.arg 2) 0]) [.cells 61 [.ptr (.arg 3) 0],.cells 26 (bk 14 n s t ns ks),.cells 66 [.map (.arg 4)],.cells 63 (aV q),.map aR 26]=some (aN (.inr w_1) [.cells 61 [.ptr (.arg 3) 0],.cells 26 (bk 14 n s t ns ks),.cells 66 [.map (.arg 4)],.cells 63 (aV q),.map aR 26]) from(fq gA 0 (by omega)).trans (congrArg (λz=>some (aN z [.cells 61 [.ptr (.arg 3) 0],.cells 26 (bk 14 n s t ns ks),.cells 66 [.map (.arg 4)],.cells 63 (aV q),.map aR 26])) hr_1))]⟩
theorem akE (m:Int)(q:Sc)(n:Int)(s t:List UInt8)(ns ks:List Tree)(hE:T .aG (bf 15 n s t ns ks))(lk:ks.length<=4194304)(hks:∀y∈ks,T .aG y)(f:Tree->Tree ⊕ Int)(hf:∀x∈ks,ai (cf m) 27 [.ptr (.arg 0) 0,.t x,.map (.arg 1)] [.cells 63 (aV q),.map aR 26] (aN (f x) [.cells 63 (aV q),.map aR 26]))(Eu:∀x∈ks,∀v,f x=.inl v->T .av v)(hlen:ks.length=2):∃r:{r:Tree ⊕ Int // r=dU 15 (f (jR ks 0)) (f (jR ks 1))},ai (cf m) 27 [.ptr (.arg 0) 0,.t (bf 15 n s t ns ks),.map (.arg 1)] [.cells 63 (aV q),.map aR 26] (aN r.1 [.cells 63 (aV q),.map aR 26]):=by
 obtain⟨ev,aK,gA,bC⟩:∃ev,aD (cf m) ev/\Has ev 51 (O5 [.ptr (.arg 0) 0,.ptr (.arg 1) 0,.ptr (.arg 2) 0] [.cells 61 [.ptr (.arg 3) 0],.cells 26 (bk 15 n s t ns ks),.cells 66 [.map (.arg 4)],.cells 63 (aV q),.map aR 26] ks.length (λi=>f (jR ks i)))/\Has ev 52 sH:=⟨_,(aq (Ei (λi hi=>by obtain⟨⟨r,rfl⟩,h⟩:=K5 m q 15 n s t ns ks lk hks f hf Eu i hi;exact h)) (aq (jY m) aF)),au,(az rfl au)⟩;refine AX.start 61 3 Tryz.func27 rfl (by decide) rfl rfl (by decide) ?_;refine AX.frames ?_;rcases hr_1:f (jR ks 0) with v_1|w_1
 ·have adt:=Eu _ (mP (by omega)) _ hr_1;obtain⟨k_1,b_1,n_1,s_1,t_1,je,wh,rfl,_⟩:=T.aB adt;rcases aM ((k_1==0)) with hk2|hk2
  ·have Uq:=eq_of_beq hk2;rcases aM ((b_1==false)) with bK|bK
   ·have mH:=eq_of_beq bK;refine⟨⟨.inl (aA k_1 b_1 n_1 s_1 t_1 je wh),(by first|(simp only[gD,dU,kd,jh,mV,hr_1,hk2,bK,cond_true,cond_false];done)|(simp[gD,dU,kd,jh,mV,hr_1,hk2,bK];done)|(simp_all [gD,dU,kd,jh,mV];done))⟩,kf ah [oF,oT,oT,oN (o:=.map aR 26) bg,oC (show ev 51 (.t (.int .i64 ((0:Nat):Int))::[.ptr (.arg 0) 0,.ptr (.arg 1) 0,.ptr (.arg 2) 0]) [.cells 61 [.ptr (.arg 3) 0],.cells 26 (bk 15 n s t ns ks),.cells 66 [.map (.arg 4)],.cells 63 (aV q),.map aR 26]=some (aN (.inl (aA k_1 b_1 n_1 s_1 t_1 je wh)) [.cells 61 [.ptr (.arg 3) 0],.cells 26 (bk 15 n s t ns ks),.cells 66 [.map (.arg 4)],.cells 63 (aV q),.map aR 26]) from(fq gA 0 (by omega)).trans (congrArg (λz=>some (aN z [.cells 61 [.ptr (.arg 3) 0],.cells 26 (bk 15 n s t ns ks),.cells 66 [.map (.arg 4)],.cells 63 (aV q),.map aR 26])) hr_1)),oN (o:=.map aR 26) bg,oC (show ev 52 [.t (aA k_1 b_1 n_1 s_1 t_1 je wh),.t (.int .u8 0)] []=some (aN (.inl (aA k_1 b_1 n_1 s_1 t_1 je wh)) []) from bC _ _ _ (by show some (aN (cond ((k_1==0)) _ _) [])=_;rw[hk2];rfl)),oB bK,oN (o:=.map aR 26) (λ_=>rfl)]⟩
   ·have mH:=ne_of_beq_false bK;rcases hr_4:f (jR ks 1) with Yv|UH
    ·have O6:=Eu _ (mP (by omega)) _ hr_4;obtain⟨Ev,Lj,yz,yA,Ll,Lm,Ln,rfl,_⟩:=T.aB O6;have aoF:=show ev 52 [.t (aA k_1 b_1 n_1 s_1 t_1 je wh),.t (.int .u8 0)] []=some (aN (.inl (aA k_1 b_1 n_1 s_1 t_1 je wh)) []) from bC _ _ _ (by show some (aN (cond ((k_1==0)) _ _) [])=_;rw[hk2];rfl);rcases aM ((Ev==0)) with O7|O7
     ·have akF:=eq_of_beq O7;refine⟨⟨.inl (aA Ev Lj yz yA Ll Lm Ln),(by first|(simp only[gD,dU,kd,jh,mV,hr_1,hr_4,hk2,bK,O7,cond_true,cond_false];done)|(simp[gD,dU,kd,jh,mV,hr_1,hr_4,hk2,bK,O7];done)|(simp_all [gD,dU,kd,jh,mV];done))⟩,kf ah [oF,oT,oT,oN (o:=.map aR 26) bg,oC (show ev 51 (.t (.int .i64 ((0:Nat):Int))::[.ptr (.arg 0) 0,.ptr (.arg 1) 0,.ptr (.arg 2) 0]) [.cells 61 [.ptr (.arg 3) 0],.cells 26 (bk 15 n s t ns ks),.cells 66 [.map (.arg 4)],.cells 63 (aV q),.map aR 26]=some (aN (.inl (aA k_1 b_1 n_1 s_1 t_1 je wh)) [.cells 61 [.ptr (.arg 3) 0],.cells 26 (bk 15 n s t ns ks),.cells 66 [.map (.arg 4)],.cells 63 (aV q),.map aR 26]) from(fq gA 0 (by omega)).trans (congrArg (λz=>some (aN z [.cells 61 [.ptr (.arg 3) 0],.cells 26 (bk 15 n s t ns ks),.cells 66 [.map (.arg 4)],.cells 63 (aV q),.map aR 26])) hr_1)),oN (o:=.map aR 26) bg,oC aoF,oB bK,oN (o:=.map aR 26) bg,oC (show ev 51 (.t (.int .i64 ((1:Nat):Int))::[.ptr (.arg 0) 0,.ptr (.arg 1) 0,.ptr (.arg 2) 0]) [.cells 61 [.ptr (.arg 3) 0],.cells 26 (bk 15 n s t ns ks),.cells 66 [.map (.arg 4)],.cells 63 (aV q),.map aR 26]=some (aN (.inl (aA Ev Lj yz yA Ll Lm Ln)) [.cells 61 [.ptr (.arg 3) 0],.cells 26 (bk 15 n s t ns ks),.cells 66 [.map (.arg 4)],.cells 63 (aV q),.map aR 26]) from(fq gA 1 (by omega)).trans (congrArg (λz=>some (aN z [.cells 61 [.ptr (.arg 3) 0],.cells 26 (bk 15 n s t ns ks),.cells 66 [.map (.arg 4)],.cells 63 (aV q),.map aR 26])) hr_4)),oN (o:=.map aR 26) bg,oC (show ev 52 [.t (aA Ev Lj yz yA Ll Lm Ln),.t (.int .u8 0)] []=some (aN (.inl (aA Ev Lj yz yA Ll Lm Ln)) []) from bC _ _ _ (by show some (aN (cond ((Ev==0)) _ _) [])=_;rw[O7];rfl)),oN (o:=.map aR 26) (λ_=>rfl)]⟩
     ·have akF:=ne_of_beq_false O7;refine⟨⟨.inr (7),(by first|(simp only[gD,dU,kd,jh,mV,hr_1,hr_4,hk2,bK,O7,cond_true,cond_false];done)|(simp[gD,dU,kd,jh,mV,hr_1,hr_4,hk2,bK,O7];done)|(simp_all [gD,dU,kd,jh,mV];done))⟩,kf ah [oF,oT,oT,oN (o:=.map aR 26) bg,oC (show ev 51 (.t (.int .i64 ((0:Nat):Int))::[.ptr (.arg 0) 0,.ptr (.arg 1) 0,.ptr (.arg 2) 0]) [.cells 61 [.ptr (.arg 3) 0],.cells 26 (bk 15 n s t ns ks),.cells 66 [.map (.arg 4)],.cells 63 (aV q),.map aR 26]=some (aN (.inl (aA k_1 b_1 n_1 s_1 t_1 je wh)) [.cells 61 [.ptr (.arg 3) 0],.cells 26 (bk 15 n s t ns ks),.cells 66 [.map (.arg 4)],.cells 63 (aV q),.map aR 26]) from(fq gA 0 (by omega)).trans (congrArg (λz=>some (aN z [.cells 61 [.ptr (.arg 3) 0],.cells 26 (bk 15 n s t ns ks),.cells 66 [.map (.arg 4)],.cells 63 (aV q),.map aR 26])) hr_1)),oN (o:=.map aR 26) bg,oC aoF,oB bK,oN (o:=.map aR 26) bg,oC (show ev 51 (.t (.int .i64 ((1:Nat):Int))::[.ptr (.arg 0) 0,.ptr (.arg 1) 0,.ptr (.arg 2) 0]) [.cells 61 [.ptr (.arg 3) 0],.cells 26 (bk 15 n s t ns ks),.cells 66 [.map (.arg 4)],.cells 63 (aV q),.map aR 26]=some (aN (.inl (aA Ev Lj yz yA Ll Lm Ln)) [.cells 61 [.ptr (.arg 3) 0],.cells 26 (bk 15 n s t ns ks),.cells 66 [.map (.arg 4)],.cells 63 (aV q),.map aR 26]) from(fq gA 1 (by omega)).trans (congrArg (λz=>some (aN z [.cells 61 [.ptr (.arg 3) 0],.cells 26 (bk 15 n s t ns ks),.cells 66 [.map (.arg 4)],.cells 63 (aV q),.map aR 26])) hr_4)),oN (o:=.map aR 26) bg,oC (show ev 52 [.t (aA Ev Lj yz yA Ll Lm Ln),.t (.int .u8 0)] []=some (aN (.inr (7)) []) from bC _ _ _ (by show some (aN (cond ((Ev==0)) _ _) [])=_;rw[O7];rfl))]⟩
    ·refine⟨⟨.inr (UH),(by first|(simp only[gD,dU,kd,jh,mV,hr_1,hr_4,hk2,bK,cond_true,cond_false];done)|(simp[gD,dU,kd,jh,mV,hr_1,hr_4,hk2,bK];done)|(simp_all [gD,dU,kd,jh,mV];done))⟩,kf ah [oF,oT,oT,oN (o:=.map aR 26) bg,oC (show ev 51 (.t (.int .i64 ((0:Nat):Int))::[.ptr (.arg 0) 0,.ptr (.arg 1) 0,.ptr (.arg 2) 0]) [.cells 61 [.ptr (.arg 3) 0],.cells 26 (bk 15 n s t ns ks),.cells 66 [.map (.arg 4)],.cells 63 (aV q),.map aR 26]=some (aN (.inl (aA k_1 b_1 n_1 s_1 t_1 je wh)) [.cells 61 [.ptr (.arg 3) 0],.cells 26 (bk 15 n s t ns ks),.cells 66 [.map (.arg 4)],.cells 63 (aV q),.map aR 26]) from(fq gA 0 (by omega)).trans (congrArg (λz=>some (aN z [.cells 61 [.ptr (.arg 3) 0],.cells 26 (bk 15 n s t ns ks),.cells 66 [.map (.arg 4)],.cells 63 (aV q),.map aR 26])) hr_1)),oN (o:=.map aR 26) bg,oC (show ev 52 [.t (aA k_1 b_1 n_1 s_1 t_1 je wh),.t (.int .u8 0)] []=some (aN (.inl (aA k_1 b_1 n_1 s_1 t_1 je wh)) []) from bC _ _ _ (by show some (aN (cond ((k_1==0)) _ _) [])=_;rw[hk2];rfl)),oB bK,oN (o:=.map aR 26) bg,oC (show ev 51 (.t (.int .i64 ((1:Nat):Int))::[.ptr (.arg 0) 0,.ptr (.arg 1) 0,.ptr (.arg 2) 0]) [.cells 61 [.ptr (.arg 3) 0],.cells 26 (bk 15 n s t ns ks),.cells 66 [.map (.arg 4)],.cells 63 (aV q),.map aR 26]=some (aN (.inr UH) [.cells 61 [.ptr (.arg 3) 0],.cells 26 (bk 15 n s t ns ks),.cells 66 [.map (.arg 4)],.cells 63 (aV q),.map aR 26]) from(fq gA 1 (by omega)).trans (congrArg (λz=>some (aN z [.cells 61 [.ptr (.arg 3) 0],.cells 26 (bk 15 n s t ns ks),.cells 66 [.map (.arg 4)],.cells 63 (aV q),.map aR 26])) hr_4))]⟩
  ·have Uq:=ne_of_beq_false hk2;refine⟨⟨.inr (7),(by first|(simp only[gD,dU,kd,jh,mV,hr_1,hk2,cond_true,cond_false];done)|(simp[gD,dU,kd,jh,mV,hr_1,hk2];done)|(simp_all [gD,dU,kd,jh,mV];done))⟩,kf ah [oF,oT,oT,oN (o:=.map aR 26) bg,oC (show ev 51 (.t (.int .i64 ((0:Nat):Int))::[.ptr (.arg 0) 0,.ptr (.arg 1) 0,.ptr (.arg 2) 0]) [.cells 61 [.ptr (.arg 3) 0],.cells 26 (bk 15 n s t ns ks),.cells 66 [.map (.arg 4)],.cells 63 (aV q),.map aR 26]=some (aN (.inl (aA k_1 b_1 n_1 s_1 t_1 je wh)) [.cells 61 [.ptr (.arg 3) 0],.cells 26 (bk 15 n s t ns ks),.cells 66 [.map (.arg 4)],.cells 63 (aV q),.map aR 26]) from(fq gA 0 (by omega)).trans (congrArg (λz=>some (aN z [.cells 61 [.ptr (.arg 3) 0],.cells 26 (bk 15 n s t ns ks),.cells 66 [.map (.arg 4)],.cells 63 (aV q),.map aR 26])) hr_1)),oN (o:=.map aR 26) bg,oC (show ev 52 [.t (aA k_1 b_1 n_1 s_1 t_1 je wh),.t (.int .u8 0)] []=some (aN (.inr (7)) []) from bC _ _ _ (by show some (aN (cond ((k_1==0)) _ _) [])=_;rw[hk2];rfl))]⟩
 ·refine⟨⟨.inr (w_1),(by first|(simp only[gD,dU,kd,jh,mV,hr_1,cond_true,cond_false];done)|(simp[gD,dU,kd,jh,mV,hr_1];done)|(simp_all [gD,dU,kd,jh,mV];done))⟩,kf ah [oF,oT,oT,oN (o:=.map aR 26) bg,oC (show ev 51 (.t (.int .i64 ((0:Nat):Int))::[.ptr (.arg 0) 0,.ptr (.arg 1) 0,.ptr (.arg 2) 0]) [.cells 61 [.ptr (.arg 3) 0],.cells 26 (bk 15 n s t ns ks),.cells 66 [.map (.arg 4)],.cells 63 (aV q),.map aR 26]=some (aN (.inr w_1) [.cells 61 [.ptr (.arg 3) 0],.cells 26 (bk 15 n s t ns ks),.cells 66 [.map (.arg 4)],.cells 63 (aV q),.map aR 26]) from(fq gA 0 (by omega)).trans (congrArg (λz=>some (aN z [.cells 61 [.ptr (.arg 3) 0],.cells 26 (bk 15 n s t ns ks),.cells 66 [.map (.arg 4)],.cells 63 (aV q),.map aR 26])) hr_1))]⟩
theorem aoG (m:Int)(q:Sc)(n:Int)(s t:List UInt8)(ns ks:List Tree)(hE:T .aG (bf 16 n s t ns ks))(lk:ks.length<=4194304)(hks:∀y∈ks,T .aG y)(f:Tree->Tree ⊕ Int)(hf:∀x∈ks,ai (cf m) 27 [.ptr (.arg 0) 0,.t x,.map (.arg 1)] [.cells 63 (aV q),.map aR 26] (aN (f x) [.cells 63 (aV q),.map aR 26]))(Eu:∀x∈ks,∀v,f x=.inl v->T .av v)(hlen:ks.length=2):∃r:{r:Tree ⊕ Int // r=dU 16 (f (jR ks 0)) (f (jR ks 1))},ai (cf m) 27 [.ptr (.arg 0) 0,.t (bf 16 n s t ns ks),.map (.arg 1)] [.cells 63 (aV q),.map aR 26] (aN r.1 [.cells 63 (aV q),.map aR 26]):=by
 obtain⟨ev,aK,gA,bC⟩:∃ev,aD (cf m) ev/\Has ev 51 (O5 [.ptr (.arg 0) 0,.ptr (.arg 1) 0,.ptr (.arg 2) 0] [.cells 61 [.ptr (.arg 3) 0],.cells 26 (bk 16 n s t ns ks),.cells 66 [.map (.arg 4)],.cells 63 (aV q),.map aR 26] ks.length (λi=>f (jR ks i)))/\Has ev 52 sH:=⟨_,(aq (Ei (λi hi=>by obtain⟨⟨r,rfl⟩,h⟩:=K5 m q 16 n s t ns ks lk hks f hf Eu i hi;exact h)) (aq (jY m) aF)),au,(az rfl au)⟩;refine AX.start 61 3 Tryz.func27 rfl (by decide) rfl rfl (by decide) ?_;refine AX.frames ?_;rcases hr_1:f (jR ks 0) with v_1|w_1
 ·have adt:=Eu _ (mP (by omega)) _ hr_1;obtain⟨k_1,b_1,n_1,s_1,t_1,je,wh,rfl,_⟩:=T.aB adt;rcases aM ((k_1==0)) with hk2|hk2
  ·have Uq:=eq_of_beq hk2;rcases aM ((b_1==true)) with bK|bK
   ·have mH:=eq_of_beq bK;refine⟨⟨.inl (aA k_1 b_1 n_1 s_1 t_1 je wh),(by first|(simp only[gD,dU,kd,jh,mV,hr_1,hk2,bK,cond_true,cond_false];done)|(simp[gD,dU,kd,jh,mV,hr_1,hk2,bK];done)|(simp_all [gD,dU,kd,jh,mV];done))⟩,kf ah [oF,oF,oT,oN (o:=.map aR 26) bg,oC (show ev 51 (.t (.int .i64 ((0:Nat):Int))::[.ptr (.arg 0) 0,.ptr (.arg 1) 0,.ptr (.arg 2) 0]) [.cells 61 [.ptr (.arg 3) 0],.cells 26 (bk 16 n s t ns ks),.cells 66 [.map (.arg 4)],.cells 63 (aV q),.map aR 26]=some (aN (.inl (aA k_1 b_1 n_1 s_1 t_1 je wh)) [.cells 61 [.ptr (.arg 3) 0],.cells 26 (bk 16 n s t ns ks),.cells 66 [.map (.arg 4)],.cells 63 (aV q),.map aR 26]) from(fq gA 0 (by omega)).trans (congrArg (λz=>some (aN z [.cells 61 [.ptr (.arg 3) 0],.cells 26 (bk 16 n s t ns ks),.cells 66 [.map (.arg 4)],.cells 63 (aV q),.map aR 26])) hr_1)),oN (o:=.map aR 26) bg,oC (show ev 52 [.t (aA k_1 b_1 n_1 s_1 t_1 je wh),.t (.int .u8 0)] []=some (aN (.inl (aA k_1 b_1 n_1 s_1 t_1 je wh)) []) from bC _ _ _ (by show some (aN (cond ((k_1==0)) _ _) [])=_;rw[hk2];rfl)),oB bK,oN (o:=.map aR 26) (λ_=>rfl)]⟩
   ·have mH:=ne_of_beq_false bK;rcases hr_4:f (jR ks 1) with Yv|UH
    ·have O6:=Eu _ (mP (by omega)) _ hr_4;obtain⟨Ev,Lj,yz,yA,Ll,Lm,Ln,rfl,_⟩:=T.aB O6;have aoH:=show ev 52 [.t (aA k_1 b_1 n_1 s_1 t_1 je wh),.t (.int .u8 0)] []=some (aN (.inl (aA k_1 b_1 n_1 s_1 t_1 je wh)) []) from bC _ _ _ (by show some (aN (cond ((k_1==0)) _ _) [])=_;rw[hk2];rfl);rcases aM ((Ev==0)) with O7|O7
     ·have akF:=eq_of_beq O7;refine⟨⟨.inl (aA Ev Lj yz yA Ll Lm Ln),(by first|(simp only[gD,dU,kd,jh,mV,hr_1,hr_4,hk2,bK,O7,cond_true,cond_false];done)|(simp[gD,dU,kd,jh,mV,hr_1,hr_4,hk2,bK,O7];done)|(simp_all [gD,dU,kd,jh,mV];done))⟩,kf ah [oF,oF,oT,oN (o:=.map aR 26) bg,oC (show ev 51 (.t (.int .i64 ((0:Nat):Int))::[.ptr (.arg 0) 0,.ptr (.arg 1) 0,.ptr (.arg 2) 0]) [.cells 61 [.ptr (.arg 3) 0],.cells 26 (bk 16 n s t ns ks),.cells 66 [.map (.arg 4)],.cells 63 (aV q),.map aR 26]=some (aN (.inl (aA k_1 b_1 n_1 s_1 t_1 je wh)) [.cells 61 [.ptr (.arg 3) 0],.cells 26 (bk 16 n s t ns ks),.cells 66 [.map (.arg 4)],.cells 63 (aV q),.map aR 26]) from(fq gA 0 (by omega)).trans (congrArg (λz=>some (aN z [.cells 61 [.ptr (.arg 3) 0],.cells 26 (bk 16 n s t ns ks),.cells 66 [.map (.arg 4)],.cells 63 (aV q),.map aR 26])) hr_1)),oN (o:=.map aR 26) bg,oC aoH,oB bK,oN (o:=.map aR 26) bg,oC (show ev 51 (.t (.int .i64 ((1:Nat):Int))::[.ptr (.arg 0) 0,.ptr (.arg 1) 0,.ptr (.arg 2) 0]) [.cells 61 [.ptr (.arg 3) 0],.cells 26 (bk 16 n s t ns ks),.cells 66 [.map (.arg 4)],.cells 63 (aV q),.map aR 26]=some (aN (.inl (aA Ev Lj yz yA Ll Lm Ln)) [.cells 61 [.ptr (.arg 3) 0],.cells 26 (bk 16 n s t ns ks),.cells 66 [.map (.arg 4)],.cells 63 (aV q),.map aR 26]) from(fq gA 1 (by omega)).trans (congrArg (λz=>some (aN z [.cells 61 [.ptr (.arg 3) 0],.cells 26 (bk 16 n s t ns ks),.cells 66 [.map (.arg 4)],.cells 63 (aV q),.map aR 26])) hr_4)),oN (o:=.map aR 26) bg,oC (show ev 52 [.t (aA Ev Lj yz yA Ll Lm Ln),.t (.int .u8 0)] []=some (aN (.inl (aA Ev Lj yz yA Ll Lm Ln)) []) from bC _ _ _ (by show some (aN (cond ((Ev==0)) _ _) [])=_;rw[O7];rfl)),oN (o:=.map aR 26) (λ_=>rfl)]⟩
     ·have akF:=ne_of_beq_false O7;refine⟨⟨.inr (7),(by first|(simp only[gD,dU,kd,jh,mV,hr_1,hr_4,hk2,bK,O7,cond_true,cond_false];done)|(simp[gD,dU,kd,jh,mV,hr_1,hr_4,hk2,bK,O7];done)|(simp_all [gD,dU,kd,jh,mV];done))⟩,kf ah [oF,oF,oT,oN (o:=.map aR 26) bg,oC (show ev 51 (.t (.int .i64 ((0:Nat):Int))::[.ptr (.arg 0) 0,.ptr (.arg 1) 0,.ptr (.arg 2) 0]) [.cells 61 [.ptr (.arg 3) 0],.cells 26 (bk 16 n s t ns ks),.cells 66 [.map (.arg 4)],.cells 63 (aV q),.map aR 26]=some (aN (.inl (aA k_1 b_1 n_1 s_1 t_1 je wh)) [.cells 61 [.ptr (.arg 3) 0],.cells 26 (bk 16 n s t ns ks),.cells 66 [.map (.arg 4)],.cells 63 (aV q),.map aR 26]) from(fq gA 0 (by omega)).trans (congrArg (λz=>some (aN z [.cells 61 [.ptr (.arg 3) 0],.cells 26 (bk 16 n s t ns ks),.cells 66 [.map (.arg 4)],.cells 63 (aV q),.map aR 26])) hr_1)),oN (o:=.map aR 26) bg,oC aoH,oB bK,oN (o:=.map aR 26) bg,oC (show ev 51 (.t (.int .i64 ((1:Nat):Int))::[.ptr (.arg 0) 0,.ptr (.arg 1) 0,.ptr (.arg 2) 0]) [.cells 61 [.ptr (.arg 3) 0],.cells 26 (bk 16 n s t ns ks),.cells 66 [.map (.arg 4)],.cells 63 (aV q),.map aR 26]=some (aN (.inl (aA Ev Lj yz yA Ll Lm Ln)) [.cells 61 [.ptr (.arg 3) 0],.cells 26 (bk 16 n s t ns ks),.cells 66 [.map (.arg 4)],.cells 63 (aV q),.map aR 26]) from(fq gA 1 (by omega)).trans (congrArg (λz=>some (aN z [.cells 61 [.ptr (.arg 3) 0],.cells 26 (bk 16 n s t ns ks),.cells 66 [.map (.arg 4)],.cells 63 (aV q),.map aR 26])) hr_4)),oN (o:=.map aR 26) bg,oC (show ev 52 [.t (aA Ev Lj yz yA Ll Lm Ln),.t (.int .u8 0)] []=some (aN (.inr (7)) []) from bC _ _ _ (by show some (aN (cond ((Ev==0)) _ _) [])=_;rw[O7];rfl))]⟩
    ·refine⟨⟨.inr (UH),(by first|(simp only[gD,dU,kd,jh,mV,hr_1,hr_4,hk2,bK,cond_true,cond_false];done)|(simp[gD,dU,kd,jh,mV,hr_1,hr_4,hk2,bK];done)|(simp_all [gD,dU,kd,jh,mV];done))⟩,kf ah [oF,oF,oT,oN (o:=.map aR 26) bg,oC (show ev 51 (.t (.int .i64 ((0:Nat):Int))::[.ptr (.arg 0) 0,.ptr (.arg 1) 0,.ptr (.arg 2) 0]) [.cells 61 [.ptr (.arg 3) 0],.cells 26 (bk 16 n s t ns ks),.cells 66 [.map (.arg 4)],.cells 63 (aV q),.map aR 26]=some (aN (.inl (aA k_1 b_1 n_1 s_1 t_1 je wh)) [.cells 61 [.ptr (.arg 3) 0],.cells 26 (bk 16 n s t ns ks),.cells 66 [.map (.arg 4)],.cells 63 (aV q),.map aR 26]) from(fq gA 0 (by omega)).trans (congrArg (λz=>some (aN z [.cells 61 [.ptr (.arg 3) 0],.cells 26 (bk 16 n s t ns ks),.cells 66 [.map (.arg 4)],.cells 63 (aV q),.map aR 26])) hr_1)),oN (o:=.map aR 26) bg,oC (show ev 52 [.t (aA k_1 b_1 n_1 s_1 t_1 je wh),.t (.int .u8 0)] []=some (aN (.inl (aA k_1 b_1 n_1 s_1 t_1 je wh)) []) from bC _ _ _ (by show some (aN (cond ((k_1==0)) _ _) [])=_;rw[hk2];rfl)),oB bK,oN (o:=.map aR 26) bg,oC (show ev 51 (.t (.int .i64 ((1:Nat):Int))::[.ptr (.arg 0) 0,.ptr (.arg 1) 0,.ptr (.arg 2) 0]) [.cells 61 [.ptr (.arg 3) 0],.cells 26 (bk 16 n s t ns ks),.cells 66 [.map (.arg 4)],.cells 63 (aV q),.map aR 26]=some (aN (.inr UH) [.cells 61 [.ptr (.arg 3) 0],.cells 26 (bk 16 n s t ns ks),.cells 66 [.map (.arg 4)],.cells 63 (aV q),.map aR 26]) from(fq gA 1 (by omega)).trans (congrArg (λz=>some (aN z [.cells 61 [.ptr (.arg 3) 0],.cells 26 (bk 16 n s t ns ks),.cells 66 [.map (.arg 4)],.cells 63 (aV q),.map aR 26])) hr_4))]⟩
  ·have Uq:=ne_of_beq_false hk2;refine⟨⟨.inr (7),(by first|(simp only[gD,dU,kd,jh,mV,hr_1,hk2,cond_true,cond_false];done)|(simp[gD,dU,kd,jh,mV,hr_1,hk2];done)|(simp_all [gD,dU,kd,jh,mV];done))⟩,kf ah [oF,oF,oT,oN (o:=.map aR 26) bg,oC (show ev 51 (.t (.int .i64 ((0:Nat):Int))::[.ptr (.arg 0) 0,.ptr (.arg 1) 0,.ptr (.arg 2) 0]) [.cells 61 [.ptr (.arg 3) 0],.cells 26 (bk 16 n s t ns ks),.cells 66 [.map (.arg 4)],.cells 63 (aV q),.map aR 26]=some (aN (.inl (aA k_1 b_1 n_1 s_1 t_1 je wh)) [.cells 61 [.ptr (.arg 3) 0],.cells 26 (bk 16 n s t ns ks),.cells 66 [.map (.arg 4)],.cells 63 (aV q),.map aR 26]) from(fq gA 0 (by omega)).trans (congrArg (λz=>some (aN z [.cells 61 [.ptr (.arg 3) 0],.cells 26 (bk 16 n s t ns ks),.cells 66 [.map (.arg 4)],.cells 63 (aV q),.map aR 26])) hr_1)),oN (o:=.map aR 26) bg,oC (show ev 52 [.t (aA k_1 b_1 n_1 s_1 t_1 je wh),.t (.int .u8 0)] []=some (aN (.inr (7)) []) from bC _ _ _ (by show some (aN (cond ((k_1==0)) _ _) [])=_;rw[hk2];rfl))]⟩
 ·refine⟨⟨.inr (w_1),(by first|(simp only[gD,dU,kd,jh,mV,hr_1,cond_true,cond_false];done)|(simp[gD,dU,kd,jh,mV,hr_1];done)|(simp_all [gD,dU,kd,jh,mV];done))⟩,kf ah [oF,oF,oT,oN (o:=.map aR 26) bg,oC (show ev 51 (.t (.int .i64 ((0:Nat):Int))::[.ptr (.arg 0) 0,.ptr (.arg 1) 0,.ptr (.arg 2) 0]) [.cells 61 [.ptr (.arg 3) 0],.cells 26 (bk 16 n s t ns ks),.cells 66 [.map (.arg 4)],.cells 63 (aV q),.map aR 26]=some (aN (.inr w_1) [.cells 61 [.ptr (.arg 3) 0],.cells 26 (bk 16 n s t ns ks),.cells 66 [.map (.arg 4)],.cells 63 (aV q),.map aR 26]) from(fq gA 0 (by omega)).trans (congrArg (λz=>some (aN z [.cells 61 [.ptr (.arg 3) 0],.cells 26 (bk 16 n s t ns ks),.cells 66 [.map (.arg 4)],.cells 63 (aV q),.map aR 26])) hr_1))]⟩
theorem agQ {C:ez}{g:FuncId}{a b:TV}{o:List aP}{r:bh}(h:ai C g [a,b,.t (.sl [])] o r):ai C g [a,b,.bW] o r:=λG w vs hw hg hd hH hv=>h G w vs hw hg hd hH ⟨hv.1,λj c u hc hu=>by
 match j,hc with
 |0,hc=>exact hv.2 0 c u hc hu
 |1,hc=>exact hv.2 1 c u hc hu
 |2,hc=>
  cases hc
  have h2:=hv.2 2 .bW u rfl hu
  cases h2
  exact .t _ _ (.Es _ _)
 |n+3,hc=>simp at hc⟩
theorem vJ {l:List Tree}{i:Nat}(h:i<l.length):l[i]?=some (jR l i):=by
 rw[fN (List.getElem?_eq_getElem h)];exact List.getElem?_eq_getElem h
def EvO (m:Int)(f:Tree->Tree ⊕ Int)(e:Tree)(ks:List Tree)(r:Tree ⊕ Int):Prop:=(∃w,iL f ks=.inr w/\r=.inr w)\/∃l,iL f ks=.inl l/\l.length=ks.length/\(∀y∈l,T .av y)/\QO m e l r
theorem UJ {f:_->Bool×List Tree×Tree}{a:List TV}{r1:bh}(q:Sc):∀x o r,px a [SF q] r1 x o=some r->iQ yl Ch (λx=>O4 x (f x)) x o=none:=λx o r hr=>by
 unfold px at hr;split at hr
 ·rename_i hp;unfold iQ;refine dif_neg λ⟨z,_,hz⟩=> ?_
  rw[hp.2] at hz;exact absurd (congrArg (λp=>p.2.length) hz) (by simp[yl])
 ·cases hr
theorem aoI (m:Int)(q:Sc)(op:Int)(n:Int)(s t:List UInt8)(ns ks:List Tree)(hE:T .aG (bf op n s t ns ks))(lk:ks.length<=4194304)(hks:∀y∈ks,T .aG y)(f:Tree->Tree ⊕ Int)(hf:∀x∈ks,ai (cf m) 27 [.ptr (.arg 0) 0,.t x,.map (.arg 1)] [.cells 63 (aV q),.map aR 26] (aN (f x) [.cells 63 (aV q),.map aR 26]))(Eu:∀x∈ks,∀v,f x=.inl v->T .av v)(hM:DY op ns.length ks.length)(h6:op≠6)(Pk:op≠14)(Oc:op≠15)(h16:op≠16)(hs:SD q):∃r:{r:Tree ⊕ Int // EvO m f (bf op n s t ns ks) ks r},ai (cf m) 27 [.ptr (.arg 0) 0,.t (bf op n s t ns ks),.map (.arg 1)] [.cells 63 (aV q),.map aR 26] (aN r.1 [.cells 63 (aV q),.map aR 26]):=by
 obtain⟨⟨hM1,hM2⟩,_⟩:=id hM;obtain⟨G,hG⟩:=bJ (α:=List Tree) (P:=PO q (bf op n s t ns ks)) (Q:=λl (r:Tree ⊕ Int)=>ai (cf m) (gOf op) [.ptr (.arg 0) 0,.t (bf op n s t ns ks),.t (.sl l)] [SF q] (aN r [SF q])/\QO m (bf op n s t ns ks) l r) λl hl=>akA m q (bf op n s t ns ks) l hl h6 Pk Oc h16
 obtain⟨ev,aK,gA,Bl⟩:∃ev,aD (cf m) ev/\Has ev 51 (O5 [.ptr (.arg 0) 0,.ptr (.arg 1) 0,.ptr (.arg 2) 0] [.cells 61 [.ptr (.arg 3) 0],.cells 26 (bk op n s t ns ks),.cells 66 [.map (.arg 4)],.cells 63 (aV q),.map aR 26] ks.length (λi=>f (jR ks i)))/\Has ev (gOf op) (agN q (bf op n s t ns ks) G):=⟨_,(aq (Ei (λi hi=>by obtain⟨⟨r,rfl⟩,h⟩:=K5 m q op n s t ns ks lk hks f hf Eu i hi;exact h)) (aq (agO (λl hl=>(hG l hl).1)) aF)),au,(az (akD op) au)⟩;refine AX.start 61 3 Tryz.func27 rfl (by decide) rfl rfl (by decide) ?_;refine AX.frames ?_;refine kl (α:=Nat×List Tree) ah 0 [] 61 4 [.loc [0],.loc [1],.loc [2],.loc [3]] [.loc [0],.loc [1],.loc [2],.loc [3],.arg 0,.arg 1] [3,4,5,6,7,9,42,43] (λx=>(match x.2 with| []=>⟨eD 61 [(3,.ptr (.loc [0]) 0),(4,.ptr (.loc [1]) 0),(5,.ptr (.loc [2]) 0),(6,.ptr (.loc [3]) 0),(7,.fn (.func 51) [] [.ptr (.loc [0]) 0,.ptr (.loc [1]) 0,.ptr (.loc [2]) 0]),(9,.bW),(42,.t (.int .i64 ((ks.length:Nat):Int))),(43,.t (.int .i64 ((x.1:Nat):Int)))],[(.loc [0],.cells 61 [.ptr (.arg 0) 0]),(.loc [1],.cells 26 (bk op n s t ns ks)),(.loc [2],.cells 66 [.map (.arg 1)]),(.loc [3],.cells 32 [.t (.int .u8 0),.t (.bool false),.t (.int .i64 0),.t (.str []),.t (.str []),.bW,.bW]),(.arg 0,.cells 63 (aV q)),(.arg 1,.map aR 26)],4⟩|_::_=>⟨eD 61 [(3,.ptr (.loc [0]) 0),(4,.ptr (.loc [1]) 0),(5,.ptr (.loc [2]) 0),(6,.ptr (.loc [3]) 0),(7,.fn (.func 51) [] [.ptr (.loc [0]) 0,.ptr (.loc [1]) 0,.ptr (.loc [2]) 0]),(9,.ref (.loc [4]) 0 x.2.length),(42,.t (.int .i64 ((ks.length:Nat):Int))),(43,.t (.int .i64 ((x.1:Nat):Int)))],[(.loc [0],.cells 61 [.ptr (.arg 0) 0]),(.loc [1],.cells 26 (bk op n s t ns ks)),(.loc [2],.cells 66 [.map (.arg 1)]),(.loc [3],.cells 32 [.t (.int .u8 0),.t (.bool false),.t (.int .i64 0),.t (.str []),.t (.str []),.bW,.bW]),(.loc [4],.arr (32,true) 7 false ((flat x.2).map .t)),(.arg 0,.cells 63 (aV q)),(.arg 1,.map aR 26)],5⟩)) (λx=>(x.1<=ks.length)/\(∀y∈x.2,T .av y)/\(x.2.length=x.1)/\(iL f (ks.take x.1)=.inl x.2)) (λx=>ks.length - x.1) (⟨0,[]⟩) (j6 (Tryz.f27.body.getD .skip) 15) [oB (beq_eq_false_iff_ne.mpr Pk),oB (beq_eq_false_iff_ne.mpr Oc),oB (beq_eq_false_iff_ne.mpr h16),oN (o:=.map aR 26) (λ_=>rfl)] ⟨Nat.zero_le _,λy hy=>(by cases hy),rfl,rfl⟩ (λx hok=> ?_);obtain⟨i_1,jb⟩:=x;replace hok:(i_1<=ks.length)/\(∀y∈jb,T .av y)/\(jb.length=i_1)/\(iL f (ks.take i_1)=.inl jb):=hok;obtain⟨cM,bO,fM,gT⟩:=hok;rcases jb with _|⟨jG,jH⟩
 ·rcases aM (decide (((i_1:Nat):Int)<((ks.length:Nat):Int))) with cq|cq
  ·have jP:=of_decide_eq_true cq;rcases Ab:f (jR ks i_1) with v_3|w_3
   ·have adu:=Eu _ (mP (by omega)) _ Ab;obtain⟨Wj,Wk,jx,iu,Wl,fZ,Wm,rfl,_⟩:=T.aB adu;exact⟨.inl ⟨⟨i_1+1,([(aA Wj Wk jx iu Wl fZ Wm)]:List Tree)⟩,⟨⟨(by show(i_1+1)<=ks.length;omega),(λy hy=>by rw[List.mem_singleton.1 hy];exact adu),(by have h9:=fM;(try dsimp only at h9 ⊢);(try simp only[List.length_append,List.length_cons,List.length_nil] at h9 ⊢);omega),(ym gT (vJ (by omega)) Ab)⟩,(by show(ks.length - (i_1+1))<(ks.length - i_1);omega)⟩⟩,vS ah 0 [] 61 5 [.loc [0],.loc [1],.loc [2],.loc [3],.loc [12]] [.loc [0],.loc [1],.loc [2],.loc [3],.loc [12],.arg 0,.arg 1] [3,4,5,6,7,9,42,43] [oB cq,oN (o:=.map aR 26) bg,oC (show ev 51 (.t (.int .i64 ((i_1:Nat):Int))::[.ptr (.arg 0) 0,.ptr (.arg 1) 0,.ptr (.arg 2) 0]) [.cells 61 [.ptr (.arg 3) 0],.cells 26 (bk op n s t ns ks),.cells 66 [.map (.arg 4)],.cells 63 (aV q),.map aR 26]=some (aN (.inl (aA Wj Wk jx iu Wl fZ Wm)) [.cells 61 [.ptr (.arg 3) 0],.cells 26 (bk op n s t ns ks),.cells 66 [.map (.arg 4)],.cells 63 (aV q),.map aR 26]) from(fq gA i_1 (by omega)).trans (congrArg (λz=>some (aN z [.cells 61 [.ptr (.arg 3) 0],.cells 26 (bk op n s t ns ks),.cells 66 [.map (.arg 4)],.cells 63 (aV q),.map aR 26])) Ab)),oN (o:=.map aR 26) bg,oU true 7 ([(aA Wj Wk jx iu Wl fZ Wm)]:List Tree) (eP.cons ⟨rfl,rfl,rfl⟩ eP.nil) (by simp),oA (([(aA Wj Wk jx iu Wl fZ Wm)]:List Tree).length*96) cT,oI (i_1) (by omega),cZ 32 7 ([(aA Wj Wk jx iu Wl fZ Wm)]:List Tree),oN (o:=.map aR 26) (λ_=>rfl)]⟩
   ·refine kx ah [oB cq,oN (o:=.map aR 26) bg,oC (show ev 51 (.t (.int .i64 ((i_1:Nat):Int))::[.ptr (.arg 0) 0,.ptr (.arg 1) 0,.ptr (.arg 2) 0]) [.cells 61 [.ptr (.arg 3) 0],.cells 26 (bk op n s t ns ks),.cells 66 [.map (.arg 4)],.cells 63 (aV q),.map aR 26]=some (aN (.inr w_3) [.cells 61 [.ptr (.arg 3) 0],.cells 26 (bk op n s t ns ks),.cells 66 [.map (.arg 4)],.cells 63 (aV q),.map aR 26]) from(fq gA i_1 (by omega)).trans (congrArg (λz=>some (aN z [.cells 61 [.ptr (.arg 3) 0],.cells 26 (bk op n s t ns ks),.cells 66 [.map (.arg 4)],.cells 63 (aV q),.map aR 26])) Ab))] ?_;refine⟨⟨.inr (w_3),.inl ⟨_,yo gT (vJ (by omega)) Ab,rfl⟩⟩,kf ah []⟩
  ·have jP:=of_decide_eq_false cq;refine kx ah [oB cq] ?_;have Wn:iL f ks=.inl ([]:List Tree):=by have h:=gT;rw[show i_1=ks.length by omega,List.take_length] at h;exact h
   have Sb:List.length ([]:List Tree)=ks.length:=by have h:=fM;omega
   have Sd:PO q (bf op n s t ns ks) ([]:List Tree):=⟨hs,hE,by omega,bO,by show DY op ns.length _;rw[Sb];exact hM⟩;have akG:=(hG _ Sd).2;rcases hr_4:G ([]:List Tree) with Yv|UH
   ·have O6:=akG.1.1 _ hr_4;obtain⟨Ev,Lj,yz,yA,Ll,Lm,Ln,rfl,_⟩:=T.aB O6;refine⟨⟨.inl (aA Ev Lj yz yA Ll Lm Ln),.inr ⟨([]:List Tree),Wn,Sb,Sd.2.2.2.1,by rw[← hr_4];exact akG⟩⟩,kf ah [oO (Ej m (op:=op) (by omega) (by omega) Pk Oc h16),oC (show ev (gOf op) [.ptr (.arg 0) 0,.t (bf op n s t ns ks),.t (.sl ([]:List Tree))] [.cells 63 (aV q)]=some (aN (.inl (aA Ev Lj yz yA Ll Lm Ln)) [.cells 63 (aV q)]) from(agP Bl Sd).trans (congrArg (λz=>some (aN z [SF q])) hr_4)),oN (o:=.map aR 26) (λ_=>rfl)]⟩
   ·refine⟨⟨.inr (UH),.inr ⟨([]:List Tree),Wn,Sb,Sd.2.2.2.1,by rw[← hr_4];exact akG⟩⟩,kf ah [oO (Ej m (op:=op) (by omega) (by omega) Pk Oc h16),oC (show ev (gOf op) [.ptr (.arg 0) 0,.t (bf op n s t ns ks),.t (.sl ([]:List Tree))] [.cells 63 (aV q)]=some (aN (.inr UH) [.cells 63 (aV q)]) from(agP Bl Sd).trans (congrArg (λz=>some (aN z [SF q])) hr_4))]⟩
 ·rcases aM (decide (((i_1:Nat):Int)<((ks.length:Nat):Int))) with jm|jm
  ·have BW:=of_decide_eq_true jm;rcases AV:f (jR ks i_1) with v_6|Yt
   ·have adv:=Eu _ (mP (by omega)) _ AV;obtain⟨k_6,b_6,qq,rE,t_6,N_6,L_6,rfl,_⟩:=T.aB adv;exact⟨.inl ⟨⟨i_1+1,(jG::jH)++([(aA k_6 b_6 qq rE t_6 N_6 L_6)]:List Tree)⟩,⟨⟨(by show(i_1+1)<=ks.length;omega),(λy hy=>(List.mem_append.1 hy).elim (bO y) (λh=>by rw[List.mem_singleton.1 h];exact adv)),(by have h9:=fM;(try dsimp only at h9 ⊢);(try simp only[List.length_append,List.length_cons,List.length_nil] at h9 ⊢);omega),(ym gT (vJ (by omega)) AV)⟩,(by show(ks.length - (i_1+1))<(ks.length - i_1);omega)⟩⟩,vS ah 0 [] 61 5 [.loc [0],.loc [1],.loc [2],.loc [3],.loc [4]] [.loc [0],.loc [1],.loc [2],.loc [3],.loc [4],.arg 0,.arg 1] [3,4,5,6,7,9,42,43] [oB jm,oN (o:=.map aR 26) bg,oC (show ev 51 (.t (.int .i64 ((i_1:Nat):Int))::[.ptr (.arg 0) 0,.ptr (.arg 1) 0,.ptr (.arg 2) 0]) [.cells 61 [.ptr (.arg 3) 0],.cells 26 (bk op n s t ns ks),.cells 66 [.map (.arg 4)],.cells 63 (aV q),.map aR 26]=some (aN (.inl (aA k_6 b_6 qq rE t_6 N_6 L_6)) [.cells 61 [.ptr (.arg 3) 0],.cells 26 (bk op n s t ns ks),.cells 66 [.map (.arg 4)],.cells 63 (aV q),.map aR 26]) from(fq gA i_1 (by omega)).trans (congrArg (λz=>some (aN z [.cells 61 [.ptr (.arg 3) 0],.cells 26 (bk op n s t ns ks),.cells 66 [.map (.arg 4)],.cells 63 (aV q),.map aR 26])) AV)),oN (o:=.map aR 26) bg,oU true 7 ([(aA k_6 b_6 qq rE t_6 N_6 L_6)]:List Tree) (eP.cons ⟨rfl,rfl,rfl⟩ eP.nil) (by simp),oW true 7 (jG::jH) (aH bO),oA (((jG::jH).length+([(aA k_6 b_6 qq rE t_6 N_6 L_6)]:List Tree).length) *96) cT,oI (i_1) (by omega),cZ 32 7 ((jG::jH)++([(aA k_6 b_6 qq rE t_6 N_6 L_6)]:List Tree)),oN (o:=.map aR 26) (λ_=>rfl)]⟩
   ·refine kx ah [oB jm,oN (o:=.map aR 26) bg,oC (show ev 51 (.t (.int .i64 ((i_1:Nat):Int))::[.ptr (.arg 0) 0,.ptr (.arg 1) 0,.ptr (.arg 2) 0]) [.cells 61 [.ptr (.arg 3) 0],.cells 26 (bk op n s t ns ks),.cells 66 [.map (.arg 4)],.cells 63 (aV q),.map aR 26]=some (aN (.inr Yt) [.cells 61 [.ptr (.arg 3) 0],.cells 26 (bk op n s t ns ks),.cells 66 [.map (.arg 4)],.cells 63 (aV q),.map aR 26]) from(fq gA i_1 (by omega)).trans (congrArg (λz=>some (aN z [.cells 61 [.ptr (.arg 3) 0],.cells 26 (bk op n s t ns ks),.cells 66 [.map (.arg 4)],.cells 63 (aV q),.map aR 26])) AV))] ?_;refine⟨⟨.inr (Yt),.inl ⟨_,yo gT (vJ (by omega)) AV,rfl⟩⟩,kf ah []⟩
  ·have BW:=of_decide_eq_false jm;refine kx ah [oB jm] ?_;have Se:iL f ks=.inl (jG::jH):=by have h:=gT;rw[show i_1=ks.length by omega,List.take_length] at h;exact h
   have K6:List.length (jG::jH)=ks.length:=by have h:=fM;omega
   have Sf:PO q (bf op n s t ns ks) (jG::jH):=⟨hs,hE,by omega,bO,by show DY op ns.length _;rw[K6];exact hM⟩;have akH:=(hG _ Sf).2;rcases adw:G (jG::jH) with v_7|w_7
   ·have adx:=akH.1.1 _ adw;obtain⟨k_7,b_7,M1,M3,t_7,N_7,L_7,rfl,_⟩:=T.aB adx;refine⟨⟨.inl (aA k_7 b_7 M1 M3 t_7 N_7 L_7),.inr ⟨(jG::jH),Se,K6,Sf.2.2.2.1,by rw[← adw];exact akH⟩⟩,kf ah [oO (Ej m (op:=op) (by omega) (by omega) Pk Oc h16),oW true 7 (jG::jH) (aH bO),oC (show ev (gOf op) [.ptr (.arg 0) 0,.t (bf op n s t ns ks),.t (.sl (jG::jH))] [.cells 63 (aV q)]=some (aN (.inl (aA k_7 b_7 M1 M3 t_7 N_7 L_7)) [.cells 63 (aV q)]) from(agP Bl Sf).trans (congrArg (λz=>some (aN z [SF q])) adw)),oN (o:=.map aR 26) (λ_=>rfl)]⟩
   ·refine⟨⟨.inr (w_7),.inr ⟨(jG::jH),Se,K6,Sf.2.2.2.1,by rw[← adw];exact akH⟩⟩,kf ah [oO (Ej m (op:=op) (by omega) (by omega) Pk Oc h16),oW true 7 (jG::jH) (aH bO),oC (show ev (gOf op) [.ptr (.arg 0) 0,.t (bf op n s t ns ks),.t (.sl (jG::jH))] [.cells 63 (aV q)]=some (aN (.inr w_7) [.cells 63 (aV q)]) from(agP Bl Sf).trans (congrArg (λz=>some (aN z [SF q])) adw))]⟩
theorem akI (m:Int)(q:Sc)(n:Int)(s t:List UInt8)(ns ks:List Tree)(hE:T .aG (bf 6 n s t ns ks))(lk:ks.length<=4194304)(hks:∀y∈ks,T .aG y)(f:Tree->Tree ⊕ Int)(hf:∀x∈ks,ai (cf m) 27 [.ptr (.arg 0) 0,.t x,.map (.arg 1)] [.cells 63 (aV q),.map aR 26] (aN (f x) [.cells 63 (aV q),.map aR 26]))(Eu:∀x∈ks,∀v,f x=.inl v->T .av v)(h16:ks.length<=16):∃r:{r:Tree ⊕ Int // EvO m f (bf 6 n s t ns ks) ks r},ai (cf m) 27 [.ptr (.arg 0) 0,.t (bf 6 n s t ns ks),.map (.arg 1)] [.cells 63 (aV q),.map aR 26] (aN r.1 [.cells 63 (aV q),.map aR 26]):=by
 obtain⟨ady,adz⟩:=ads m;obtain⟨⟨v0,hv0⟩,hc0⟩:=adq m q (bf 6 n s t ns ks) hE;obtain⟨ev,aK,gA,adA⟩:∃ev,aD (cf m) ev/\Has ev 51 (O5 [.ptr (.arg 0) 0,.ptr (.arg 1) 0,.ptr (.arg 2) 0] [.cells 61 [.ptr (.arg 3) 0],.cells 26 (bk 6 n s t ns ks),.cells 66 [.map (.arg 4)],.cells 63 (aV q),.map aR 26] ks.length (λi=>f (jR ks i)))/\Has ev 55 (Kg (iQ yl (Ch) (λx=>O4 x (ady x))) (px [.ptr (.arg 0) 0,.t (bf 6 n s t ns ks),.bW] [.cells 63 (aV q)] (.ret (.t v0) [.cells 63 (aV q)] []))):=⟨_,(aq (Ei (λi hi=>by obtain⟨⟨r,rfl⟩,h⟩:=K5 m q 6 n s t ns ks lk hks f hf Eu i hi;exact h)) (aq (Dv (dD (λ⟨q,e,L,n⟩ hx=>(adz q e L n hx).1)) (fT (agQ hc0))) aF)),au,(az rfl au)⟩;refine AX.start 61 3 Tryz.func27 rfl (by decide) rfl rfl (by decide) ?_;refine AX.frames ?_;refine kl (α:=Nat×List Tree) ah 2305843009213693952 [] 61 4 [.loc [0],.loc [1],.loc [2],.loc [3]] [.loc [0],.loc [1],.loc [2],.loc [3],.arg 0,.arg 1] [3,4,5,6,7,9,42,43] (λx=>(match x.2 with| []=>⟨eD 61 [(3,.ptr (.loc [0]) 0),(4,.ptr (.loc [1]) 0),(5,.ptr (.loc [2]) 0),(6,.ptr (.loc [3]) 0),(7,.fn (.func 51) [] [.ptr (.loc [0]) 0,.ptr (.loc [1]) 0,.ptr (.loc [2]) 0]),(9,.bW),(42,.t (.int .i64 ((ks.length:Nat):Int))),(43,.t (.int .i64 ((x.1:Nat):Int)))],[(.loc [0],.cells 61 [.ptr (.arg 0) 0]),(.loc [1],.cells 26 (bk 6 n s t ns ks)),(.loc [2],.cells 66 [.map (.arg 1)]),(.loc [3],.cells 32 [.t (.int .u8 0),.t (.bool false),.t (.int .i64 0),.t (.str []),.t (.str []),.bW,.bW]),(.arg 0,.cells 63 (aV q)),(.arg 1,.map aR 26)],4⟩|_::_=>⟨eD 61 [(3,.ptr (.loc [0]) 0),(4,.ptr (.loc [1]) 0),(5,.ptr (.loc [2]) 0),(6,.ptr (.loc [3]) 0),(7,.fn (.func 51) [] [.ptr (.loc [0]) 0,.ptr (.loc [1]) 0,.ptr (.loc [2]) 0]),(9,.ref (.loc [4]) 0 x.2.length),(42,.t (.int .i64 ((ks.length:Nat):Int))),(43,.t (.int .i64 ((x.1:Nat):Int)))],[(.loc [0],.cells 61 [.ptr (.arg 0) 0]),(.loc [1],.cells 26 (bk 6 n s t ns ks)),(.loc [2],.cells 66 [.map (.arg 1)]),(.loc [3],.cells 32 [.t (.int .u8 0),.t (.bool false),.t (.int .i64 0),.t (.str []),.t (.str []),.bW,.bW]),(.loc [4],.arr (32,true) 7 false ((flat x.2).map .t)),(.arg 0,.cells 63 (aV q)),(.arg 1,.map aR 26)],5⟩)) (λx=>(x.1<=ks.length)/\(∀y∈x.2,T .av y)/\(x.2.length=x.1)/\(iL f (ks.take x.1)=.inl x.2)) (λx=>ks.length - x.1) (⟨0,[]⟩) (j6 (Tryz.f27.body.getD .skip) 15) [oF,oF,oF,oN (o:=.map aR 26) (λ_=>rfl)] ⟨Nat.zero_le _,λy hy=>(by cases hy),rfl,rfl⟩ (λx hok=> ?_);obtain⟨i_1,jb⟩:=x;replace hok:(i_1<=ks.length)/\(∀y∈jb,T .av y)/\(jb.length=i_1)/\(iL f (ks.take i_1)=.inl jb):=hok;obtain⟨cM,bO,fM,gT⟩:=hok;have akJ:=Ej m (op:=6) (by decide) (by decide) (by decide) (by decide) (by decide);rcases jb with _|⟨jG,jH⟩
 ·rcases aM (decide (((i_1:Nat):Int)<((ks.length:Nat):Int))) with cq|cq
  ·have jP:=of_decide_eq_true cq;rcases Ab:f (jR ks i_1) with v_3|w_3
   ·have adu:=Eu _ (mP (by omega)) _ Ab;obtain⟨Wj,Wk,jx,iu,Wl,fZ,Wm,rfl,_⟩:=T.aB adu;exact⟨.inl ⟨⟨i_1+1,([(aA Wj Wk jx iu Wl fZ Wm)]:List Tree)⟩,⟨⟨(by show(i_1+1)<=ks.length;omega),(λy hy=>by rw[List.mem_singleton.1 hy];exact adu),(by have h9:=fM;(try dsimp only at h9 ⊢);(try simp only[List.length_append,List.length_cons,List.length_nil] at h9 ⊢);omega),(ym gT (vJ (by omega)) Ab)⟩,(by show(ks.length - (i_1+1))<(ks.length - i_1);omega)⟩⟩,vS ah 2305843009213693952 [] 61 5 [.loc [0],.loc [1],.loc [2],.loc [3],.loc [12]] [.loc [0],.loc [1],.loc [2],.loc [3],.loc [12],.arg 0,.arg 1] [3,4,5,6,7,9,42,43] [oB cq,oN (o:=.map aR 26) bg,oC (show ev 51 (.t (.int .i64 ((i_1:Nat):Int))::[.ptr (.arg 0) 0,.ptr (.arg 1) 0,.ptr (.arg 2) 0]) [.cells 61 [.ptr (.arg 3) 0],.cells 26 (bk 6 n s t ns ks),.cells 66 [.map (.arg 4)],.cells 63 (aV q),.map aR 26]=some (aN (.inl (aA Wj Wk jx iu Wl fZ Wm)) [.cells 61 [.ptr (.arg 3) 0],.cells 26 (bk 6 n s t ns ks),.cells 66 [.map (.arg 4)],.cells 63 (aV q),.map aR 26]) from(fq gA i_1 (by omega)).trans (congrArg (λz=>some (aN z [.cells 61 [.ptr (.arg 3) 0],.cells 26 (bk 6 n s t ns ks),.cells 66 [.map (.arg 4)],.cells 63 (aV q),.map aR 26])) Ab)),oN (o:=.map aR 26) bg,oU true 7 ([(aA Wj Wk jx iu Wl fZ Wm)]:List Tree) (eP.cons ⟨rfl,rfl,rfl⟩ eP.nil) (by simp),oA (([(aA Wj Wk jx iu Wl fZ Wm)]:List Tree).length*96) cT,oI (i_1) (by omega),cZ 32 7 ([(aA Wj Wk jx iu Wl fZ Wm)]:List Tree),oN (o:=.map aR 26) (λ_=>rfl)]⟩
   ·refine Fi ah 2305843009213693952 [] [oB cq,oN (o:=.map aR 26) bg,oC (show ev 51 (.t (.int .i64 ((i_1:Nat):Int))::[.ptr (.arg 0) 0,.ptr (.arg 1) 0,.ptr (.arg 2) 0]) [.cells 61 [.ptr (.arg 3) 0],.cells 26 (bk 6 n s t ns ks),.cells 66 [.map (.arg 4)],.cells 63 (aV q),.map aR 26]=some (aN (.inr w_3) [.cells 61 [.ptr (.arg 3) 0],.cells 26 (bk 6 n s t ns ks),.cells 66 [.map (.arg 4)],.cells 63 (aV q),.map aR 26]) from(fq gA i_1 (by omega)).trans (congrArg (λz=>some (aN z [.cells 61 [.ptr (.arg 3) 0],.cells 26 (bk 6 n s t ns ks),.cells 66 [.map (.arg 4)],.cells 63 (aV q),.map aR 26])) Ab))] ?_;refine⟨⟨.inr (w_3),.inl ⟨_,yo gT (vJ (by omega)) Ab,rfl⟩⟩,qH ah 2305843009213693952 [] []⟩
  ·have jP:=of_decide_eq_false cq;refine Fi ah 2305843009213693952 [] [oB cq] ?_;have Wn:iL f ks=.inl ([]:List Tree):=by have h:=gT;rw[show i_1=ks.length by omega,List.take_length] at h;exact h
   have Sb:List.length ([]:List Tree)=ks.length:=by have h:=fM;omega
   obtain⟨Yv,O6,aoJ⟩:∃v,v=v0/\T .av v:=⟨v0,rfl,hv0⟩;obtain⟨Ev,Lj,yz,yA,Ll,Lm,Ln,rfl,_⟩:=T.aB aoJ;refine⟨⟨.inl (aA Ev Lj yz yA Ll Lm Ln),.inr ⟨([]:List Tree),Wn,Sb,(λy hy=>by cases hy),⟨(λv hv=>by cases hv;exact aoJ),λw hw=>(by cases hw)⟩,(λh=>absurd h (by show(6:Int)≠12;decide)),(λh=>absurd h (by show(6:Int)≠13;decide)),(λh=>absurd h (by show ¬((6:Int)=17\/(6:Int)=18);decide)),(λh=>absurd h (by show ¬(19:Int)<=6;decide)),(λh=>absurd h (by show(6:Int)≠24;decide)),(λh=>absurd h (by show(6:Int)≠25;decide))⟩⟩,qH ah 2305843009213693952 [] [oO akJ,oC (show ev 55 [.ptr (.arg 0) 0,.t (bf 6 n s t ns ks),.bW] [.cells 63 (aV q)]=some (bh.ret (.t (aA Ev Lj yz yA Ll Lm Ln)) [.cells 63 (aV q)] []) from(jo (Dw adA (UJ _))).trans (congrArg (λz=>some (bh.ret (.t z) [.cells 63 (aV q)] [])) O6.symm)),oN (o:=.map aR 26) (λ_=>rfl)]⟩
 ·rcases aM (decide (((i_1:Nat):Int)<((ks.length:Nat):Int))) with jm|jm
  ·have BW:=of_decide_eq_true jm;rcases AV:f (jR ks i_1) with v_6|Yt
   ·have adv:=Eu _ (mP (by omega)) _ AV;obtain⟨k_6,b_6,qq,rE,t_6,N_6,L_6,rfl,_⟩:=T.aB adv;exact⟨.inl ⟨⟨i_1+1,(jG::jH)++([(aA k_6 b_6 qq rE t_6 N_6 L_6)]:List Tree)⟩,⟨⟨(by show(i_1+1)<=ks.length;omega),(λy hy=>(List.mem_append.1 hy).elim (bO y) (λh=>by rw[List.mem_singleton.1 h];exact adv)),(by have h9:=fM;(try dsimp only at h9 ⊢);(try simp only[List.length_append,List.length_cons,List.length_nil] at h9 ⊢);omega),(ym gT (vJ (by omega)) AV)⟩,(by show(ks.length - (i_1+1))<(ks.length - i_1);omega)⟩⟩,vS ah 2305843009213693952 [] 61 5 [.loc [0],.loc [1],.loc [2],.loc [3],.loc [4]] [.loc [0],.loc [1],.loc [2],.loc [3],.loc [4],.arg 0,.arg 1] [3,4,5,6,7,9,42,43] [oB jm,oN (o:=.map aR 26) bg,oC (show ev 51 (.t (.int .i64 ((i_1:Nat):Int))::[.ptr (.arg 0) 0,.ptr (.arg 1) 0,.ptr (.arg 2) 0]) [.cells 61 [.ptr (.arg 3) 0],.cells 26 (bk 6 n s t ns ks),.cells 66 [.map (.arg 4)],.cells 63 (aV q),.map aR 26]=some (aN (.inl (aA k_6 b_6 qq rE t_6 N_6 L_6)) [.cells 61 [.ptr (.arg 3) 0],.cells 26 (bk 6 n s t ns ks),.cells 66 [.map (.arg 4)],.cells 63 (aV q),.map aR 26]) from(fq gA i_1 (by omega)).trans (congrArg (λz=>some (aN z [.cells 61 [.ptr (.arg 3) 0],.cells 26 (bk 6 n s t ns ks),.cells 66 [.map (.arg 4)],.cells 63 (aV q),.map aR 26])) AV)),oN (o:=.map aR 26) bg,oU true 7 ([(aA k_6 b_6 qq rE t_6 N_6 L_6)]:List Tree) (eP.cons ⟨rfl,rfl,rfl⟩ eP.nil) (by simp),oW true 7 (jG::jH) (aH bO),oA (((jG::jH).length+([(aA k_6 b_6 qq rE t_6 N_6 L_6)]:List Tree).length) *96) cT,oI (i_1) (by omega),cZ 32 7 ((jG::jH)++([(aA k_6 b_6 qq rE t_6 N_6 L_6)]:List Tree)),oN (o:=.map aR 26) (λ_=>rfl)]⟩
   ·refine Fi ah 2305843009213693952 [] [oB jm,oN (o:=.map aR 26) bg,oC (show ev 51 (.t (.int .i64 ((i_1:Nat):Int))::[.ptr (.arg 0) 0,.ptr (.arg 1) 0,.ptr (.arg 2) 0]) [.cells 61 [.ptr (.arg 3) 0],.cells 26 (bk 6 n s t ns ks),.cells 66 [.map (.arg 4)],.cells 63 (aV q),.map aR 26]=some (aN (.inr Yt) [.cells 61 [.ptr (.arg 3) 0],.cells 26 (bk 6 n s t ns ks),.cells 66 [.map (.arg 4)],.cells 63 (aV q),.map aR 26]) from(fq gA i_1 (by omega)).trans (congrArg (λz=>some (aN z [.cells 61 [.ptr (.arg 3) 0],.cells 26 (bk 6 n s t ns ks),.cells 66 [.map (.arg 4)],.cells 63 (aV q),.map aR 26])) AV))] ?_;refine⟨⟨.inr (Yt),.inl ⟨_,yo gT (vJ (by omega)) AV,rfl⟩⟩,qH ah 2305843009213693952 [] []⟩
  ·have BW:=of_decide_eq_false jm;refine Fi ah 2305843009213693952 [] [oB jm] ?_;have Se:iL f ks=.inl (jG::jH):=by have h:=gT;rw[show i_1=ks.length by omega,List.take_length] at h;exact h
   have K6:List.length (jG::jH)=ks.length:=by have h:=fM;omega
   have XJ:Ch (q,(bf 6 n s t ns ks),(jG::jH),(jG::jH).length):=⟨by have h9:=K6;show List.length (jG::jH)<=16;omega,bO,rfl,hE⟩;have hq8:=adz q (bf 6 n s t ns ks) (jG::jH) ((jG::jH).length) XJ;obtain⟨akK,aoK,v_7,Ku⟩:∃b S v,(ady (q,(bf 6 n s t ns ks),(jG::jH),(jG::jH).length))=(b,S,v):=⟨_,_,_,rfl⟩;have adx:T .av v_7:=by have h9:=hq8.2;rw[Ku] at h9;exact h9
   obtain⟨k_7,b_7,M1,M3,t_7,N_7,L_7,rfl,_⟩:=T.aB adx;rcases aM akK with akL|akL
   ·refine⟨⟨.inl (aA k_7 b_7 M1 M3 t_7 N_7 L_7),.inr ⟨(jG::jH),Se,K6,bO,⟨(λv hv=>by cases hv;exact adx),λw hw=>(by cases hw)⟩,(λh=>absurd h (by show(6:Int)≠12;decide)),(λh=>absurd h (by show(6:Int)≠13;decide)),(λh=>absurd h (by show ¬((6:Int)=17\/(6:Int)=18);decide)),(λh=>absurd h (by show ¬(19:Int)<=6;decide)),(λh=>absurd h (by show(6:Int)≠24;decide)),(λh=>absurd h (by show(6:Int)≠25;decide))⟩⟩,qH ah 2305843009213693952 [] [oO akJ,cZ 32 7 (jG::jH),oC (show ev 55 [.ptr (.arg 0) 0,.t (bf 6 n s t ns ks),.ref (.arg 1) 0 (jG::jH).length] [.cells 63 (aV q),.arr (32,true) 7 false ((flat (jG::jH)).map .t)]=some (bh.ret (.t (aA k_7 b_7 M1 M3 t_7 N_7 L_7)) [.cells 63 (aV q),.dead] []) from(fH (vu adA) R9 (q,(bf 6 n s t ns ks),(jG::jH),(jG::jH).length) XJ rfl rfl).trans (by rw[Ku];show some (bh.ret _ [_,cond akK _ _] [])=_;rw[akL];rfl)),oN (o:=.map aR 26) (λ_=>rfl)]⟩
   ·refine⟨⟨.inl (aA k_7 b_7 M1 M3 t_7 N_7 L_7),.inr ⟨(jG::jH),Se,K6,bO,⟨(λv hv=>by cases hv;exact adx),λw hw=>(by cases hw)⟩,(λh=>absurd h (by show(6:Int)≠12;decide)),(λh=>absurd h (by show(6:Int)≠13;decide)),(λh=>absurd h (by show ¬((6:Int)=17\/(6:Int)=18);decide)),(λh=>absurd h (by show ¬(19:Int)<=6;decide)),(λh=>absurd h (by show(6:Int)≠24;decide)),(λh=>absurd h (by show(6:Int)≠25;decide))⟩⟩,qH ah 2305843009213693952 [] [oO akJ,cZ 32 7 (jG::jH),oC (show ev 55 [.ptr (.arg 0) 0,.t (bf 6 n s t ns ks),.ref (.arg 1) 0 (jG::jH).length] [.cells 63 (aV q),.arr (32,true) 7 false ((flat (jG::jH)).map .t)]=some (bh.ret (.t (aA k_7 b_7 M1 M3 t_7 N_7 L_7)) [.cells 63 (aV q),.arr (32,true) 7 true ((flat aoK).map .t)] []) from(fH (vu adA) R9 (q,(bf 6 n s t ns ks),(jG::jH),(jG::jH).length) XJ rfl rfl).trans (by rw[Ku];show some (bh.ret _ [_,cond akK _ _] [])=_;rw[akL];rfl)),oN (o:=.arr (32,true) 7 true ((flat aoK).map .t)) (λ_=>kY),oN (o:=.map aR 26) (λ_=>rfl)]⟩
end
end Go.Proofs.YtfdnciimclnncaaGreatDoor.w.e
namespace Go.Proofs.YtfdnciimclnncaaGreatDoor.w.e
open Go Go.Abs
set_option maxRecDepth 100000
set_option maxHeartbeats 2000000
noncomputable section
open Go.Abs.Ty
def Iv (q:Sc):List aP:=[SF q,.map aR 26]
def Po (r:Tree ⊕ Int):Prop:=(∀v,r=.inl v->T .av v)/\∀w,r=.inr w->w≠0
def Ci (m:Int)(q:Sc)(f:Tree->Tree ⊕ Int)(e:Tree)(r:Tree ⊕ Int):Prop:=
 ai (cf m) 27 [.ptr (.arg 0) 0,.t e,.map (.arg 1)] (Iv q) (aN r (Iv q))/\Po r/\
 (fu e=14->r=gD (f (jR (iD e) 0)) (f (jR (iD e) 1)) (f (jR (iD e) 2)))/\
 (fu e=15\/fu e=16->r=dU (fu e) (f (jR (iD e) 0)) (f (jR (iD e) 1)))/\
 (fu e≠14->fu e≠15->fu e≠16->EvO m f e (iD e) r)
theorem adB {r:Tree ⊕ Int}(h:Po r)(k:Int):Po (kd k r):=by
 cases r with
 |inr w=>exact⟨λv hv=>by(cases hv),λw hw=>h.2 w hw⟩
 |inl v=>
  show Po (cond (jh v==k) (.inl v) (.inr 7))
  cases jh v==k with
  |true=>exact h
  |false=>exact⟨λv hv=>by(cases hv),λw hw=>by cases hw;decide⟩
theorem agR {a b c:Tree ⊕ Int}(ha:Po a)(hb:Po b)(hc:Po c):Po (gD a b c):=by
 unfold gD;have h:=adB ha 0;cases hk:kd 0 a with
 |inr w=>rw[hk] at h;exact⟨λv hv=>by(cases hv),λw hw=>h.2 w hw⟩
 |inl v=>
  show Po (cond (mV v) b c)
  cases mV v<;>assumption
theorem Sg {op:Int}{a b:Tree ⊕ Int}(ha:Po a)(hb:Po b):Po (dU op a b):=by
 unfold dU;have h:=adB ha 0;cases hk:kd 0 a with
 |inr w=>rw[hk] at h;exact⟨λv hv=>by(cases hv),λw hw=>h.2 w hw⟩
 |inl v=>
  rw[hk] at h
  show Po (cond (mV v==(op==16)) (.inl v) (kd 0 b))
  cases mV v==(op==16)
  · exact adB hb 0
  · exact h
theorem Na {f:Tree->Tree ⊕ Int}:∀{l:List Tree} {w:Int},iL f l=.inr w->∃x∈l,f x=.inr w
 | [],_,h=>by cases h
 | a::l,w,h=>by
  unfold iL at h
  cases ha:f a with
  |inr u=>rw[ha] at h;cases h;exact⟨a,List.mem_cons_self,ha⟩
  | inl v=>
   rw[ha] at h
   simp only at h
   cases hl:iL f l with
   |inr u=>
    rw[hl] at h
    cases h
    obtain⟨x,hx,e⟩:=Na hl
    exact⟨x,List.mem_cons_of_mem _ hx,e⟩
   |inl vs=>rw[hl] at h;cases h
theorem He {f g:Tree->Tree ⊕ Int}:∀{l:List Tree},(∀x∈l,f x=g x)->iL f l=iL g l
 | [],_=>rfl
 |a::l,h=>by
  unfold iL
  rw[h a List.mem_cons_self,He λx hx=>h x (List.mem_cons_of_mem _ hx)]
theorem Wo (m:Int)(q:Sc)(hs:SD q)(f:Tree->Tree ⊕ Int){e:Tree}(hE:T .aG e)(hR:Rt e)
 (hf:∀x∈iD e,ai (cf m) 27 [.ptr (.arg 0) 0,.t x,.map (.arg 1)] (Iv q) (aN (f x) (Iv q)))(hT:∀x∈iD e,Po (f x)):∃r,Ci m q f e r:=by
 obtain⟨op,n,s,t,ns,ks,rfl,h0,WR,htb,hn,Yr,lk,hks⟩:=T.bE hE
 cases hR with|mk _ _ _ _ _ _ hM _=>
 obtain⟨⟨m1,m2⟩,m3,m4,m5,m6,m7⟩:=id hM
 have Eu:∀x∈ks,∀v,f x=.inl v->T .av v:=λx hx=>(hT x hx).1
 have ty:∀i,i<ks.length->Po (f (jR ks i)):=λi hi=>hT _ (mP hi)
 by_cases Pk:op=14
 ·subst Pk;have hl:ks.length=3:=m4 rfl;obtain⟨⟨r,hr⟩,hc⟩:=aoE m q n s t ns ks hE lk hks f hf Eu hl;exact⟨r,hc,by rw[hr];exact agR (ty 0 (by omega)) (ty 1 (by omega)) (ty 2 (by omega)),λ_=>hr,λh=>absurd h (by show ¬((14:Int)=15\/(14:Int)=16);decide),λh=>absurd rfl h⟩
 by_cases Oc:op=15
 ·subst Oc;have hl:ks.length=2:=m6 (by decide);obtain⟨⟨r,hr⟩,hc⟩:=akE m q n s t ns ks hE lk hks f hf Eu hl;exact⟨r,hc,by rw[hr];exact Sg (ty 0 (by omega)) (ty 1 (by omega)),λh=>absurd h (by show(15:Int)≠14;decide),λ_=>hr,λ_ h=>absurd rfl h⟩
 by_cases h16:op=16
 ·subst h16;have hl:ks.length=2:=m6 (by decide);obtain⟨⟨r,hr⟩,hc⟩:=aoG m q n s t ns ks hE lk hks f hf Eu hl;exact⟨r,hc,by rw[hr];exact Sg (ty 0 (by omega)) (ty 1 (by omega)),λh=>absurd h (by show(16:Int)≠14;decide),λ_=>hr,λ_ _ h=>absurd rfl h⟩
 have fin:∀r,EvO m f (bf op n s t ns ks) ks r->Po r:=λr h=>by
  rcases h with ⟨w,h1,rfl⟩|⟨l,_,_,_,hq⟩
  ·obtain⟨x,hx,e⟩:=Na h1;exact⟨λv hv=>by(cases hv),λw' hw=>by cases hw;exact(hT x hx).2 _ e⟩
  ·exact hq.1
 by_cases h6:op=6
 ·subst h6;obtain⟨⟨r,hr⟩,hc⟩:=akI m q n s t ns ks hE lk hks f hf Eu (m7 rfl);exact⟨r,hc,fin r hr,λh=>absurd h Pk,λh=>absurd h (by show ¬((6:Int)=15\/(6:Int)=16);decide),λ_ _ _=>hr⟩
 ·obtain⟨⟨r,hr⟩,hc⟩:=aoI m q op n s t ns ks hE lk hks f hf Eu hM h6 Pk Oc h16 hs;exact⟨r,hc,fin r hr,λh=>absurd h Pk,λh=>h.elim (λh=>absurd h Oc) (λh=>absurd h h16),λ_ _ _=>hr⟩
open Classical in
def pick (P:Tree ⊕ Int->Prop):Tree ⊕ Int:=if h:∃r,P r then h.choose else .inr 7
theorem Wp {P:Tree ⊕ Int->Prop}(h:∃r,P r):P (pick P):=by
 unfold pick;rw[dif_pos h];exact h.choose_spec
def evN (m:Int)(q:Sc):Nat->Tree->Tree ⊕ Int
 |0,_=>.inr 7
 |n+1,e=>pick (Ci m q (evN m q n) e)
theorem Ek {e:Tree}(hR:Rt e):∀x∈iD e,Rt x:=by
 cases hR with|mk _ _ _ _ _ _ _ hk=>exact hk
theorem UK {e:Tree}(hE:T .aG e):∀x∈iD e,T .aG x:=by
 obtain⟨op,n,s,t,ns,ks,rfl,_,_,_,_,_,_,hks⟩:=T.bE hE;exact hks
theorem UL (m:Int)(q:Sc)(hs:SD q):∀(n:Nat) (e:Tree),Dx (n+1) e->T .aG e->Rt e->Ci m q (evN m q n) e (evN m q (n+1) e)
 |0,e,hd,hE,hR=>Wp (Wo m q hs _ hE hR (λx hx=>(hd x hx).elim) (λx hx=>(hd x hx).elim))
 |n+1,e,hd,hE,hR=>Wp (Wo m q hs _ hE hR (λx hx=>(UL m q hs n x (hd x hx) (UK hE x hx) (Ek hR x hx)).1) (λx hx=>(UL m q hs n x (hd x hx) (UK hE x hx) (Ek hR x hx)).2.1))
theorem vY {l:List Tree}{i n:Nat}(h:l.length=n)(hi:i<n):jR l i∈l:=mP (by omega)
theorem K7 {m:Int}{q:Sc}{f g:Tree->Tree ⊕ Int}{e:Tree}(hR:Rt e)(h:∀x∈iD e,f x=g x):Ci m q f e=Ci m q g e:=by
 funext r;cases hR with|mk op n s t ns ks hM hk=>
 obtain⟨⟨m1,m2⟩,m3,m4,m5,m6,m7⟩:=id hM;have h:∀x∈ks,f x=g x:=h;have e1:(fu (bf op n s t ns ks)=14->r=gD (f (jR ks 0)) (f (jR ks 1)) (f (jR ks 2)))=(fu (bf op n s t ns ks)=14->r=gD (g (jR ks 0)) (g (jR ks 1)) (g (jR ks 2))):=propext ⟨λk q=>by
  rw[← h _ (vY (m4 q) (by decide)),← h _ (vY (m4 q) (by decide)),← h _ (vY (m4 q) (by decide))];exact k q,λk q=>by
  rw[h _ (vY (m4 q) (by decide)),h _ (vY (m4 q) (by decide)),h _ (vY (m4 q) (by decide))];exact k q⟩
 have hop:∀q:fu (bf op n s t ns ks)=15\/fu (bf op n s t ns ks)=16,ks.length=2:=λq=>m6 (by have q:op=15\/op=16:=q;omega)
 have e2:(fu (bf op n s t ns ks)=15\/fu (bf op n s t ns ks)=16->r=dU op (f (jR ks 0)) (f (jR ks 1)))=(fu (bf op n s t ns ks)=15\/fu (bf op n s t ns ks)=16->r=dU op (g (jR ks 0)) (g (jR ks 1))):=propext ⟨λk q=>by
  rw[← h _ (vY (hop q) (by decide)),← h _ (vY (hop q) (by decide))];exact k q,λk q=>by
  rw[h _ (vY (hop q) (by decide)),h _ (vY (hop q) (by decide))];exact k q⟩
 have e3:EvO m f (bf op n s t ns ks) ks r=EvO m g (bf op n s t ns ks) ks r:=by
  unfold EvO;rw[He h]
 exact propext ⟨λ⟨a,b,c,d,e⟩=>⟨a,b,e1.mp c,e2.mp d,λx y z=>e3.mp (e x y z)⟩,λ⟨a,b,c,d,e⟩=>⟨a,b,e1.mpr c,e2.mpr d,λx y z=>e3.mpr (e x y z)⟩⟩
theorem K8 (m:Int)(q:Sc):∀(n k:Nat) (e:Tree),Dx n e->Dx k e->Rt e->evN m q n e=evN m q k e
 |0,_,_,h,_,_=>h.elim
 |_+1,0,_,_,h,_=>h.elim
 |n+1,k+1,e,h1,h2,hR=>by
  show pick _=pick _
  rw[K7 hR λx hx=>K8 m q n k x (h1 x hx) (h2 x hx) (Ek hR x hx)]
noncomputable def El (m:Int):Tree->Int:=(yh m).choose
theorem K9 (m:Int):∀x,T .aG x->R1 (cf m) 8 x (.int .i64 (El m x)):=λx h=>((yh m).choose_spec x h).1
theorem Ac (m:Int){x:Tree}(hx:T .aG x)(h:El m x=0):Rt x:=((yh m).choose_spec x hx).2.1 h
theorem ah0 (m:Int){x:Tree}(hx:T .aG x):∃n,Dx n x/\El m x=E7 (Ck (p9 m) n x):=((yh m).choose_spec x hx).2.2
noncomputable def SG (m:Int):Tree->Int:=(VC m).choose
theorem O8 (m:Int):∀x,T .bQ x->R1 (cf m) 9 x (.int .i64 (SG m x)):=λx h=>((VC m).choose_spec x h).1
noncomputable def Wq (m:Int):Tree->Int:=(Fv m).choose
theorem UM (m:Int):∀x,T .aQ x->R1 (cf m) 24 x (.int .i64 (Wq m x)):=λx h=>((Fv m).choose_spec x h).1
def zeroV:Tree:=(aA 0 false 0 [] [] [] [])
theorem agS (m:Int)(op n:Int)(s t:List UInt8)(ns ks:List Tree)(hE:T .aG (bf op n s t ns ks))(p1 p2 a1 a2 r1 r2:List UInt8)(qk:Int)(qb:Bool)(qn:Int)(qs qt:List UInt8)(qc ql:List Tree)(hQ:T .bQ (qg p1 p2 a1 a2 r1 r2 qk qb qn qs qt qc ql))(l:List Tree)(hl:l.length<=4194304)(hl2:∀y∈l,T .bP y)(h1:El m (bf op n s t ns ks)≠0):ai (cf m) 11 [.t (bf op n s t ns ks),.t (qg p1 p2 a1 a2 r1 r2 qk qb qn qs qt qc ql),.t (.sl l)] [] (.ret (.t (.bU [zeroV,.int .i64 (El m (bf op n s t ns ks))])) [] []):=by
 obtain⟨ev,aK,La⟩:∃ev,aD (cf m) ev/\Has ev 8 (mY (λx=>T .aG x) (λx=>.int .i64 (El m x))):=⟨_,(aq (bT (λx h=>K9 m x h)) aF),au⟩;refine ai.gO ?_;refine AX.start 40 3 Tryz.func11 rfl (by decide) rfl rfl (by decide) ?_;refine AX.frames ?_;exact⟨(),kf ah [oC (cO La (x:=(bf op n s t ns ks)) hE),oB (bne_iff_ne.mpr h1)]⟩
theorem agT (m:Int)(op n:Int)(s t:List UInt8)(ns ks:List Tree)(hE:T .aG (bf op n s t ns ks))(p1 p2 a1 a2 r1 r2:List UInt8)(qk:Int)(qb:Bool)(qn:Int)(qs qt:List UInt8)(qc ql:List Tree)(hQ:T .bQ (qg p1 p2 a1 a2 r1 r2 qk qb qn qs qt qc ql))(l:List Tree)(hl:l.length<=4194304)(hl2:∀y∈l,T .bP y)(h1:El m (bf op n s t ns ks)=0)(h2:SG m (qg p1 p2 a1 a2 r1 r2 qk qb qn qs qt qc ql)≠0):ai (cf m) 11 [.t (bf op n s t ns ks),.t (qg p1 p2 a1 a2 r1 r2 qk qb qn qs qt qc ql),.t (.sl l)] [] (.ret (.t (.bU [zeroV,.int .i64 (SG m (qg p1 p2 a1 a2 r1 r2 qk qb qn qs qt qc ql))])) [] []):=by
 obtain⟨ev,aK,La,Sh⟩:∃ev,aD (cf m) ev/\Has ev 8 (mY (λx=>T .aG x) (λx=>.int .i64 (El m x)))/\Has ev 9 (mY (λx=>T .bQ x) (λx=>.int .i64 (SG m x))):=⟨_,(aq (bT (λx h=>K9 m x h)) (aq (bT (λx h=>O8 m x h)) aF)),au,(az rfl au)⟩;refine ai.gO ?_;refine AX.start 40 3 Tryz.func11 rfl (by decide) rfl rfl (by decide) ?_;refine AX.frames ?_;exact⟨(),kf ah [oC (cO La (x:=(bf op n s t ns ks)) hE),oB (bne_eq_false_iff_eq.mpr h1),oC (cO Sh (x:=(qg p1 p2 a1 a2 r1 r2 qk qb qn qs qt qc ql)) hQ),oB (bne_iff_ne.mpr h2)]⟩
theorem agU (m:Int)(op n:Int)(s t:List UInt8)(ns ks:List Tree)(hE:T .aG (bf op n s t ns ks))(p1 p2 a1 a2 r1 r2:List UInt8)(qk:Int)(qb:Bool)(qn:Int)(qs qt:List UInt8)(qc ql:List Tree)(hQ:T .bQ (qg p1 p2 a1 a2 r1 r2 qk qb qn qs qt qc ql))(l:List Tree)(hl:l.length<=4194304)(hl2:∀y∈l,T .bP y)(h1:El m (bf op n s t ns ks)=0)(h2:SG m (qg p1 p2 a1 a2 r1 r2 qk qb qn qs qt qc ql)=0)(h3:Wq m (.sl l)≠0):ai (cf m) 11 [.t (bf op n s t ns ks),.t (qg p1 p2 a1 a2 r1 r2 qk qb qn qs qt qc ql),.t (.sl l)] [] (.ret (.t (.bU [zeroV,.int .i64 (Wq m (.sl l))])) [] []):=by
 obtain⟨ev,aK,La,Sh,adC⟩:∃ev,aD (cf m) ev/\Has ev 8 (mY (λx=>T .aG x) (λx=>.int .i64 (El m x)))/\Has ev 9 (mY (λx=>T .bQ x) (λx=>.int .i64 (SG m x)))/\Has ev 24 (mY (λx=>T .aQ x) (λx=>.int .i64 (Wq m x))):=⟨_,(aq (bT (λx h=>K9 m x h)) (aq (bT (λx h=>O8 m x h)) (aq (bT (λx h=>UM m x h)) aF))),au,(az rfl au),(az rfl (az rfl au))⟩;refine ai.gO ?_;refine AX.start 40 3 Tryz.func11 rfl (by decide) rfl rfl (by decide) ?_;refine AX.frames ?_;exact⟨(),kf ah [oC (cO La (x:=(bf op n s t ns ks)) hE),oB (bne_eq_false_iff_eq.mpr h1),oC (cO Sh (x:=(qg p1 p2 a1 a2 r1 r2 qk qb qn qs qt qc ql)) hQ),oB (bne_eq_false_iff_eq.mpr h2),oC (cO adC (x:=.sl l) (.aQ _ cc hl2)),oB (bne_iff_ne.mpr h3)]⟩
end
end Go.Proofs.YtfdnciimclnncaaGreatDoor.w.e
noncomputable section
namespace Go.Abs
open Go
section
variable {C:ez}{fn:Func}{n:Nat}{r:bh}
def Yx (C:ez)(fn:Func)(n:Nat)(r:bh)(c:Code)(st:St):Prop:=
 ∀(G0:Gh) (w0:World) (G:Gh) (w:World) (a:Act),(∀p,¬G0.dom (.loc p))->ei G0 w0 G w->yO C G w st a->a.defers=[]->
  c.wp C.P (bodyPostD C.P fn (yH G0 w0 n r)) a w
theorem akM {f:FuncId}{body:Code}{args:List TV}{bu:List aP}(NI:C.P.fn f=some fn)(hbody:fn.body=some body)(hname:fn.name≠ "runtime.NumGoroutine")
 (h:Yx C fn bu.length r body ⟨args++List.replicate (fn.ntmps - args.length) dh,dz 0 bu,0⟩):ai C f args bu r:=by
 intro G w vs hw hg had hH hv
 have hfn:=C.P.YB _ _ NI
 have hst:yO C G w ⟨args++List.replicate (fn.ntmps - args.length) dh,dz 0 bu,0⟩ {tmps:=vs.toArray++Array.replicate (fn.ntmps - vs.toArray.size) undef,defers:=[]}:=by
  refine⟨hw,hg, ?_,hH,λp hp=>absurd hp (had.2 p)⟩;have e:(vs.toArray++Array.replicate (fn.ntmps - vs.toArray.size) undef).toList=vs++List.replicate (fn.ntmps - args.length) undef:=by simp[hv.1]
  unfold SR;rw[e];refine ec.append hv ⟨by simp,λj c u hc hu=> ?_⟩;rw[List.getElem?_replicate] at hc hu;by_cases hl:j<fn.ntmps - args.length
  ·rw[if_pos hl] at hc hu;simp at hc hu;subst hc;subst hu;exact q5 G
  ·rw[if_neg hl] at hc;simp at hc
 refine .inl ⟨?_,calls_of_wp_defers hfn hbody ?_⟩
 ·simp[callFunc,hfn,hname,hbody]
 ·exact h G w G w _ had.2 (Step.refl hw _ _) hst rfl
theorem agV {G0:Gh}{w0:World}{e:aS}{s:St}{ex:Exit}{a a':Act}{w':World}(hq:q8 C fn n r e s)(hg:Good C G0 w0 a e s ex a' w')(hd0:a.defers=[]):bodyPostD C.P fn (yH G0 w0 n r) ex a' w':=by
 cases e with
 |normal=>
  obtain⟨G',hs,hd,rfl,qy⟩:=hg
  show Leaves C.P fn a'.tmps _ a'.defers .returning w'
  rw[hd,hd0]
  exact hq.elim (λh=>s9 h hs qy) (λh=>BF h hs qy)
 |ret=>
  obtain⟨G',hs,hd,rfl,qy⟩:=hg
  show Leaves C.P fn a'.tmps _ a'.defers .returning w'
  rw[hd,hd0]
  exact hq.elim (λh=>s9 h hs qy) (λh=>BF h hs qy)
 |exit id=>exact hq.elim
 |panic v=>
  obtain⟨_,rfl⟩:=hq
  obtain⟨G',hs,hd,x,rfl,hx,hH',_⟩:=hg
  show Leaves C.P fn a'.tmps _ a'.defers (.panicking _) w'
  rw[hd,hd0]
  refine⟨x,G',rfl,hs,λi o ho=> ?_,hx⟩
  have:=xH ho
  rw[Nat.zero_add] at this
  exact hH' _ _ this
theorem Yx.of {c:Code}{st:St}(h:AW C c st (q8 C fn n r)):Yx C fn n r c st:=λG0 w0 G w a h0 hs hst hd=>
 wp_mono (h G0 w0 G w a h0 hs hst) λex a' w' ⟨e,s,hq,hg⟩=>agV hq hg hd
def ah1 (C:ez)(fn:Func)(n:Nat)(r:bh)(y:Code):aS->St->Prop
 |.normal,s=>Yx C fn n r y s
 |e,s=>q8 C fn n r e s
theorem Yx.seq {x y:Code}{st:St}(h:AW C x st (ah1 C fn n r y)):Yx C fn n r (.seq x y) st:=by
 intro G0 w0 G w a h0 hs hst hd0;refine wp_seq (wp_mono (h G0 w0 G w a h0 hs hst) λex a1 w1 ⟨e,st1,hq,hg⟩=> ?_);cases e with
 |normal=>
  obtain⟨rfl,hd,G1,hs1,jk⟩:=hg.nM
  exact hq G0 w0 G1 w1 a1 h0 hs1 jk (hd.trans hd0)
 |exit id=>exact gM (hg.gL (by simp)) (agV (e:=.exit id) hq hg hd0)
 |ret=>exact gM (hg.gL (by simp)) (agV (e:=.ret) hq hg hd0)
 |panic v=>exact gM (hg.gL (by simp)) (agV (e:=.panic v) hq hg hd0)
def O9 (G:Gh)(u:FrameMode):Option TV->Prop
 |none=>u=.returning
 |some x=>∃pv,VR G x pv/\u=.panicking [{v:=pv,recovered:=false}]
def ah2:aS->Option TV
 |.panic v=>some v
 |_=>none
def Pa (C:ez)(g:FuncId)(args:List TV)(bu:List aP)(uJ:Option TV)(os':List aP):Prop:=
 ∀ (G:Gh) (w:World) (vs:List Value) (u:FrameMode),WF G w->jK C G->E3 G bu.length->HR G w (dz 0 bu)->ec G args vs->
  O9 G u uJ->
  (callFunc g vs.toArray).run C.P w=.ok (.enter g vs.toArray) w/\
  CallsD C.P g vs.toArray u w λe u' w'=>∃v G',e=.returned v/\settle u'=.returning/\Step (λ_=>True) (λk=>k.jf=true) G w G' w'/\os'.length=bu.length/\
   ∀i o,os'[i]?=some o->G'.dom (.arg i)/\OR G' w' (.arg i) o
theorem adD {g:FuncId}{H:Heap}{args vc:List TV}{S:List Nm}{os os':List aP}{h:Heap}{t:Nat}{G:Gh}{w:World}{vs:List Value}{u:FrameMode}{uJ Pb:Option TV}(hD:Pa C g vc os Pb os')
 (hn:S.Nodup)(h1:TV.yN (LR S) args=some vc)(h2:jM H S S=some os)(h4:ko S t S os'=some h)(hp:uJ.map (·.rn (LR S))=Pb.map some)
 (hw:WF G w)(hg:jK C G)(hH:HR G w H)(hfresh:∀p,¬G.dom (.loc (t::p)))(hv:ec G args vs)
 (hu:O9 G u uJ):
 (callFunc g vs.toArray).run C.P w=.ok (.enter g vs.toArray) w/\
 CallsD C.P g vs.toArray u w λe u' w'=>∃v G',e=.returned v/\settle u'=.returning/\Step (λk=>k∈h.map (·.1)) (λk=>∃p,k=.loc (t::p)) G w G' w'/\∀k ob,(k,ob)∈h->G'.dom k/\OR G' w' k ob:=by
 have HT:∀k∈S,G.dom k:=by
  intro k hk;obtain⟨j,hj⟩:=List.mem_iff_getElem?.1 hk;obtain⟨o,o',e1,_,_⟩:=(jT h2).2 j k hj;exact(hH k o e1).1
 have mX:O9 (G.within S) u Pb:=by
  cases uJ with
  |none=>
   cases Pb with
   |none=>exact hu
   |some y=>simp at hp
  | some x=>
   cases Pb with
   |none=>simp at hp
   |some y=>
    simp at hp
    obtain⟨pv,hx,e⟩:=hu
    exact⟨pv,hx.rn mz hp,e⟩
 obtain⟨Qh,hc⟩:=hD (G.within S) w vs u (An hw hn HT) (λx cs hx=>hg x cs hx)
  ⟨λi hi=>by have:=(jT h2).1;exact(by omega:i<S.length),λp d=>d⟩ (Ao hH h2) (hv.rn mz h1) mX
 refine⟨Qh,hc.mono λe u' w' he=> ?_⟩
 obtain⟨v,G2,rfl,YI,hs2,hl,Y8⟩:=he
 have Nx:=wu hw hn HT hfresh hs2
 have yu:=Ap hn HT hfresh hs2
 obtain⟨ek,_,hO⟩:=xF h4
 refine⟨v,G.back S t G2,rfl,YI,Nx.mono (λk _ hk=>by rw[ek];exact hk) (λk hk=>hk),λk ob hm=> ?_⟩
 obtain⟨i,o',e1,e2,e3⟩:=hO k ob hm
 obtain⟨d,ho⟩:=Y8 i o' e2
 exact⟨.inl (HT _ (List.mem_of_getElem? e1)),OR.rn yu (λ_ _ _=>rfl) (u7 hn e1) ho e3⟩
def akN (C:ez)(fn:Func)(g:FuncId)(caps:List TV)(N:Nat)(x:Tree)(e:aS)(s:St):Prop:=
 (∀i,e≠ .exit i)/\∃(S:List Nm) (vc:List TV) (os os':List aP) (h:Heap) (osX:List aP) (ah3:Heap) (Pb:Option TV),S.Nodup/\TV.yN (LR S) caps=some vc/\jM s.H S S=some os/\(∀t,ko S t S os'=some h)/\
  (∀t,finish C fn N ⟨s.slots,s.H.eY h,t⟩=some (.ret (.t x) osX ah3))/\
  (ah2 e).map (·.rn (LR S))=Pb.map some/\Pa C g vc os Pb os'
theorem akO {g:FuncId}{caps:List TV}{x:Tree}{e:aS}{s:St}{N:Nat}{G1 G0:Gh}{w1 w0:World}{S:List Nm}{t1:Nat}{a a':Act}{ex:Exit}{w':World}{ms:List Value}
 (hq:akN C fn g caps N x e s)(hg:Good C (G1.within S) w1 a e s ex a' w')(hd:a.defers=[{target:=.fn (.func g) ms.toArray,args:= #[]}])(hv:ec (G1.within S) caps ms)
 (hw1:WF G1 w1)(hn:S.Nodup)(HT:∀k∈S,G1.dom k)(hfresh:∀p,¬G1.dom (.loc (t1::p)))(akP:ei G0 w0 G1 w1)(hgl:jK C G1):bodyPostD C.P fn (yH G0 w0 0 (.ret (.t x) [] [])) ex a' w':=by
 obtain⟨hne,S2,vc,os,os',h,osX,ah3,Pb,hn2,h1,h2,h4,aq7,hpn,hD⟩:=hq
 have main:∀(G2:Gh) (tk:Nat) (u:FrameMode),ei (G1.within S) w1 G2 w'->HR G2 w' s.H->SR G2 s.slots a'->za G2 tk->
  O9 G2 u (ah2 e)->u≠ .run->
  Leaves C.P fn a'.tmps (yH G0 w0 0 (.ret (.t x) [] [])) [{target:=.fn (.func g) ms.toArray,args:= #[]}] u w':=by
  intro G2 tk u hs2 hH2 Gj hfr hu hur
  have aq8:jK C (G1.within S):=λx cs hx=>hgl x cs hx
  have aoL:jK C G2:=aq8.mono hs2.le
  obtain⟨Qh,hc⟩:=adD (t:=tk) hD hn2 h1 h2 (h4 tk) hpn hs2.wf aoL hH2 hfr.not (hv.mono hs2.le) hu
  refine leaves_cons (f:=g) (args:=ms.toArray) hur (by simpa [invoke] using Qh) (hc.mono ?_)
  rintro e1 u1 w3 ⟨v1,G3,rfl,YI,Nx,Y8⟩
  show Leaves C.P fn a'.tmps _ [] (settle u1) w3
  rw[YI]
  have ZE:yO C G3 w3 ⟨s.slots,s.H.eY h,tk+1⟩ a':=⟨Nx.wf,aoL.mono Nx.le,Gj.mono Nx.le,HR.eY Nx hs2.wf hH2 Y8 (λk _ hk=>hk),hfr.step Nx⟩
  obtain⟨v,hr,x',G4,e4,hs4,_,_,_,hx4⟩:=s9 (fn:=fn) (n:=N) (st:=⟨s.slots,s.H.eY h,tk+1⟩) (aq7 (tk+1)) (ei.comp hs2 Nx.any) ZE
  refine⟨v,hr,x',G1.back S t1 G4,e4,ei.comp akP (wu hw1 hn HT hfresh hs4).any,rfl,λi o ho=>by simp at ho,λk o ho=>by simp at ho, ?_⟩
  exact .t _ _ hx4.tree
 cases e with
 |exit i=>exact absurd rfl (hne i)
 |normal=>
  obtain⟨G2,hs2,hd2,rfl,qz⟩:=hg
  show Leaves C.P fn a'.tmps _ a'.defers .returning w'
  rw[hd2,hd]
  exact main G2 s.tick .returning hs2 qz.heap qz.slots qz.fresh rfl (by simp)
 |ret=>
  obtain⟨G2,hs2,hd2,rfl,qz⟩:=hg
  show Leaves C.P fn a'.tmps _ a'.defers .returning w'
  rw[hd2,hd]
  exact main G2 s.tick .returning hs2 qz.heap qz.slots qz.fresh rfl (by simp)
 |panic v=>
  obtain⟨G2,hs2,hd2,px,rfl,hpx,hH2,Gj,tk,hfr⟩:=hg
  show Leaves C.P fn a'.tmps _ a'.defers (.panicking _) w'
  rw[hd2,hd]
  exact main G2 tk _ hs2 hH2 Gj hfr ⟨px,hpx,rfl⟩ (by simp)
theorem Yx.defer {ev:bt}(aK:aD C ev){f:FuncId}{id:Nat}{o1 o2:Oper}{fo:Operand}{g:FuncId}{y:Code}{slots UN:List TV}{H:Heap}{t:Nat}{v:TV}{u:Heap}{caps ah4:List TV}{S:List Nm}{bu:List aP}{x:Tree}
 (hw1:eT #[o1,o2] slots o1=some true)(hx1:bp C ev f H slots t o1=some (.val v u))(hg2:o2.guard=none)(hd2:o2.dst=none)(PN:o2.op=.defer ⟨.value fo, #[], #[]⟩)
 (hf:dw C (ey slots o1.dst v) fo=some (.fn (.func g) [] caps))(hn:S.Nodup)(hS:jM (H.eY u) S S=some bu)(Gj:TV.yN (LR S) (ey slots o1.dst v)=some UN)(hcv:TV.yN (LR S) caps=some ah4)
 (hy:AW C y ⟨UN,dz 0 bu,0⟩ (akN C fn g ah4 bu.length x)):
 Yx C fn 0 (.ret (.t x) [] []) (.seq (.region id #[o1,o2] false) y) ⟨slots,H,t⟩:=by
 intro G0 w0 G w a h0 hs hst hd0
 refine wp_seq (wp_region_list ?_)
 refine wpList_step λK hK=> ?_
 rw[jC hw1 hst.slots]
 simp only[if_true]
 refine(tK aK hx1 hst.wf hst.kg hst.slots hst.heap hst.fresh.not).wp ng.no (λx1 w1 hr=> ?_) (λch w1 hr=> ?_)
 rotate_left
 ·obtain⟨x',G',e1,_⟩:=hr;simp at e1
 obtain⟨x',G1,e1,hs1,hu1,hv1⟩:=hr
 simp at e1;subst e1
 refine hK _ _ ?_
 have jk:=hst.op o1.dst hs1 hu1 hv1
 have akP:ei G0 w0 G1 w1:=ei.comp hs hs1.any
 generalize ha1:a.put o1.dst x1=a1 at jk ⊢
 have hd1:a1.defers=[]:=by rw[← ha1,put_defers];exact hd0
 have hfv:=cK jk.slots jk.kg hf
 generalize hfe:a1.eval fo=fv at hfv
 cases hfv with|fn _ _ _ ls ms sG hp1 hl2 hp2=>
 have hls:ls=[]:=by simpa using sG
 subst hls
 refine wpList_step λK hK=> ?_
 have hwt:Region.wanted o2 (yielded #[o1,o2] a1.tmps)=true:=by simp[Region.wanted,hg2]
 rw[hwt]
 simp only[if_true]
 have hex:(execOp a1.eval o2).run C.P w1=.ok (.defer {target:=.fn (.func g) ms.toArray,args:= #[]}) w1:=by
  simp[execOp,PN,resolve,hfe,Deferred.ofValue]
 unfold Oper.wp
 rw[hex,Oper.upon_defer]
 refine hK _ _ ?_
 generalize ha2:({a1 with defers:={target:=.fn (.func g) ms.toArray,args:= #[]}::a1.defers}:Act).put o2.dst undef=a2
 have qz:yO C G1 w1 ⟨ey slots o1.dst v,H.eY u,t+1⟩ a2:=by
  rw[← ha2,hd2];exact⟨jk.wf,jk.kg,jk.slots,jk.heap,jk.fresh⟩
 have hda:a2.defers=[{target:=.fn (.func g) ms.toArray,args:= #[]}]:=by
  rw[← ha2,hd2];show _::a1.defers=_;rw[hd1]
 have HT:∀k∈S,G1.dom k:=by
  intro k hk;obtain⟨j,hj⟩:=List.mem_iff_getElem?.1 hk;obtain⟨o,o',e1,_,_⟩:=(jT hS).2 j k hj;exact(qz.heap k o e1).1
 have hlen:bu.length=S.length:=(jT hS).1
 have hv0:ec G1 caps ms:=⟨hl2,hp2⟩
 have aoM:yO C (G1.within S) w1 ⟨UN,dz 0 bu,0⟩ a2:=⟨An qz.wf hn HT,λx cs hx=>qz.kg x cs hx,ec.rn mz qz.slots Gj,Ao qz.heap hS,λp hp=>False.elim hp⟩
 have aq9:∀p,¬(G1.within S).dom (.loc p):=λp hp=>hp
 exact wp_mono (hy (G1.within S) w1 (G1.within S) w1 a2 aq9 (Step.refl aoM.wf _ _) aoM) λex a' w' ⟨e,s,hq,hg⟩=>
  akO hq hg hda (ec.rn mz hv0 hcv) qz.wf hn HT qz.fresh.not akP qz.kg
end
end Go.Abs
end
namespace Go.Proofs.YtfdnciimclnncaaGreatDoor.w.e
open Go Go.Abs Go.RowKit
set_option maxRecDepth 100000
set_option maxHeartbeats 2000000
noncomputable section
theorem akQ (x1 x2:Value)(w:World):
 CallsD Tryz.prog 25 #[x1,x2] .returning w λe u' w'=>e=.returned (.tuple #[])/\u'=.returning/\w'=w:=by
 refine callsD_of_wpS Tryz.func25 rfl λc₀ cs hu=> ?_
 apply wpS_seq
 apply wpS_region
 simp[wpOpsS,go_sem,recoverD,hu,Tryz.ntmps25,Exit.thenS]
 show Code.wpS Tryz.prog _ _ {tmps:= #[x1,x2,Value.nilIface,Value.nilIface,undef,undef,undef,undef,undef,undef],defers:=[]} _ _
 refine wpS_of_wp ?_
 go_wp2
 exact⟨rfl,.returning,by cases c₀;simp_all,.tuple #[],results_none rfl _ _ _,rfl,rfl,rfl⟩
def zc:List TV:=[.t (.int .u8 0),.t (.bool false),.t (.int .i64 0),.t (.str []),.t (.str []),.bW,.bW]
noncomputable def UO:Code:=match Tryz.f25.body with
 |some (.seq _ y)=>y
 |_=>.skip
noncomputable def akR (vc:List TV)(w0 wn:Int):St:=⟨eD 10 [(0,.ptr (.arg 0) 0),(1,.ptr (.arg 1) 0),(2,.t (.iface 60 (.agg [.int .i64 wn]))),(3,.t (.iface 60 (.agg [.int .i64 wn])))],[(.arg 0,.cells 32 vc),(.arg 1,.cells 37 [.t (.int .i64 w0)])],0⟩
theorem ara (m:Int)(w0 wn:Int):AW (cf m) UO (akR zc w0 wn) (λe s=>e=.normal/\s=⟨eD 10 [],[(.arg 0,.cells 32 zc),(.arg 1,.cells 37 [.t (.int .i64 wn)])],0⟩):=by
 obtain⟨r,h⟩:=aiO (C:=cf m) (f:=0) (n:=3000) (once:=[]) (k:=10) (T:=0) (S:=[]) (ks:=[.arg 0,.arg 1]) (live:=[]) (K:=[.c UO]) (e:=.normal) (s:=akR zc w0 wn) (Q:=λ(_:Unit) e s=>e=.normal/\s=⟨eD 10 [],[(.arg 0,.cells 32 zc),(.arg 1,.cells 37 [.t (.int .i64 wn)])],0⟩) ah (aF) .normal ⟨eD 10 [],[(.arg 0,.cells 32 zc),(.arg 1,.cells 37 [.t (.int .i64 wn)])],0⟩ [oT] (by kernel_rfl) (by kernel_rfl) ⟨(),rfl,rfl⟩;exact(AX.frames ⟨r,h⟩).elim λ_ h=>h
theorem aoN:∀args w,(callFunc 25 args).run Tryz.prog w=.ok (.enter 25 args) w:=enters_of Tryz.func25 (by kernel_rfl) rfl
theorem adE (m:Int)(o0 o1:aP):Pa (cf m) 25 [.ptr (.arg 0) 0,.ptr (.arg 1) 0] [o0,o1] none [o0,o1]:=by
 intro G w vs u hw hg had hH hv hm;obtain rfl:u=.returning:=hm;obtain⟨x1,x2,rfl,h1,h2⟩:=hv.two;refine⟨aoN _ _,(akQ x1 x2 w).mono ?_⟩;rintro e u' w' ⟨rfl,rfl,rfl⟩;exact⟨.tuple #[],G,rfl,rfl,Step.refl hw _ _,rfl,jv hH⟩
theorem agW (m:Int)(wn:Int):Pa (cf m) 25 [.ptr (.arg 0) 0,.ptr (.arg 1) 0] [.cells 32 zc,.cells 37 [.t (.int .i64 0)]] (some (.t (.iface 60 (.agg [.int .i64 wn])))) [.cells 32 zc,.cells 37 [.t (.int .i64 wn)]]:=by
 intro G w vs u hw hg had hH hv hm;obtain⟨pv,hpv,rfl⟩:=hm;obtain⟨x1,x2,rfl,h1,h2⟩:=hv.two;obtain⟨pv',rfl⟩:∃pv',pv=.iface 60 pv':=by
  cases hpv with|t _ _ h=>cases h;exact⟨_,rfl⟩
 refine⟨aoN _ _, ?_⟩;refine callsD_of_wpS Tryz.func25 rfl λc₀ cs hu=> ?_
 apply wpS_seq;apply wpS_region;simp[wpOpsS,go_sem,recoverD,hu,Tryz.ntmps25,Exit.thenS];show Code.wpS Tryz.prog UO _ {tmps:= #[x1,x2,Value.iface 60 pv',Value.iface 60 pv',undef,undef,undef,undef,undef,undef],defers:=[]} _ _;refine wpS_of_wp ?_;have hst:yO (cf m) G w (akR zc 0 wn) {tmps:= #[x1,x2,Value.iface 60 pv',Value.iface 60 pv',undef,undef,undef,undef,undef,undef],defers:=[]}:=by
  refine⟨hw,hg, ?_, ?_,λp hp=>absurd hp (had.2 p)⟩
  ·exact .cons h1 (.cons h2 (.cons hpv (.cons hpv (.cons (.any _) (.cons (.any _) (.cons (.any _) (.cons (.any _) (.cons (.any _) (.cons (.any _) (.nil G))))))))))
  ·exact hH
 refine wp_mono (ara m 0 wn G w G w _ had.2 (Step.refl hw _ _) hst) ?_;rintro ex a' w' ⟨e,s,⟨rfl,rfl⟩,hgd⟩;obtain⟨rfl,hd,G1,hs1,jk⟩:=hgd.nM;refine⟨hd,.panicking [{v:=Value.iface 60 pv',recovered:=true}],rfl,.tuple #[],results_none rfl _ _ _,⟨_,rfl⟩,rfl,G1,hs1,λi o ho=> ?_⟩;skip;match i,ho with
 |0,ho=>cases ho;exact jk.heap _ _ rfl
 |1,ho=>cases ho;exact jk.heap _ _ rfl
noncomputable def bdy:Code:=Tryz.f11.body.getD .skip
noncomputable def sq1:Code->Code
 |.seq a _=>a
 |_=>.skip
noncomputable def UP:Code->Code
 |.seq _ b=>b
 |_=>.skip
noncomputable abbrev cY:Code:=UP (UP (UP (UP (UP bdy))))
theorem akS:Tryz.f11.body=some (.seq (sq1 bdy) (.seq (sq1 (UP bdy)) (.seq (sq1 (UP (UP bdy))) (.seq (sq1 (UP (UP (UP bdy)))) (.seq (sq1 (UP (UP (UP (UP bdy))))) cY))))):=by kernel_rfl
theorem Wr {m:Int}{fn:Func}{n0:Nat}{r:bh}{x y:Code}{st:St}{k T:Nat}{S ks:List Nm}{live:List Nat}{ev:bt}(aK:aD (cf m) ev)(s2:St)(obs:List (Ob ev))
 (h:br (goK (cf m) 0 [] 100000 3000 [.c x] .normal st) (aeD k S ks live T) (vals obs)=some ((.normal,s2),[],vals obs))(kk:Yx (cf m) fn n0 r y s2):Yx (cf m) fn n0 r (.seq x y) st:=
 Yx.seq ((AX.frames (R:=Unit) (aiO ah aK (Q:=λ_ e s=>ah1 (cf m) fn n0 r y e s) .normal s2 obs rfl h ⟨(),kk⟩)).elim λ_ h=>h)
theorem adF (m:Int)(op n:Int)(s t:List UInt8)(ns ks:List Tree)(hE:T .aG (bf op n s t ns ks))(p1 p2 a1 a2 r1 r2:List UInt8)(qk:Int)(qb:Bool)(qn:Int)(qs qt:List UInt8)(qc ql:List Tree)(hQ:T .bQ (qg p1 p2 a1 a2 r1 r2 qk qb qn qs qt qc ql))(l:List Tree)(hl:l.length<=4194304)(hl2:∀y∈l,T .bP y)(h1:R1 (cf m) 8 (bf op n s t ns ks) (.int .i64 0))(h2:R1 (cf m) 9 (qg p1 p2 a1 a2 r1 r2 qk qb qn qs qt qc ql) (.int .i64 0))(h3:R1 (cf m) 24 (.sl l) (.int .i64 0))(x:Tree)
 (hy:AW (cf m) cY ⟨eD 40 [(2,.t (.sl l)),(3,.ptr (.arg 0) 0),(4,.ptr (.arg 1) 0),(6,.ptr (.arg 2) 0),(7,.ptr (.arg 3) 0),(30,.fn (.func 25) [] [.ptr (.arg 2) 0,.ptr (.arg 3) 0])],dz 0 [.cells 26 (bk op n s t ns ks),.cells 34 (Ba p1 p2 a1 a2 r1 r2 qk qb qn qs qt qc ql),.cells 32 zc,.cells 37 [.t (.int .i64 0)]],0⟩ (akN (cf m) Tryz.f11 25 [.ptr (.arg 2) 0,.ptr (.arg 3) 0] 4 x)):ai (cf m) 11 [.t (bf op n s t ns ks),.t (qg p1 p2 a1 a2 r1 r2 qk qb qn qs qt qc ql),.t (.sl l)] [] (.ret (.t x) [] []):=by
 obtain⟨ev,aK,La,Sh,adC⟩:∃ev,aD (cf m) ev/\Has ev 8 (mY (λx=>x=(bf op n s t ns ks)) (λ_=>.int .i64 0))/\Has ev 9 (mY (λx=>x=(qg p1 p2 a1 a2 r1 r2 qk qb qn qs qt qc ql)) (λ_=>.int .i64 0))/\Has ev 24 (mY (λx=>x=.sl l) (λ_=>.int .i64 0)):=⟨_,(aq (bT (λx h=>by subst h;exact h1)) (aq (bT (λx h=>by subst h;exact h2)) (aq (bT (λx h=>by subst h;exact h3)) aF))),au,(az rfl au),(az rfl (az rfl au))⟩
 refine akM (fn:=Tryz.f11) rfl akS (by decide) ?_
 refine Wr (k:=40) (T:=4) (S:=[.loc [0],.loc [1],.loc [2],.loc [3]]) (ks:=[.loc [0],.loc [1],.loc [2],.loc [3]]) (live:=[2,3,4,6,7]) aK ⟨eD 40 [(2,.t (.sl l)),(3,.ptr (.loc [0]) 0),(4,.ptr (.loc [1]) 0),(6,.ptr (.loc [2]) 0),(7,.ptr (.loc [3]) 0)],[(.loc [0],.cells 26 (bk op n s t ns ks)),(.loc [1],.cells 34 (Ba p1 p2 a1 a2 r1 r2 qk qb qn qs qt qc ql)),(.loc [2],.cells 32 zc),(.loc [3],.cells 37 [.t (.int .i64 0)])],4⟩ [] (by kernel_rfl) ?_
 refine Wr (k:=40) (T:=4) (S:=[.loc [0],.loc [1],.loc [2],.loc [3]]) (ks:=[.loc [0],.loc [1],.loc [2],.loc [3]]) (live:=[2,3,4,6,7]) aK ⟨eD 40 [(2,.t (.sl l)),(3,.ptr (.loc [0]) 0),(4,.ptr (.loc [1]) 0),(6,.ptr (.loc [2]) 0),(7,.ptr (.loc [3]) 0)],[(.loc [0],.cells 26 (bk op n s t ns ks)),(.loc [1],.cells 34 (Ba p1 p2 a1 a2 r1 r2 qk qb qn qs qt qc ql)),(.loc [2],.cells 32 zc),(.loc [3],.cells 37 [.t (.int .i64 0)])],4⟩ [oC (cO La (x:=(bf op n s t ns ks)) rfl),oF] (by kernel_rfl) ?_
 refine Wr (k:=40) (T:=4) (S:=[.loc [0],.loc [1],.loc [2],.loc [3]]) (ks:=[.loc [0],.loc [1],.loc [2],.loc [3]]) (live:=[2,3,4,6,7]) aK ⟨eD 40 [(2,.t (.sl l)),(3,.ptr (.loc [0]) 0),(4,.ptr (.loc [1]) 0),(6,.ptr (.loc [2]) 0),(7,.ptr (.loc [3]) 0)],[(.loc [0],.cells 26 (bk op n s t ns ks)),(.loc [1],.cells 34 (Ba p1 p2 a1 a2 r1 r2 qk qb qn qs qt qc ql)),(.loc [2],.cells 32 zc),(.loc [3],.cells 37 [.t (.int .i64 0)])],4⟩ [oC (cO Sh (x:=(qg p1 p2 a1 a2 r1 r2 qk qb qn qs qt qc ql)) rfl),oF] (by kernel_rfl) ?_
 refine Wr (k:=40) (T:=4) (S:=[.loc [0],.loc [1],.loc [2],.loc [3]]) (ks:=[.loc [0],.loc [1],.loc [2],.loc [3]]) (live:=[2,3,4,6,7]) aK ⟨eD 40 [(2,.t (.sl l)),(3,.ptr (.loc [0]) 0),(4,.ptr (.loc [1]) 0),(6,.ptr (.loc [2]) 0),(7,.ptr (.loc [3]) 0)],[(.loc [0],.cells 26 (bk op n s t ns ks)),(.loc [1],.cells 34 (Ba p1 p2 a1 a2 r1 r2 qk qb qn qs qt qc ql)),(.loc [2],.cells 32 zc),(.loc [3],.cells 37 [.t (.int .i64 0)])],4⟩ [oC (cO adC (x:=.sl l) rfl),oF] (by kernel_rfl) ?_
 exact Yx.defer (ev:=ev) aK (f:=0) (S:=[.loc [0],.loc [1],.loc [2],.loc [3]]) (v:=.fn (.func 25) [] [.ptr (.loc [2]) 0,.ptr (.loc [3]) 0]) (u:=[]) (caps:=[.ptr (.loc [2]) 0,.ptr (.loc [3]) 0]) (g:=25) (by kernel_rfl) (by kernel_rfl) rfl rfl rfl (by kernel_rfl) (by decide) (by kernel_rfl) (by kernel_rfl) (by kernel_rfl) hy
def exQ (r:GoR):aS:=match r with
 |some ((_,e,_),_,_)=>e
 |none=>.normal
def stQ (r:GoR):St:=match r with
 |some ((_,_,s),_,_)=>s
 |none=>⟨[],[],0⟩
theorem UQ {C:ez}{Q:aS->St->Prop}(e:aS)(s:St):KE C Q [] e s=Q e s:=by kernel_rfl
theorem aoO {C:ez}{ev:bt}{f:FuncId}(hm:C.P.prog.follows .mixedOrders=true)(aK:aD C ev){K:List Fr}{e:aS}{s:St}{Q:aS->St->Prop}(obs:List (Ob ev))(h:QH (goK C f [] 100000 3000 K e s (vals obs))=some ([],vals obs))
 (k:Q (exQ (goK C f [] 100000 3000 K e s (vals obs))) (stQ (goK C f [] 100000 3000 K e s (vals obs)))):KE C Q K e s:=by
 have hv:=oa obs
 cases hg:goK C f [] 100000 3000 K e s (vals obs) with
 |none=>rw[hg] at h;cases h
 | some q=>
  obtain⟨⟨K',e',s'⟩,c,em⟩:=q
  rw[hg] at h k
  cases K' with
  |cons=>cases h
  |nil=>
   cases e' with
   |normal=>cases h
   |exit i=>cases h;exact rS hm aK _ _ _ _ _ _ _ _ hg hv Q (cast (UQ _ _).symm k)
   |ret=>cases h;exact rS hm aK _ _ _ _ _ _ _ _ hg hv Q (cast (UQ _ _).symm k)
   |panic v=>cases h;exact rS hm aK _ _ _ _ _ _ _ _ hg hv Q (cast (UQ _ _).symm k)
theorem UR (m:Int)(op n:Int)(s t:List UInt8)(ns ks:List Tree)(hE:T .aG (bf op n s t ns ks))(p1 p2 a1 a2 r1 r2:List UInt8)(qk:Int)(qb:Bool)(qn:Int)(qs qt:List UInt8)(qc ql:List Tree)(hQ:T .bQ (qg p1 p2 a1 a2 r1 r2 qk qb qn qs qt qc ql))(l:List Tree)(hl:l.length<=4194304)(hl2:∀y∈l,T .bP y)(h1:R1 (cf m) 8 (bf op n s t ns ks) (.int .i64 0))(h2:R1 (cf m) 9 (qg p1 p2 a1 a2 r1 r2 qk qb qn qs qt qc ql) (.int .i64 0))(h3:R1 (cf m) 24 (.sl l) (.int .i64 0))(r:Tree ⊕ Int)(hr:ai (cf m) 27 [.ptr (.arg 0) 0,.t (bf op n s t ns ks),.map (.arg 1)] (Iv ⟨p1,p2,a1,a2,r1,r2,qk,qb,qn,qs,qt,qc,ql,l⟩) (aN r (Iv ⟨p1,p2,a1,a2,r1,r2,qk,qb,qn,qs,qt,qc,ql,l⟩)))(k:Int)(b:Bool)(nn:Int)(ss tt:List UInt8)(N L:List Tree)(hrr:r=.inl (aA k b nn ss tt N L))(hv:T .av (aA k b nn ss tt N L)):ai (cf m) 11 [.t (bf op n s t ns ks),.t (qg p1 p2 a1 a2 r1 r2 qk qb qn qs qt qc ql),.t (.sl l)] [] (.ret (.t (.bU [(aA k b nn ss tt N L),.int .i64 0])) [] []):=by
 refine adF m op n s t ns ks hE p1 p2 a1 a2 r1 r2 qk qb qn qs qt qc ql hQ l hl hl2 h1 h2 h3 _ ?_;obtain⟨ev,aK,Bl,Yj,GX⟩:∃ev,aD (cf m) ev/\Has ev 28 (px [] [] (.ret (.map (.loc [1])) [] [(.loc [1],.map aR 26)]))/\Has ev 27 (px [.ptr (.arg 0) 0,.t (bf op n s t ns ks),.map (.arg 1)] (Iv ⟨p1,p2,a1,a2,r1,r2,qk,qb,qn,qs,qt,qc,ql,l⟩) (aN r (Iv ⟨p1,p2,a1,a2,r1,r2,qk,qb,qn,qs,qt,qc,ql,l⟩)))/\Has ev 26 (mY (λx=>T .av x) (λx=>x)):=⟨_,(aq (fT (Eh m)) (aq (fT hr) (aq (bT (V1 m)) aF))),au,(az rfl au),(az rfl (az rfl au))⟩;have zh1:=show ev 27 [.ptr (.arg 0) 0,.t (bf op n s t ns ks),.map (.arg 1)] (Iv ⟨p1,p2,a1,a2,r1,r2,qk,qb,qn,qs,qt,qc,ql,l⟩)=some (aN (.inl (aA k b nn ss tt N L)) (Iv ⟨p1,p2,a1,a2,r1,r2,qk,qb,qn,qs,qt,qc,ql,l⟩)) from(jo Yj).trans (by rw[hrr]);have zh2:=cO GX (x:=(aA k b nn ss tt N L)) hv;refine(AX.frames (R:=Unit) ⟨(),aoO (f:=0) ah aK [oC (jo Bl),oN (o:=.map aR 26) bg,oN (o:=.map aR 26) bg,oN (o:=.map aR 26) bg,oC zh1,oN (o:=.map aR 26) bg,oC zh2] (by kernel_rfl) ?_⟩).elim λ_ h=>h
 have hx:exQ (goK (cf m) 0 [] 100000 3000 [.c cY] .normal ⟨eD 40 [(2,.t (.sl l)),(3,.ptr (.arg 0) 0),(4,.ptr (.arg 1) 0),(6,.ptr (.arg 2) 0),(7,.ptr (.arg 3) 0),(30,.fn (.func 25) [] [.ptr (.arg 2) 0,.ptr (.arg 3) 0])],dz 0 [.cells 26 (bk op n s t ns ks),.cells 34 (Ba p1 p2 a1 a2 r1 r2 qk qb qn qs qt qc ql),.cells 32 zc,.cells 37 [.t (.int .i64 0)]],0⟩ (vals ([oC (jo Bl),oN (o:=.map aR 26) bg,oN (o:=.map aR 26) bg,oN (o:=.map aR 26) bg,oC zh1,oN (o:=.map aR 26) bg,oC zh2]:List (Ob ev))))=.ret:=by kernel_rfl
 refine⟨λi=>(by rw[hx];exactλh=>(by cases h)),[.arg 2,.arg 3],[.ptr (.arg 0) 0,.ptr (.arg 1) 0],[.cells 32 (cI k b nn ss tt N L),.cells 37 [.t (.int .i64 0)]],[.cells 32 (cI k b nn ss tt N L),.cells 37 [.t (.int .i64 0)]],[(.arg 2,.cells 32 (cI k b nn ss tt N L)),(.arg 3,.cells 37 [.t (.int .i64 0)])],[.cells 26 (bk op n s t ns ks),.cells 34 (Ba p1 p2 a1 a2 r1 r2 qk qb qn qs qt qc ql),.cells 32 (cI k b nn ss tt N L),.cells 37 [.t (.int .i64 0)]],[],none,by decide,by kernel_rfl,by kernel_rfl,λt=>by kernel_rfl,λt=>by kernel_rfl,by kernel_rfl,adE m _ _⟩
theorem US (m:Int)(op n:Int)(s t:List UInt8)(ns ks:List Tree)(hE:T .aG (bf op n s t ns ks))(p1 p2 a1 a2 r1 r2:List UInt8)(qk:Int)(qb:Bool)(qn:Int)(qs qt:List UInt8)(qc ql:List Tree)(hQ:T .bQ (qg p1 p2 a1 a2 r1 r2 qk qb qn qs qt qc ql))(l:List Tree)(hl:l.length<=4194304)(hl2:∀y∈l,T .bP y)(h1:R1 (cf m) 8 (bf op n s t ns ks) (.int .i64 0))(h2:R1 (cf m) 9 (qg p1 p2 a1 a2 r1 r2 qk qb qn qs qt qc ql) (.int .i64 0))(h3:R1 (cf m) 24 (.sl l) (.int .i64 0))(r:Tree ⊕ Int)(hr:ai (cf m) 27 [.ptr (.arg 0) 0,.t (bf op n s t ns ks),.map (.arg 1)] (Iv ⟨p1,p2,a1,a2,r1,r2,qk,qb,qn,qs,qt,qc,ql,l⟩) (aN r (Iv ⟨p1,p2,a1,a2,r1,r2,qk,qb,qn,qs,qt,qc,ql,l⟩)))(w:Int)(hrr:r=.inr w):ai (cf m) 11 [.t (bf op n s t ns ks),.t (qg p1 p2 a1 a2 r1 r2 qk qb qn qs qt qc ql),.t (.sl l)] [] (.ret (.t (.bU [zeroV,.int .i64 w])) [] []):=by
 refine adF m op n s t ns ks hE p1 p2 a1 a2 r1 r2 qk qb qn qs qt qc ql hQ l hl hl2 h1 h2 h3 _ ?_;obtain⟨ev,aK,Bl,Yj,GX⟩:∃ev,aD (cf m) ev/\Has ev 28 (px [] [] (.ret (.map (.loc [1])) [] [(.loc [1],.map aR 26)]))/\Has ev 27 (px [.ptr (.arg 0) 0,.t (bf op n s t ns ks),.map (.arg 1)] (Iv ⟨p1,p2,a1,a2,r1,r2,qk,qb,qn,qs,qt,qc,ql,l⟩) (aN r (Iv ⟨p1,p2,a1,a2,r1,r2,qk,qb,qn,qs,qt,qc,ql,l⟩)))/\Has ev 26 (mY (λx=>T .av x) (λx=>x)):=⟨_,(aq (fT (Eh m)) (aq (fT hr) (aq (bT (V1 m)) aF))),au,(az rfl au),(az rfl (az rfl au))⟩;have zh3:=show ev 27 [.ptr (.arg 0) 0,.t (bf op n s t ns ks),.map (.arg 1)] (Iv ⟨p1,p2,a1,a2,r1,r2,qk,qb,qn,qs,qt,qc,ql,l⟩)=some (aN (.inr w) (Iv ⟨p1,p2,a1,a2,r1,r2,qk,qb,qn,qs,qt,qc,ql,l⟩)) from(jo Yj).trans (by rw[hrr]);refine(AX.frames (R:=Unit) ⟨(),aoO (f:=0) ah aK [oC (jo Bl),oN (o:=.map aR 26) bg,oN (o:=.map aR 26) bg,oN (o:=.map aR 26) bg,oC zh3] (by kernel_rfl) ?_⟩).elim λ_ h=>h
 have hx:exQ (goK (cf m) 0 [] 100000 3000 [.c cY] .normal ⟨eD 40 [(2,.t (.sl l)),(3,.ptr (.arg 0) 0),(4,.ptr (.arg 1) 0),(6,.ptr (.arg 2) 0),(7,.ptr (.arg 3) 0),(30,.fn (.func 25) [] [.ptr (.arg 2) 0,.ptr (.arg 3) 0])],dz 0 [.cells 26 (bk op n s t ns ks),.cells 34 (Ba p1 p2 a1 a2 r1 r2 qk qb qn qs qt qc ql),.cells 32 zc,.cells 37 [.t (.int .i64 0)]],0⟩ (vals ([oC (jo Bl),oN (o:=.map aR 26) bg,oN (o:=.map aR 26) bg,oN (o:=.map aR 26) bg,oC zh3]:List (Ob ev))))=.panic (.t (.iface 60 (.agg [.int .i64 w]))):=by kernel_rfl
 refine⟨λi=>(by rw[hx];exactλh=>(by cases h)),[.arg 2,.arg 3],[.ptr (.arg 0) 0,.ptr (.arg 1) 0],[.cells 32 zc,.cells 37 [.t (.int .i64 0)]],[.cells 32 zc,.cells 37 [.t (.int .i64 w)]],[(.arg 2,.cells 32 zc),(.arg 3,.cells 37 [.t (.int .i64 w)])],[.cells 26 (bk op n s t ns ks),.cells 34 (Ba p1 p2 a1 a2 r1 r2 qk qb qn qs qt qc ql),.cells 32 zc,.cells 37 [.t (.int .i64 w)]],[],some (.t (.iface 60 (.agg [.int .i64 w]))),by decide,by kernel_rfl,by kernel_rfl,λt=>by kernel_rfl,λt=>by kernel_rfl,by kernel_rfl,agW m w⟩
end
end Go.Proofs.YtfdnciimclnncaaGreatDoor.w.e
namespace Go.Proofs.YtfdnciimclnncaaGreatDoor.w.e
open Go Go.Abs
set_option maxRecDepth 100000
set_option maxHeartbeats 2000000
noncomputable section
open Go.Abs.Ty
def LN:Tree->Tree->Sc
 |.agg [.str p1,.str p2,.str a1,.str a2,.str r1,.str r2,.int _ k,.bool b,.int _ n,.str s,.str t,.sl ns,.sl l],.sl row=>⟨p1,p2,a1,a2,r1,r2,k,b,n,s,t,ns,l,row⟩
 |_,_=>⟨[],[],[],[],[],[],0,false,0,[],[],[],[],[]⟩
theorem adG (m:Int){x:Tree}(hx:T .aG x):∃n,Dx (n+1) x:=by
 obtain⟨n,h,_⟩:=ah0 m hx;cases n with
 |zero=>exact h.elim
 |succ n=>exact⟨n,h⟩
open Classical in
noncomputable def dep (x:Tree):Nat:=if h:∃n,Dx (n+1) x then h.choose+1 else 0
theorem adH (m:Int){x:Tree}(hx:T .aG x):∃n,dep x=n+1/\Dx (n+1) x:=by
 have h:=adG m hx;exact⟨h.choose,by unfold dep;rw[dif_pos h],h.choose_spec⟩
noncomputable def Bn (m:Int)(q:Sc)(e:Tree):Tree ⊕ Int:=evN m q (dep e) e
def agX (r:Tree ⊕ Int):Tree×Int:=match r with
 |.inl v=>(v,0)
 |.inr w=>(zeroV,w)
noncomputable def k9 (m:Int)(x y z:Tree):Tree×Int:=if El m x≠0 then(zeroV,El m x) else if SG m y≠0 then(zeroV,SG m y) else if Wq m z≠0 then(zeroV,Wq m z) else agX (Bn m (LN y z) x)
theorem Lb {y z:Tree}(hy:T .bQ y)(hz:T .aQ z):SD (LN y z):=by
 obtain⟨p1,p2,a1,a2,r1,r2,k,b,n,s,t,ns,l,rfl,g1,g2,g3,g4,g5,g6,g7,g8,g9,g10,g11,g12⟩:=T.mG hy;obtain⟨row,rfl,hl,hl2⟩:=T.fD hz;exact⟨⟨.av _ _ _ _ _ _ _ g7 g8 g9 g10 g11 g12,g1,g2,g3,g4,g5,g6⟩,hl,hl2⟩
theorem Si (m:Int){q:Sc}(hs:SD q){e:Tree}(hE:T .aG e)(hR:Rt e):∃n,dep e=n+1/\Dx (n+1) e/\Ci m q (evN m q n) e (Bn m q e):=by
 obtain⟨n,h1,h2⟩:=adH m hE;refine⟨n,h1,h2, ?_⟩;unfold Bn;rw[h1];exact UL m q hs n e h2 hE hR
theorem Nb {m:Int}{g:FuncId}{x:Tree}{k:Int}(h:k=0)(hr:R1 (cf m) g x (.int .i64 k)):R1 (cf m) g x (.int .i64 0):=h▸hr
theorem Iw:T .av zeroV:=.av _ _ _ _ _ _ _ (by simp) (by simp) (by simp) (λ_ h=>by cases h) (by simp) (λ_ h=>by cases h)
theorem Em (m:Int){x y z:Tree}(hx:T .aG x)(hy:T .bQ y)(hz:T .aQ z):R3 (cf m) 11 x y z (.bU [(k9 m x y z).1,.int .i64 (k9 m x y z).2])/\T .av (k9 m x y z).1:=by
 have hs:=Lb hy hz;obtain⟨op,n,s,t,ns,ks,rfl,_⟩:=T.bE hx;obtain⟨p1,p2,a1,a2,r1,r2,qk,qb,qn,qs,qt,qc,ql,rfl,_⟩:=T.mG hy;obtain⟨l,rfl,hl,hl2⟩:=T.fD hz;unfold k9;by_cases h1:El m (bf op n s t ns ks)=0
 ·rw[ if_neg (by simpa using h1)];by_cases h2:SG m (qg p1 p2 a1 a2 r1 r2 qk qb qn qs qt qc ql)=0
  ·rw[ if_neg (by simpa using h2)];by_cases h3:Wq m (.sl l)=0
   ·rw[if_neg (by simpa using h3)];obtain⟨d,_,_,hc,hty,_⟩:=Si m hs hx (Ac m hx h1);cases hrr:Bn m (LN (qg p1 p2 a1 a2 r1 r2 qk qb qn qs qt qc ql) (.sl l)) (bf op n s t ns ks) with
    | inl v=>
      have hv:=hty.1 v hrr
      obtain⟨k,b,nn,ss,tt,N,L,rfl,_⟩:=T.aB hv
      exact⟨UR m op n s t ns ks hx p1 p2 a1 a2 r1 r2 qk qb qn qs qt qc ql hy l hl hl2 (Nb h1 (K9 m _ hx)) (Nb h2 (O8 m _ hy)) (Nb h3 (UM m _ hz)) _ hc k b nn ss tt N L hrr hv,hv⟩
    |inr w=>exact⟨US m op n s t ns ks hx p1 p2 a1 a2 r1 r2 qk qb qn qs qt qc ql hy l hl hl2 (Nb h1 (K9 m _ hx)) (Nb h2 (O8 m _ hy)) (Nb h3 (UM m _ hz)) _ hc w hrr,Iw⟩
   ·rw[if_pos h3];exact⟨agU m op n s t ns ks hx p1 p2 a1 a2 r1 r2 qk qb qn qs qt qc ql hy l hl hl2 h1 h2 h3,Iw⟩
  ·rw[if_pos h2];exact⟨agT m op n s t ns ks hx p1 p2 a1 a2 r1 r2 qk qb qn qs qt qc ql hy l hl hl2 h1 h2,Iw⟩
 ·rw[if_pos h1];exact⟨agS m op n s t ns ks hx p1 p2 a1 a2 r1 r2 qk qb qn qs qt qc ql hy l hl hl2 h1,Iw⟩
end
end Go.Proofs.YtfdnciimclnncaaGreatDoor.w.e
namespace Go.Proofs.YtfdnciimclnncaaGreatDoor.w.e
open Go Go.Abs
set_option maxRecDepth 100000
set_option maxHeartbeats 2000000
noncomputable section
def ov (r:Tree×Int):Bool×Int:=cond (r.2 != 0) (false,r.2) (cond (jh r.1 != 0) (false,7) (mV r.1,0))
theorem adI (m:Int)(x y z:Tree)(hx:T .aG x)(hy:T .bQ y)(hz:T .aQ z):∃r:{r:Bool×Int // r=ov (k9 m x y z)},R3 (cf m) 10 x y z (.bU [.bool r.1.1,.int .i64 r.1.2]):=by
 have bw:=hx;obtain⟨bX,n_1,s_1,dH,aU,bN,rfl,cL,cF,fQ,dX,fk,eR,jq⟩:=T.bE bw;have dB:=hy;obtain⟨qT,uF,vZ,Ad,sB,v7,uG,Ae,Af,Ag,Ah,sC,uH,rfl,gx,kD,tX,rX,tY,qN,Ow,ajb,ajc,ajd,apR,apS⟩:=T.mG dB;have jd:=hz;obtain⟨v_3,rfl,r9,sg⟩:=T.fD jd;obtain⟨ev,aK,Pc⟩:∃ev,aD (cf m) ev/\Has ev 11 (pc3 (λx y z=>T .aG x/\T .bQ y/\T .aQ z) (λx y z=>.bU [(k9 m x y z).1,.int .i64 (k9 m x y z).2])):=⟨_,(aq (Fc (λx y z h=>(Em m h.1 h.2.1 h.2.2).1)) aF),au⟩;refine AX.start 27 3 Tryz.func10 rfl (by decide) rfl rfl (by decide) ?_;refine AX.frames ?_;obtain⟨g_4,UH,agY,arb⟩:∃g w,k9 m (bf bX n_1 s_1 dH aU bN) (qg qT uF vZ Ad sB v7 uG Ae Af Ag Ah sC uH) (.sl v_3)=(g,w)/\T .av g:=⟨_,_,rfl,(Em m bw dB jd).2⟩;have qh:=arb;obtain⟨eC,ou,rJ,Bi,p0,fh,gW,rfl,xY,B1,KF,KG,KH,KI⟩:=T.aB qh;have akT:=show ev 11 [.t (bf bX n_1 s_1 dH aU bN),.t (qg qT uF vZ Ad sB v7 uG Ae Af Ag Ah sC uH),.t (.sl v_3)] []=some (bh.ret (.t (.bU [(aA eC ou rJ Bi p0 fh gW),.int .i64 UH])) [] []) from(fG Pc (x:=(bf bX n_1 s_1 dH aU bN)) (y:=(qg qT uF vZ Ad sB v7 uG Ae Af Ag Ah sC uH)) (z:=(.sl v_3)) ⟨bw,dB,jd⟩).trans (congrArg (λz:Tree×Int=>some (bh.ret (.t (.bU [z.1,.int .i64 z.2])) [] [])) agY);rcases aM ((UH != 0)) with lT|lT
 ·have zC:=dM lT;refine⟨⟨(false,UH),(by rw[agY];simp only[ov,jh,mV,lT,cond_true,cond_false])⟩,kf ah [oC akT,oB lT]⟩
 ·have zC:=cC lT;rcases aM ((eC != 0)) with gi|gi
  ·have mR:=dM gi;refine⟨⟨(false,7),(by rw[agY];simp only[ov,jh,mV,lT,gi,cond_true,cond_false])⟩,kf ah [oC akT,oB lT,oB gi]⟩
  ·have mR:=cC gi;refine⟨⟨(ou,0),(by rw[agY];simp only[ov,jh,mV,lT,gi,cond_true,cond_false])⟩,kf ah [oC akT,oB lT,oB gi]⟩
end
end Go.Proofs.YtfdnciimclnncaaGreatDoor.w.e
