/- Arguments of any kind. -/
import Derived.Test.YtnfnihgmankidaaGreatDoorT
import Derived.Test.YtnfnihgmankidaaGreatDoorH
import Derived.Test.YtnfnihgmankidaaGreatDoorShelf
import Derived.Test.YtnfnihgmankidaaGreatDoorAC
import Derived.Test.YtnfnihgmankidaaGreatDoorAG
set_option linter.unusedVariables false
set_option linter.unusedSimpArgs false
namespace Go.Proofs.YtnfnihgmankidaaGreatDoor.w.e
open Go Go.Abs
set_option maxRecDepth 100000
set_option maxHeartbeats 2000000
noncomputable section
open Go.Abs.Ty
open Go.Proofs.YtnfnihgmankidaaGreatDoor.arg
noncomputable abbrev PP:Program:=Tryz.prog
theorem wf_u8 {k:Int}(h:(Lit.int .u8 k).wf=true):0<=k:=by
 simp only[Lit.wf,Bool.and_eq_true,decide_eq_true_eq] at h;exact h.1
theorem Fc {B n:Nat}{cs:List Tree}(h:jv PP B n 9 cs):∃s,cs=[.str s]/\s.length<=B:=by
 cases n with
 |zero=>exact h.elim
 |succ n=>
  simp only[jv,PP,Tryz.underlying9] at h
  exact h
theorem ajw (cs:List Tree):mF PP 24 cs=.agg cs:=by simp only[mF,PP,Tryz.underlying24]
theorem P9 {B n:Nat}{cs:List Tree}(h:jv PP B n 27 cs):∃l,cs=[.sl l]/\l.length<=B/\∀x∈l,∃m,m<n/\∃ds,jv PP B m 9 ds/\x=mF PP 9 ds:=by
 cases n with
 |zero=>exact h.elim
 |succ n=>
  simp only[jv,PP,Tryz.underlying27] at h
  obtain⟨l,h1,h2,h3⟩:=h
  exact⟨l,h1,h2,λx hx=>by obtain⟨ds,h4,h5⟩:=h3 x hx;exact⟨n,Nat.lt_succ_self n,ds,h4,h5⟩⟩
theorem ajx (cs:List Tree):mF PP 27 cs=cs.headD .bQ:=by simp only[mF,PP,Tryz.underlying27]
theorem mk9 (cs:List Tree):mF PP 9 cs=cs.headD .bQ:=by simp only[mF,PP,Tryz.underlying9]
theorem WX {B n:Nat}{cs:List Tree}(h:jv PP B n 26 cs):∃k,cs=[.int .u8 k]/\0<=k:=by
 cases n with
 |zero=>exact h.elim
 |succ n=>
  simp only[jv,PP,Tryz.underlying26] at h
  obtain⟨x,h1,h2⟩:=h
  exact⟨x,h1,wf_u8 h2⟩
theorem agc {B n:Nat}{cs:List Tree}(h:jv PP B n 4 cs):∃b,cs=[.bool b]:=by
 cases n with
 |zero=>exact h.elim
 |succ n=>
  simp only[jv,PP,Tryz.underlying4] at h
  exact h
theorem Zq {B n:Nat}{cs:List Tree}(h:jv PP B n 2 cs):∃k,cs=[.int .i64 k]:=by
 cases n with
 |zero=>exact h.elim
 |succ n=>
  simp only[jv,PP,Tryz.underlying2] at h
  obtain⟨x,h1,_⟩:=h
  exact⟨x,h1⟩
theorem WY {B n:Nat}{cs:List Tree}(h:jv PP B n 28 cs):∃l,cs=[.sl l]/\l.length<=B/\∀x∈l,∃m,m<n/\∃ds,jv PP B m 30 ds/\x=mF PP 30 ds:=by
 cases n with
 |zero=>exact h.elim
 |succ n=>
  simp only[jv,PP,Tryz.underlying28] at h
  obtain⟨l,h1,h2,h3⟩:=h
  exact⟨l,h1,h2,λx hx=>by obtain⟨ds,h4,h5⟩:=h3 x hx;exact⟨n,Nat.lt_succ_self n,ds,h4,h5⟩⟩
theorem ajy (cs:List Tree):mF PP 30 cs=.agg cs:=by simp only[mF,PP,Tryz.underlying30]
theorem agd {B n:Nat}{cs:List Tree}(h:jv PP B n 92 cs):∃k,cs=[.int .u8 k]/\0<=k:=by
 cases n with
 |zero=>exact h.elim
 |succ n=>
  simp only[jv,PP,Tryz.underlying92] at h
  obtain⟨x,h1,h2⟩:=h
  exact⟨x,h1,wf_u8 h2⟩
theorem age {B n:Nat}{cs:List Tree}(h:jv PP B n 93 cs):∃l,cs=[.sl l]/\l.length<=B/\∀x∈l,∃m,m<n/\∃ds,jv PP B m 95 ds/\x=mF PP 95 ds:=by
 cases n with
 |zero=>exact h.elim
 |succ n=>
  simp only[jv,PP,Tryz.underlying93] at h
  obtain⟨l,h1,h2,h3⟩:=h
  exact⟨l,h1,h2,λx hx=>by obtain⟨ds,h4,h5⟩:=h3 x hx;exact⟨n,Nat.lt_succ_self n,ds,h4,h5⟩⟩
theorem ajz (cs:List Tree):mF PP 95 cs=.agg cs:=by simp only[mF,PP,Tryz.underlying95]
theorem aaB {B n:Nat}{cs:List Tree}(h:jv PP B n 25 cs):∃l,cs=[.sl l]/\l.length<=B/\∀x∈l,∃m,m<n/\∃ds,jv PP B m 24 ds/\x=mF PP 24 ds:=by
 cases n with
 |zero=>exact h.elim
 |succ n=>
  simp only[jv,PP,Tryz.underlying25] at h
  obtain⟨l,h1,h2,h3⟩:=h
  exact⟨l,h1,h2,λx hx=>by obtain⟨ds,h4,h5⟩:=h3 x hx;exact⟨n,Nat.lt_succ_self n,ds,h4,h5⟩⟩
theorem ajA (cs:List Tree):mF PP 32 cs=.agg cs:=by simp only[mF,PP,Tryz.underlying32]
theorem acO {B n:Nat}{cs:List Tree}(h:jv PP B n 178 cs):∃l,cs=[.sl l]/\l.length<=B/\∀x∈l,∃m,m<n/\∃ds,jv PP B m 3 ds/\x=mF PP 3 ds:=by
 cases n with
 |zero=>exact h.elim
 |succ n=>
  simp only[jv,PP,Tryz.underlying178] at h
  obtain⟨l,h1,h2,h3⟩:=h
  exact⟨l,h1,h2,λx hx=>by obtain⟨ds,h4,h5⟩:=h3 x hx;exact⟨n,Nat.lt_succ_self n,ds,h4,h5⟩⟩
theorem agf (cs:List Tree):mF PP 178 cs=cs.headD .bQ:=by simp only[mF,PP,Tryz.underlying178]
theorem ajB {B n:Nat}{cs:List Tree}(h:jv PP B n 3 cs):∃k,cs=[.int .i64 k]:=by
 cases n with
 |zero=>exact h.elim
 |succ n=>
  simp only[jv,PP,Tryz.underlying3] at h
  obtain⟨x,h1,_⟩:=h
  exact⟨x,h1⟩
theorem mk3 (cs:List Tree):mF PP 3 cs=cs.headD .bQ:=by simp only[mF,PP,Tryz.underlying3]
theorem ajC (cs:List Tree):mF PP 26 cs=cs.headD .bQ:=by simp only[mF,PP,Tryz.underlying26]
theorem mk2 (cs:List Tree):mF PP 2 cs=cs.headD .bQ:=by simp only[mF,PP,Tryz.underlying2]
theorem ajD (cs:List Tree):mF PP 25 cs=cs.headD .bQ:=by simp only[mF,PP,Tryz.underlying25]
theorem agh {B n:Nat}{cs:List Tree}(h:jv PP B n 22 cs):∃l,cs=[.sl l]/\l.length<=B/\∀x∈l,∃m,m<n/\∃ds,jv PP B m 32 ds/\x=mF PP 32 ds:=by
 cases n with
 |zero=>exact h.elim
 |succ n=>
  simp only[jv,PP,Tryz.underlying22] at h
  obtain⟨l,h1,h2,h3⟩:=h
  exact⟨l,h1,h2,λx hx=>by obtain⟨ds,h4,h5⟩:=h3 x hx;exact⟨n,Nat.lt_succ_self n,ds,h4,h5⟩⟩
theorem ajE (cs:List Tree):mF PP 22 cs=cs.headD .bQ:=by simp only[mF,PP,Tryz.underlying22]
theorem ajF (cs:List Tree):mF PP 28 cs=cs.headD .bQ:=by simp only[mF,PP,Tryz.underlying28]
theorem WZ {B:Nat}(hB:B<=4194304):∀n,(∀cs,jv PP B n 24 cs->T .au (mF PP 24 cs))/\(∀cs,jv PP B n 27 cs->T .Cw (mF PP 27 cs))/\(∀cs,jv PP B n 9 cs->T .string (mF PP 9 cs))/\(∀cs,jv PP B n 30 cs->T .aY (mF PP 30 cs))/\(∀cs,jv PP B n 95 cs->T .zm (mF PP 95 cs))/\(∀cs,jv PP B n 32 cs->T .aU (mF PP 32 cs))/\(∀cs,jv PP B n 178 cs->T .Lint (mF PP 178 cs))/\(∀cs,jv PP B n 3 cs->T .int (mF PP 3 cs))/\(∀cs,jv PP B n 26 cs->T .gY (mF PP 26 cs))/\(∀cs,jv PP B n 2 cs->T .int64 (mF PP 2 cs))/\(∀cs,jv PP B n 25 cs->T .bn (mF PP 25 cs))/\(∀cs,jv PP B n 22 cs->T .ai (mF PP 22 cs))/\(∀cs,jv PP B n 28 cs->T .wF (mF PP 28 cs)):=by
 intro n;induction n using Nat.strongRecOn with
 |_ n ih=>
 refine⟨λcs h=> ?_,λcs h=> ?_,λcs h=> ?_,λcs h=> ?_,λcs h=> ?_,λcs h=> ?_,λcs h=> ?_,λcs h=> ?_,λcs h=> ?_,λcs h=> ?_,λcs h=> ?_,λcs h=> ?_,λcs h=> ?_⟩
 ·rw[ajw];rcases n with _|n5
  ·exact h.elim
  simp only[jv,PP,Tryz.underlying24,x5] at h;obtain⟨a3,_,rfl,h1,a4,_,rfl,h2,rfl⟩:=h;obtain⟨v6,rfl,q7⟩:=Fc h1;obtain⟨v8,rfl,q9⟩:=Fc h2;exact T.au v6 v8 (by omega) (by omega)
 ·rw[ajx];obtain⟨l10,rfl,q11,x12⟩:=P9 h;exact T.Cw l10 (by omega) (λy hy=>by obtain⟨m,hm,ds,hd,rfl⟩:=x12 y hy;exact(ih m (by omega)).2.2.1 _ hd)
 ·rw[mk9];obtain⟨v13,rfl,q14⟩:=Fc h;exact T.string v13 (by omega)
 ·rw[ajy];rcases n with _|n29
  ·exact h.elim
  simp only[jv,PP,Tryz.underlying30,x5] at h;obtain⟨a22,_,rfl,h15,a23,_,rfl,h16,a24,_,rfl,h17,a25,_,rfl,h18,a26,_,rfl,h19,a27,_,rfl,h20,a28,_,rfl,h21,rfl⟩:=h;obtain⟨v30,rfl,q31⟩:=WX h15;obtain⟨v32,rfl⟩:=agc h16;obtain⟨v33,rfl⟩:=Zq h17;obtain⟨v34,rfl,q35⟩:=Fc h18;obtain⟨v36,rfl,q37⟩:=Fc h19;obtain⟨l38,rfl,q39,x40⟩:=P9 h20;obtain⟨l41,rfl,q42,x43⟩:=WY h21;exact T.aY v30 v32 v33 v34 v36 l38 l41 (by omega) (by omega) (by omega) (λy hy=>by obtain⟨m,hm,ds,hd,rfl⟩:=x40 y hy;exact(ih m (by omega)).2.2.1 _ hd) (by omega) (λy hy=>by obtain⟨m,hm,ds,hd,rfl⟩:=x43 y hy;exact(ih m (by omega)).2.2.2.1 _ hd)
 ·rw[ajz];rcases n with _|n56
  ·exact h.elim
  simp only[jv,PP,Tryz.underlying95,x5] at h;obtain⟨a50,_,rfl,h44,a51,_,rfl,h45,a52,_,rfl,h46,a53,_,rfl,h47,a54,_,rfl,h48,a55,_,rfl,h49,rfl⟩:=h;obtain⟨v57,rfl,q58⟩:=agd h44;obtain⟨v59,rfl⟩:=Zq h45;obtain⟨v60,rfl,q61⟩:=Fc h46;obtain⟨v62,rfl,q63⟩:=Fc h47;obtain⟨l64,rfl,q65,x66⟩:=P9 h48;obtain⟨l67,rfl,q68,x69⟩:=age h49;exact T.zm v57 v59 v60 v62 l64 l67 q58 (by omega) (by omega) (by omega) (λy hy=>by obtain⟨m,hm,ds,hd,rfl⟩:=x66 y hy;exact(ih m (by omega)).2.2.1 _ hd) (by omega) (λy hy=>by obtain⟨m,hm,ds,hd,rfl⟩:=x69 y hy;exact(ih m (by omega)).2.2.2.2.1 _ hd)
 ·rw[ajA];rcases n with _|n76
  ·exact h.elim
  simp only[jv,PP,Tryz.underlying32,x5] at h;obtain⟨a73,_,rfl,h70,a74,_,rfl,h71,a75,_,rfl,h72,rfl⟩:=h;rcases n76 with _|n81
  ·exact h70.elim
  simp only[jv,PP,Tryz.underlying24,x5] at h70;obtain⟨a79,_,rfl,h77,a80,_,rfl,h78,rfl⟩:=h70;obtain⟨v82,rfl,q83⟩:=Fc h77;obtain⟨v84,rfl,q85⟩:=Fc h78;obtain⟨l86,rfl,q87,x88⟩:=aaB h71;simp only[jv,PP,Tryz.underlying30,x5] at h72;obtain⟨a96,_,rfl,h89,a97,_,rfl,h90,a98,_,rfl,h91,a99,_,rfl,h92,akE,_,rfl,h93,akF,_,rfl,h94,akG,_,rfl,h95,rfl⟩:=h72;obtain⟨ajG,rfl,akH⟩:=WX h89;obtain⟨v105,rfl⟩:=agc h90;obtain⟨ajH,rfl⟩:=Zq h91;obtain⟨v107,rfl,akI⟩:=Fc h92;obtain⟨v109,rfl,akJ⟩:=Fc h93;obtain⟨ajI,rfl,akK,x113⟩:=P9 h94;obtain⟨ajJ,rfl,akL,ajK⟩:=WY h95;exact T.aU v82 v84 l86 ajG v105 ajH v107 v109 ajI ajJ (by omega) (by omega) (by omega) (λy hy=>by obtain⟨m,hm,ds,hd,rfl⟩:=x88 y hy;exact(ih m (by omega)).1 _ hd) (by omega) (by omega) (by omega) (λy hy=>by obtain⟨m,hm,ds,hd,rfl⟩:=x113 y hy;exact(ih m (by omega)).2.2.1 _ hd) (by omega) (λy hy=>by obtain⟨m,hm,ds,hd,rfl⟩:=ajK y hy;exact(ih m (by omega)).2.2.2.1 _ hd)
 ·rw[agf];obtain⟨ajL,rfl,akM,ajM⟩:=acO h;exact T.Lint ajL (by omega) (λy hy=>by obtain⟨m,hm,ds,hd,rfl⟩:=ajM y hy;exact(ih m (by omega)).2.2.2.2.2.2.2.1 _ hd)
 ·rw[mk3];obtain⟨ajN,rfl⟩:=ajB h;exact T.int ajN
 ·rw[ajC];obtain⟨ajO,rfl,akN⟩:=WX h;exact T.gY ajO
 ·rw[mk2];obtain⟨ajP,rfl⟩:=Zq h;exact T.int64 ajP
 ·rw[ajD];obtain⟨ajQ,rfl,akO,ajR⟩:=aaB h;exact T.bn ajQ (by omega) (λy hy=>by obtain⟨m,hm,ds,hd,rfl⟩:=ajR y hy;exact(ih m (by omega)).1 _ hd)
 ·rw[ajE];obtain⟨ajS,rfl,akP,ajT⟩:=agh h;exact T.ai ajS (by omega) (λy hy=>by obtain⟨m,hm,ds,hd,rfl⟩:=ajT y hy;exact(ih m (by omega)).2.2.2.2.2.1 _ hd)
 ·rw[ajF];obtain⟨ajU,rfl,akQ,ajV⟩:=WY h;exact T.wF ajU (by omega) (λy hy=>by obtain⟨m,hm,ds,hd,rfl⟩:=ajV y hy;exact(ih m (by omega)).2.2.2.1 _ hd)
theorem Ow {B:Nat}(hB:B<=4194304){x:Tree}(h:ShT PP B 24 x):T .au x:=by
 obtain⟨n,ds,_,h1,rfl⟩:=h;exact(WZ hB n).1 ds h1
theorem Fe {B:Nat}(hB:B<=4194304){x:Tree}(h:ShT PP B 22 x):T .ai x:=by
 obtain⟨n,ds,_,h1,rfl⟩:=h;exact(WZ hB n).2.2.2.2.2.2.2.2.2.2.2.1 ds h1
theorem acP (m:Int)(Ts:List Tree)(h:OH PP 1048576 [22,24] Ts):aq (cf m) 4 (Ts.map .t) [] (.ret (.t (.bool true)) [] []):=by
 match Ts,h with
 | [x,y],⟨h1,h2,_⟩=>
  obtain⟨l,rfl,hl,hl2⟩:=T.cQ (Fe (by decide) h1)
  obtain⟨a,b,rfl,ha,hb⟩:=T.aR (Ow (by decide) h2)
  exact aci m (WW m) l hl hl2 a b ha hb
end
end Go.Proofs.YtnfnihgmankidaaGreatDoor.w.e
