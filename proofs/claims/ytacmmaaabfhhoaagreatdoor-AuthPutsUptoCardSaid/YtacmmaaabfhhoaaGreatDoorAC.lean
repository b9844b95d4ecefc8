/- Arguments of any kind. -/
import Derived.Test.YtacmmaaabfhhoaaGreatDoorS
import Derived.Test.YtacmmaaabfhhoaaGreatDoorH
import Derived.Test.YtacmmaaabfhhoaaGreatDoorShelf
import Derived.Test.YtacmmaaabfhhoaaGreatDoorR
import Derived.Defers
import Derived.Recover
set_option linter.unusedVariables false
set_option linter.unusedSimpArgs false
namespace Go.Proofs.YtacmmaaabfhhoaaGreatDoor.w.e
open Go Go.Abs
set_option maxRecDepth 100000
set_option maxHeartbeats 2000000
noncomputable section
open Go.Abs.Ty
open Go.Proofs.YtacmmaaabfhhoaaGreatDoor.arg
noncomputable abbrev PP:Program:=Tryz.prog
theorem wf_u8 {k:Int}(h:(Lit.int .u8 k).wf=true):0<=k:=by
 simp only[Lit.wf,Bool.and_eq_true,decide_eq_true_eq] at h;exact h.1
theorem mT {B n:Nat}{cs:List Tree}(h:gy PP B n 9 cs):∃s,cs=[.str s]/\s.length<=B:=by
 cases n with
 |zero=>exact h.elim
 |succ n=>
  simp only[gy,PP,Tryz.underlying9] at h
  exact h
theorem ahj (cs:List Tree):jL PP 24 cs=.agg cs:=by simp only[jL,PP,Tryz.underlying24]
theorem Ff {B n:Nat}{cs:List Tree}(h:gy PP B n 26 cs):∃l,cs=[.sl l]/\l.length<=B/\∀x∈l,∃m,m<n/\∃ds,gy PP B m 9 ds/\x=jL PP 9 ds:=by
 cases n with
 |zero=>exact h.elim
 |succ n=>
  simp only[gy,PP,Tryz.underlying26] at h
  obtain⟨l,h1,h2,h3⟩:=h
  exact⟨l,h1,h2,λx hx=>by obtain⟨ds,h4,h5⟩:=h3 x hx;exact⟨n,Nat.lt_succ_self n,ds,h4,h5⟩⟩
theorem ahk (cs:List Tree):jL PP 26 cs=cs.headD .fq:=by simp only[jL,PP,Tryz.underlying26]
theorem mk9 (cs:List Tree):jL PP 9 cs=cs.headD .fq:=by simp only[jL,PP,Tryz.underlying9]
theorem UO {B n:Nat}{cs:List Tree}(h:gy PP B n 25 cs):∃k,cs=[.int .u8 k]/\0<=k:=by
 cases n with
 |zero=>exact h.elim
 |succ n=>
  simp only[gy,PP,Tryz.underlying25] at h
  obtain⟨x,h1,h2⟩:=h
  exact⟨x,h1,wf_u8 h2⟩
theorem Pm {B n:Nat}{cs:List Tree}(h:gy PP B n 4 cs):∃b,cs=[.bool b]:=by
 cases n with
 |zero=>exact h.elim
 |succ n=>
  simp only[gy,PP,Tryz.underlying4] at h
  exact h
theorem UP {B n:Nat}{cs:List Tree}(h:gy PP B n 2 cs):∃k,cs=[.int .i64 k]:=by
 cases n with
 |zero=>exact h.elim
 |succ n=>
  simp only[gy,PP,Tryz.underlying2] at h
  obtain⟨x,h1,_⟩:=h
  exact⟨x,h1⟩
theorem UQ {B n:Nat}{cs:List Tree}(h:gy PP B n 27 cs):∃l,cs=[.sl l]/\l.length<=B/\∀x∈l,∃m,m<n/\∃ds,gy PP B m 29 ds/\x=jL PP 29 ds:=by
 cases n with
 |zero=>exact h.elim
 |succ n=>
  simp only[gy,PP,Tryz.underlying27] at h
  obtain⟨l,h1,h2,h3⟩:=h
  exact⟨l,h1,h2,λx hx=>by obtain⟨ds,h4,h5⟩:=h3 x hx;exact⟨n,Nat.lt_succ_self n,ds,h4,h5⟩⟩
theorem ahl (cs:List Tree):jL PP 29 cs=.agg cs:=by simp only[jL,PP,Tryz.underlying29]
theorem YB {B n:Nat}{cs:List Tree}(h:gy PP B n 49 cs):∃k,cs=[.int .u8 k]/\0<=k:=by
 cases n with
 |zero=>exact h.elim
 |succ n=>
  simp only[gy,PP,Tryz.underlying49] at h
  obtain⟨x,h1,h2⟩:=h
  exact⟨x,h1,wf_u8 h2⟩
theorem UR {B n:Nat}{cs:List Tree}(h:gy PP B n 50 cs):∃l,cs=[.sl l]/\l.length<=B/\∀x∈l,∃m,m<n/\∃ds,gy PP B m 52 ds/\x=jL PP 52 ds:=by
 cases n with
 |zero=>exact h.elim
 |succ n=>
  simp only[gy,PP,Tryz.underlying50] at h
  obtain⟨l,h1,h2,h3⟩:=h
  exact⟨l,h1,h2,λx hx=>by obtain⟨ds,h4,h5⟩:=h3 x hx;exact⟨n,Nat.lt_succ_self n,ds,h4,h5⟩⟩
theorem ahm (cs:List Tree):jL PP 52 cs=.agg cs:=by simp only[jL,PP,Tryz.underlying52]
theorem zl {B n:Nat}{cs:List Tree}(h:gy PP B n 41 cs):∃l,cs=[.sl l]/\l.length<=B/\∀x∈l,∃m,m<n/\∃ds,gy PP B m 24 ds/\x=jL PP 24 ds:=by
 cases n with
 |zero=>exact h.elim
 |succ n=>
  simp only[gy,PP,Tryz.underlying41] at h
  obtain⟨l,h1,h2,h3⟩:=h
  exact⟨l,h1,h2,λx hx=>by obtain⟨ds,h4,h5⟩:=h3 x hx;exact⟨n,Nat.lt_succ_self n,ds,h4,h5⟩⟩
theorem aed (cs:List Tree):jL PP 112 cs=.agg cs:=by simp only[jL,PP,Tryz.underlying112]
theorem ahn (cs:List Tree):jL PP 31 cs=.agg cs:=by simp only[jL,PP,Tryz.underlying31]
theorem aaU {B n:Nat}{cs:List Tree}(h:gy PP B n 212 cs):∃l,cs=[.sl l]/\l.length<=B/\∀x∈l,∃m,m<n/\∃ds,gy PP B m 3 ds/\x=jL PP 3 ds:=by
 cases n with
 |zero=>exact h.elim
 |succ n=>
  simp only[gy,PP,Tryz.underlying212] at h
  obtain⟨l,h1,h2,h3⟩:=h
  exact⟨l,h1,h2,λx hx=>by obtain⟨ds,h4,h5⟩:=h3 x hx;exact⟨n,Nat.lt_succ_self n,ds,h4,h5⟩⟩
theorem aee (cs:List Tree):jL PP 212 cs=cs.headD .fq:=by simp only[jL,PP,Tryz.underlying212]
theorem aho {B n:Nat}{cs:List Tree}(h:gy PP B n 3 cs):∃k,cs=[.int .i64 k]:=by
 cases n with
 |zero=>exact h.elim
 |succ n=>
  simp only[gy,PP,Tryz.underlying3] at h
  obtain⟨x,h1,_⟩:=h
  exact⟨x,h1⟩
theorem mk3 (cs:List Tree):jL PP 3 cs=cs.headD .fq:=by simp only[jL,PP,Tryz.underlying3]
theorem ahp (cs:List Tree):jL PP 41 cs=cs.headD .fq:=by simp only[jL,PP,Tryz.underlying41]
theorem Dt {B n:Nat}{cs:List Tree}(h:gy PP B n 40 cs):∃k,cs=[.int .u8 k]/\0<=k:=by
 cases n with
 |zero=>exact h.elim
 |succ n=>
  simp only[gy,PP,Tryz.underlying40] at h
  obtain⟨x,h1,h2⟩:=h
  exact⟨x,h1,wf_u8 h2⟩
theorem US {B n:Nat}{cs:List Tree}(h:gy PP B n 44 cs):∃l,cs=[.sl l]/\l.length<=B/\∀x∈l,∃m,m<n/\∃ds,gy PP B m 87 ds/\x=jL PP 87 ds:=by
 cases n with
 |zero=>exact h.elim
 |succ n=>
  simp only[gy,PP,Tryz.underlying44] at h
  obtain⟨l,h1,h2,h3⟩:=h
  exact⟨l,h1,h2,λx hx=>by obtain⟨ds,h4,h5⟩:=h3 x hx;exact⟨n,Nat.lt_succ_self n,ds,h4,h5⟩⟩
theorem ahq (cs:List Tree):jL PP 46 cs=.agg cs:=by simp only[jL,PP,Tryz.underlying46]
theorem ahr (cs:List Tree):jL PP 87 cs=.agg cs:=by simp only[jL,PP,Tryz.underlying87]
theorem ahs (cs:List Tree):jL PP 43 cs=.agg cs:=by simp only[jL,PP,Tryz.underlying43]
theorem aht (cs:List Tree):jL PP 48 cs=.agg cs:=by simp only[jL,PP,Tryz.underlying48]
theorem ahu (cs:List Tree):jL PP 50 cs=cs.headD .fq:=by simp only[jL,PP,Tryz.underlying50]
theorem ahv (cs:List Tree):jL PP 44 cs=cs.headD .fq:=by simp only[jL,PP,Tryz.underlying44]
theorem aef {B n:Nat}{cs:List Tree}(h:gy PP B n 22 cs):∃l,cs=[.sl l]/\l.length<=B/\∀x∈l,∃m,m<n/\∃ds,gy PP B m 48 ds/\x=jL PP 48 ds:=by
 cases n with
 |zero=>exact h.elim
 |succ n=>
  simp only[gy,PP,Tryz.underlying22] at h
  obtain⟨l,h1,h2,h3⟩:=h
  exact⟨l,h1,h2,λx hx=>by obtain⟨ds,h4,h5⟩:=h3 x hx;exact⟨n,Nat.lt_succ_self n,ds,h4,h5⟩⟩
theorem ahw (cs:List Tree):jL PP 22 cs=cs.headD .fq:=by simp only[jL,PP,Tryz.underlying22]
theorem aaV {B n:Nat}{cs:List Tree}(h:gy PP B n 107 cs):∃l,cs=[.sl l]/\l.length<=B/\∀x∈l,∃m,m<n/\∃ds,gy PP B m 36 ds/\x=jL PP 36 ds:=by
 cases n with
 |zero=>exact h.elim
 |succ n=>
  simp only[gy,PP,Tryz.underlying107] at h
  obtain⟨l,h1,h2,h3⟩:=h
  exact⟨l,h1,h2,λx hx=>by obtain⟨ds,h4,h5⟩:=h3 x hx;exact⟨n,Nat.lt_succ_self n,ds,h4,h5⟩⟩
theorem aeg (cs:List Tree):jL PP 107 cs=cs.headD .fq:=by simp only[jL,PP,Tryz.underlying107]
theorem aeh {B n:Nat}{cs:List Tree}(h:gy PP B n 36 cs):∃k,cs=[.int .i64 k]:=by
 cases n with
 |zero=>exact h.elim
 |succ n=>
  simp only[gy,PP,Tryz.underlying36] at h
  obtain⟨x,h1,_⟩:=h
  exact⟨x,h1⟩
theorem ahx (cs:List Tree):jL PP 36 cs=cs.headD .fq:=by simp only[jL,PP,Tryz.underlying36]
theorem LX {B:Nat}(hB:B<=4194304):∀n,(∀cs,gy PP B n 24 cs->T .bB (jL PP 24 cs))/\(∀cs,gy PP B n 26 cs->T .dz (jL PP 26 cs))/\(∀cs,gy PP B n 9 cs->T .string (jL PP 9 cs))/\(∀cs,gy PP B n 29 cs->T .qg (jL PP 29 cs))/\(∀cs,gy PP B n 52 cs->T .aK (jL PP 52 cs))/\(∀cs,gy PP B n 112 cs->T .vM (jL PP 112 cs))/\(∀cs,gy PP B n 31 cs->T .s5 (jL PP 31 cs))/\(∀cs,gy PP B n 212 cs->T .Lint (jL PP 212 cs))/\(∀cs,gy PP B n 3 cs->T .int (jL PP 3 cs))/\(∀cs,gy PP B n 41 cs->T .bN (jL PP 41 cs))/\(∀cs,gy PP B n 46 cs->T .bt (jL PP 46 cs))/\(∀cs,gy PP B n 87 cs->T .iw (jL PP 87 cs))/\(∀cs,gy PP B n 43 cs->T .bI (jL PP 43 cs))/\(∀cs,gy PP B n 48 cs->T .aN (jL PP 48 cs))/\(∀cs,gy PP B n 50 cs->T .kC (jL PP 50 cs))/\(∀cs,gy PP B n 44 cs->T .yH (jL PP 44 cs))/\(∀cs,gy PP B n 22 cs->T .aA (jL PP 22 cs))/\(∀cs,gy PP B n 107 cs->T .jf (jL PP 107 cs))/\(∀cs,gy PP B n 36 cs->T .fY (jL PP 36 cs)):=by
 intro n;induction n using Nat.strongRecOn with
 |_ n ih=>
 refine⟨λcs h=> ?_,λcs h=> ?_,λcs h=> ?_,λcs h=> ?_,λcs h=> ?_,λcs h=> ?_,λcs h=> ?_,λcs h=> ?_,λcs h=> ?_,λcs h=> ?_,λcs h=> ?_,λcs h=> ?_,λcs h=> ?_,λcs h=> ?_,λcs h=> ?_,λcs h=> ?_,λcs h=> ?_,λcs h=> ?_,λcs h=> ?_⟩
 ·rw[ahj];rcases n with _|n5
  ·exact h.elim
  simp only[gy,PP,Tryz.underlying24,k4] at h;obtain⟨a3,_,rfl,h1,a4,_,rfl,h2,rfl⟩:=h;obtain⟨v6,rfl,q7⟩:=mT h1;obtain⟨v8,rfl,q9⟩:=mT h2;exact T.bB v6 v8 (by omega) (by omega)
 ·rw[ahk];obtain⟨l10,rfl,q11,x12⟩:=Ff h;exact T.dz l10 (by omega) (λy hy=>by obtain⟨m,hm,ds,hd,rfl⟩:=x12 y hy;exact(ih m (by omega)).2.2.1 _ hd)
 ·rw[mk9];obtain⟨v13,rfl,q14⟩:=mT h;exact T.string v13 (by omega)
 ·rw[ahl];rcases n with _|n29
  ·exact h.elim
  simp only[gy,PP,Tryz.underlying29,k4] at h;obtain⟨a22,_,rfl,h15,a23,_,rfl,h16,a24,_,rfl,h17,a25,_,rfl,h18,a26,_,rfl,h19,a27,_,rfl,h20,a28,_,rfl,h21,rfl⟩:=h;obtain⟨v30,rfl,q31⟩:=UO h15;obtain⟨v32,rfl⟩:=Pm h16;obtain⟨v33,rfl⟩:=UP h17;obtain⟨v34,rfl,q35⟩:=mT h18;obtain⟨v36,rfl,q37⟩:=mT h19;obtain⟨l38,rfl,q39,x40⟩:=Ff h20;obtain⟨l41,rfl,q42,x43⟩:=UQ h21;exact T.qg v30 v32 v33 v34 v36 l38 l41 (by omega) (by omega) (by omega) (λy hy=>by obtain⟨m,hm,ds,hd,rfl⟩:=x40 y hy;exact(ih m (by omega)).2.2.1 _ hd) (by omega) (λy hy=>by obtain⟨m,hm,ds,hd,rfl⟩:=x43 y hy;exact(ih m (by omega)).2.2.2.1 _ hd)
 ·rw[ahm];rcases n with _|n56
  ·exact h.elim
  simp only[gy,PP,Tryz.underlying52,k4] at h;obtain⟨a50,_,rfl,h44,a51,_,rfl,h45,a52,_,rfl,h46,a53,_,rfl,h47,a54,_,rfl,h48,a55,_,rfl,h49,rfl⟩:=h;obtain⟨v57,rfl,q58⟩:=YB h44;obtain⟨v59,rfl⟩:=UP h45;obtain⟨v60,rfl,q61⟩:=mT h46;obtain⟨v62,rfl,q63⟩:=mT h47;obtain⟨l64,rfl,q65,x66⟩:=Ff h48;obtain⟨l67,rfl,q68,x69⟩:=UR h49;exact T.aK v57 v59 v60 v62 l64 l67 q58 (by omega) (by omega) (by omega) (λy hy=>by obtain⟨m,hm,ds,hd,rfl⟩:=x66 y hy;exact(ih m (by omega)).2.2.1 _ hd) (by omega) (λy hy=>by obtain⟨m,hm,ds,hd,rfl⟩:=x69 y hy;exact(ih m (by omega)).2.2.2.2.1 _ hd)
 ·rw[aed];rcases n with _|n76
  ·exact h.elim
  simp only[gy,PP,Tryz.underlying112,k4] at h;obtain⟨a73,_,rfl,h70,a74,_,rfl,h71,a75,_,rfl,h72,rfl⟩:=h;rcases n76 with _|n81
  ·exact h70.elim
  simp only[gy,PP,Tryz.underlying24,k4] at h70;obtain⟨a79,_,rfl,h77,a80,_,rfl,h78,rfl⟩:=h70;obtain⟨v82,rfl,q83⟩:=mT h77;obtain⟨v84,rfl,q85⟩:=mT h78;obtain⟨l86,rfl,q87,x88⟩:=zl h71;simp only[gy,PP,Tryz.underlying29,k4] at h72;obtain⟨a96,_,rfl,h89,a97,_,rfl,h90,a98,_,rfl,h91,a99,_,rfl,h92,ajY,_,rfl,h93,ajZ,_,rfl,h94,aj0,_,rfl,h95,rfl⟩:=h72;obtain⟨ahy,rfl,aj1⟩:=UO h89;obtain⟨v105,rfl⟩:=Pm h90;obtain⟨ahz,rfl⟩:=UP h91;obtain⟨v107,rfl,aj2⟩:=mT h92;obtain⟨v109,rfl,aj3⟩:=mT h93;obtain⟨ahA,rfl,aj4,ahB⟩:=Ff h94;obtain⟨ahC,rfl,aj5,ahD⟩:=UQ h95;exact T.vM v82 v84 l86 ahy v105 ahz v107 v109 ahA ahC (by omega) (by omega) (by omega) (λy hy=>by obtain⟨m,hm,ds,hd,rfl⟩:=x88 y hy;exact(ih m (by omega)).1 _ hd) (by omega) (by omega) (by omega) (λy hy=>by obtain⟨m,hm,ds,hd,rfl⟩:=ahB y hy;exact(ih m (by omega)).2.2.1 _ hd) (by omega) (λy hy=>by obtain⟨m,hm,ds,hd,rfl⟩:=ahD y hy;exact(ih m (by omega)).2.2.2.1 _ hd)
 ·rw[ahn];rcases n with _|n125
  ·exact h.elim
  simp only[gy,PP,Tryz.underlying31,k4] at h;obtain⟨aj6,_,rfl,aaW,aj7,_,rfl,aei,aj8,_,rfl,aej,a124,_,rfl,aek,rfl⟩:=h;rcases n125 with _|n130
  ·exact aaW.elim
  simp only[gy,PP,Tryz.underlying24,k4] at aaW;obtain⟨aj9,_,rfl,ahE,aka,_,rfl,ahF,rfl⟩:=aaW;obtain⟨v131,rfl,akb⟩:=mT ahE;obtain⟨ahG,rfl,akc⟩:=mT ahF;simp only[gy,PP,Tryz.underlying24,k4] at aei;obtain⟨akd,_,rfl,ahH,a138,_,rfl,ahI,rfl⟩:=aei;obtain⟨v139,rfl,ake⟩:=mT ahH;obtain⟨v141,rfl,akf⟩:=mT ahI;simp only[gy,PP,Tryz.underlying24,k4] at aej;obtain⟨a145,_,rfl,ahJ,a146,_,rfl,ahK,rfl⟩:=aej;obtain⟨ahL,rfl,akg⟩:=mT ahJ;obtain⟨ahM,rfl,akh⟩:=mT ahK;simp only[gy,PP,Tryz.underlying29,k4] at aek;obtain⟨aki,_,rfl,ahN,a159,_,rfl,ahO,a160,_,rfl,ahP,akj,_,rfl,ahQ,a162,_,rfl,ahR,akk,_,rfl,ahS,a164,_,rfl,ahT,rfl⟩:=aek;obtain⟨ahU,rfl,akl⟩:=UO ahN;obtain⟨v167,rfl⟩:=Pm ahO;obtain⟨v168,rfl⟩:=UP ahP;obtain⟨ahV,rfl,akm⟩:=mT ahQ;obtain⟨v171,rfl,akn⟩:=mT ahR;obtain⟨ahW,rfl,ako,ahX⟩:=Ff ahS;obtain⟨ahY,rfl,akp,ahZ⟩:=UQ ahT;exact T.s5 v131 ahG v139 v141 ahL ahM ahU v167 v168 ahV v171 ahW ahY (by omega) (by omega) (by omega) (by omega) (by omega) (by omega) (by omega) (by omega) (by omega) (λy hy=>by obtain⟨m,hm,ds,hd,rfl⟩:=ahX y hy;exact(ih m (by omega)).2.2.1 _ hd) (by omega) (λy hy=>by obtain⟨m,hm,ds,hd,rfl⟩:=ahZ y hy;exact(ih m (by omega)).2.2.2.1 _ hd)
 ·rw[aee];obtain⟨ah0,rfl,akq,ah1⟩:=aaU h;exact T.Lint ah0 (by omega) (λy hy=>by obtain⟨m,hm,ds,hd,rfl⟩:=ah1 y hy;exact(ih m (by omega)).2.2.2.2.2.2.2.2.1 _ hd)
 ·rw[mk3];obtain⟨v182,rfl⟩:=aho h;exact T.int v182
 ·rw[ahp];obtain⟨ah2,rfl,akr,ah3⟩:=zl h;exact T.bN ah2 (by omega) (λy hy=>by obtain⟨m,hm,ds,hd,rfl⟩:=ah3 y hy;exact(ih m (by omega)).1 _ hd)
 ·rw[ahq];rcases n with _|n196
  ·exact h.elim
  simp only[gy,PP,Tryz.underlying46,k4] at h;obtain⟨aks,_,rfl,ah4,akt,_,rfl,aaX,a193,_,rfl,ael,a194,_,rfl,aem,aku,_,rfl,ah5,rfl⟩:=h;obtain⟨ah6,rfl⟩:=Pm ah4;rcases n196 with _|n204
  ·exact aaX.elim
  simp only[gy,PP,Tryz.underlying43,k4] at aaX;obtain⟨a201,_,rfl,ah7,akv,_,rfl,ah8,a203,_,rfl,ah9,rfl⟩:=aaX;obtain⟨aia,rfl,akw⟩:=Dt ah7;obtain⟨aib,rfl,akx,aic⟩:=zl ah8;obtain⟨v210,rfl,aky⟩:=mT ah9;simp only[gy,PP,Tryz.underlying43,k4] at ael;obtain⟨akz,_,rfl,aid,akA,_,rfl,aie,akB,_,rfl,aif,rfl⟩:=ael;obtain⟨v218,rfl,akC⟩:=Dt aid;obtain⟨aih,rfl,akD,aii⟩:=zl aie;obtain⟨aij,rfl,akE⟩:=mT aif;simp only[gy,PP,Tryz.underlying43,k4] at aem;obtain⟨a228,_,rfl,aik,a229,_,rfl,ail,akF,_,rfl,aim,rfl⟩:=aem;obtain⟨ain,rfl,akG⟩:=Dt aik;obtain⟨aio,rfl,akH,aip⟩:=zl ail;obtain⟨v236,rfl,akI⟩:=mT aim;obtain⟨aiq,rfl,akJ,air⟩:=US ah5;exact T.bt ah6 aia aib v210 v218 aih aij ain aio v236 aiq (by omega) (λy hy=>by obtain⟨m,hm,ds,hd,rfl⟩:=aic y hy;exact(ih m (by omega)).1 _ hd) (by omega) (by omega) (λy hy=>by obtain⟨m,hm,ds,hd,rfl⟩:=aii y hy;exact(ih m (by omega)).1 _ hd) (by omega) (by omega) (λy hy=>by obtain⟨m,hm,ds,hd,rfl⟩:=aip y hy;exact(ih m (by omega)).1 _ hd) (by omega) (by omega) (λy hy=>by obtain⟨m,hm,ds,hd,rfl⟩:=air y hy;exact(ih m (by omega)).2.2.2.2.2.2.2.2.2.2.2.1 _ hd)
 ·rw[ahr];rcases n with _|n245
  ·exact h.elim
  simp only[gy,PP,Tryz.underlying87,k4] at h;obtain⟨akK,_,rfl,ais,akL,_,rfl,aaY,rfl⟩:=h;obtain⟨ait,rfl⟩:=Pm ais;rcases n245 with _|n259
  ·exact aaY.elim
  simp only[gy,PP,Tryz.underlying52,k4] at aaY;obtain⟨akM,_,rfl,aiu,akN,_,rfl,aiv,akO,_,rfl,aiw,akP,_,rfl,aix,akQ,_,rfl,aiy,akR,_,rfl,aiz,rfl⟩:=aaY;obtain⟨aiA,rfl,aiB⟩:=YB aiu;obtain⟨aiC,rfl⟩:=UP aiv;obtain⟨aiD,rfl,akS⟩:=mT aiw;obtain⟨aiE,rfl,akT⟩:=mT aix;obtain⟨aiF,rfl,akU,aiG⟩:=Ff aiy;obtain⟨aiH,rfl,akV,aiI⟩:=UR aiz;exact T.iw ait aiA aiC aiD aiE aiF aiH aiB (by omega) (by omega) (by omega) (λy hy=>by obtain⟨m,hm,ds,hd,rfl⟩:=aiG y hy;exact(ih m (by omega)).2.2.1 _ hd) (by omega) (λy hy=>by obtain⟨m,hm,ds,hd,rfl⟩:=aiI y hy;exact(ih m (by omega)).2.2.2.2.1 _ hd)
 ·rw[ahs];rcases n with _|n279
  ·exact h.elim
  simp only[gy,PP,Tryz.underlying43,k4] at h;obtain⟨akW,_,rfl,aiJ,akX,_,rfl,aiK,akY,_,rfl,aiL,rfl⟩:=h;obtain⟨aiM,rfl,akZ⟩:=Dt aiJ;obtain⟨aiN,rfl,ak0,aiO⟩:=zl aiK;obtain⟨aiP,rfl,ak1⟩:=mT aiL;exact T.bI aiM aiN aiP (by omega) (λy hy=>by obtain⟨m,hm,ds,hd,rfl⟩:=aiO y hy;exact(ih m (by omega)).1 _ hd) (by omega)
 ·rw[aht];rcases n with _|n291
  ·exact h.elim
  simp only[gy,PP,Tryz.underlying48,k4] at h;obtain⟨ak3,_,rfl,aiQ,ak4,_,rfl,aaZ,rfl⟩:=h;obtain⟨aiR,rfl,ak5⟩:=mT aiQ;rcases n291 with _|n304
  ·exact aaZ.elim
  simp only[gy,PP,Tryz.underlying46,k4] at aaZ;obtain⟨ak6,_,rfl,aiS,ak7,_,rfl,aa0,ak8,_,rfl,aen,ak9,_,rfl,aeo,ala,_,rfl,aiT,rfl⟩:=aaZ;obtain⟨aiU,rfl⟩:=Pm aiS;rcases n304 with _|n312
  ·exact aa0.elim
  simp only[gy,PP,Tryz.underlying43,k4] at aa0;obtain⟨alb,_,rfl,aiV,alc,_,rfl,aiW,ald,_,rfl,aiX,rfl⟩:=aa0;obtain⟨aiY,rfl,ale⟩:=Dt aiV;obtain⟨aiZ,rfl,alf,ai0⟩:=zl aiW;obtain⟨ai1,rfl,alg⟩:=mT aiX;simp only[gy,PP,Tryz.underlying43,k4] at aen;obtain⟨alh,_,rfl,ai2,ali,_,rfl,ai3,alj,_,rfl,ai4,rfl⟩:=aen;obtain⟨ai5,rfl,alk⟩:=Dt ai2;obtain⟨ai6,rfl,alm,ai7⟩:=zl ai3;obtain⟨ai8,rfl,aln⟩:=mT ai4;simp only[gy,PP,Tryz.underlying43,k4] at aeo;obtain⟨alo,_,rfl,ai9,alp,_,rfl,aja,alq,_,rfl,ajb,rfl⟩:=aeo;obtain⟨ajc,rfl,alr⟩:=Dt ai9;obtain⟨ajd,rfl,als,aje⟩:=zl aja;obtain⟨ajf,rfl,alu⟩:=mT ajb;obtain⟨ajg,rfl,alv,ajh⟩:=US aiT;exact T.aN aiR aiU aiY aiZ ai1 ai5 ai6 ai8 ajc ajd ajf ajg (by omega) (by omega) (λy hy=>by obtain⟨m,hm,ds,hd,rfl⟩:=ai0 y hy;exact(ih m (by omega)).1 _ hd) (by omega) (by omega) (λy hy=>by obtain⟨m,hm,ds,hd,rfl⟩:=ai7 y hy;exact(ih m (by omega)).1 _ hd) (by omega) (by omega) (λy hy=>by obtain⟨m,hm,ds,hd,rfl⟩:=aje y hy;exact(ih m (by omega)).1 _ hd) (by omega) (by omega) (λy hy=>by obtain⟨m,hm,ds,hd,rfl⟩:=ajh y hy;exact(ih m (by omega)).2.2.2.2.2.2.2.2.2.2.2.1 _ hd)
 ·rw[ahu];obtain⟨aji,rfl,alw,ajj⟩:=UR h;exact T.kC aji (by omega) (λy hy=>by obtain⟨m,hm,ds,hd,rfl⟩:=ajj y hy;exact(ih m (by omega)).2.2.2.2.1 _ hd)
 ·rw[ahv];obtain⟨ajk,rfl,alx,ajl⟩:=US h;exact T.yH ajk (by omega) (λy hy=>by obtain⟨m,hm,ds,hd,rfl⟩:=ajl y hy;exact(ih m (by omega)).2.2.2.2.2.2.2.2.2.2.2.1 _ hd)
 ·rw[ahw];obtain⟨ajm,rfl,aly,ajn⟩:=aef h;exact T.aA ajm (by omega) (λy hy=>by obtain⟨m,hm,ds,hd,rfl⟩:=ajn y hy;exact(ih m (by omega)).2.2.2.2.2.2.2.2.2.2.2.2.2.1 _ hd)
 ·rw[aeg];obtain⟨ajo,rfl,alz,ajp⟩:=aaV h;exact T.jf ajo (by omega) (λy hy=>by obtain⟨m,hm,ds,hd,rfl⟩:=ajp y hy;exact(ih m (by omega)).2.2.2.2.2.2.2.2.2.2.2.2.2.2.2.2.2.2 _ hd)
 ·rw[ahx];obtain⟨ajq,rfl⟩:=aeh h;exact T.fY ajq
theorem LY {B:Nat}(hB:B<=4194304){x:Tree}(h:ShT PP B 9 x):T .string x:=by
 obtain⟨n,ds,_,h1,rfl⟩:=h;exact(LX hB n).2.2.1 ds h1
theorem Hj {B:Nat}(hB:B<=4194304){x:Tree}(h:ShT PP B 48 x):T .aN x:=by
 obtain⟨n,ds,_,h1,rfl⟩:=h;exact(LX hB n).2.2.2.2.2.2.2.2.2.2.2.2.2.1 ds h1
theorem DW {B:Nat}(hB:B<=4194304){x:Tree}(h:ShT PP B 22 x):T .aA x:=by
 obtain⟨n,ds,_,h1,rfl⟩:=h;exact(LX hB n).2.2.2.2.2.2.2.2.2.2.2.2.2.2.2.2.1 ds h1
end
end Go.Proofs.YtacmmaaabfhhoaaGreatDoor.w.e
noncomputable section
namespace Go.Abs
open Go
section
variable {C:cE}{fn:Func}{n:Nat}{r:bz}
def PA (C:cE)(fn:Func)(n:Nat)(r:bz)(c:Code)(st:St):Prop:=
 ∀(G0:Gh) (w0:World) (G:Gh) (w:World) (a:Act),(∀p,¬G0.dom (.loc p))->cx G0 w0 G w->tV C G w st a->a.defers=[]->
  c.wp C.P (bodyPostD C.P fn (p9 G0 w0 n r)) a w
theorem aa1 {f:FuncId}{body:Code}{args:List TV}{aP:List aO}(zF:C.P.fn f=some fn)(hbody:fn.body=some body)(hname:fn.name≠ "runtime.NumGoroutine")
 (h:PA C fn aP.length r body ⟨args++List.replicate (fn.ntmps - args.length) bR,bK 0 aP,0⟩):ai C f args aP r:=by
 intro G w vs hw hg had hH hv
 have hfn:=C.P.Nh _ _ zF
 have hst:tV C G w ⟨args++List.replicate (fn.ntmps - args.length) bR,bK 0 aP,0⟩ {tmps:=vs.toArray++Array.replicate (fn.ntmps - vs.toArray.size) undef,defers:=[]}:=by
  refine⟨hw,hg, ?_,hH,λp hp=>absurd hp (had.2 p)⟩;have e:(vs.toArray++Array.replicate (fn.ntmps - vs.toArray.size) undef).toList=vs++List.replicate (fn.ntmps - args.length) undef:=by simp[hv.1]
  unfold SR;rw[e];refine cr.append hv ⟨by simp,λj c u hc hu=> ?_⟩;rw[List.getElem?_replicate] at hc hu;by_cases hl:j<fn.ntmps - args.length
  ·rw[if_pos hl] at hc hu;simp at hc hu;subst hc;subst hu;exact mB G
  ·rw[if_neg hl] at hc;simp at hc
 refine .inl ⟨?_,calls_of_wp_defers hfn hbody ?_⟩
 ·simp[callFunc,hfn,hname,hbody]
 ·exact h G w G w _ had.2 (Step.refl hw _ _) hst rfl
theorem XF {G0:Gh}{w0:World}{e:aJ}{s:St}{ex:Exit}{a a':Act}{w':World}(hq:wh C fn n r e s)(hg:Good C G0 w0 a e s ex a' w')(Vb:a.defers=[]):bodyPostD C.P fn (p9 G0 w0 n r) ex a' w':=by
 cases e with
 |normal=>
  obtain⟨G',hs,hd,rfl,lK⟩:=hg
  show Leaves C.P fn a'.tmps _ a'.defers .returning w'
  rw[hd,Vb]
  exact hq.elim (λh=>pQ h hs lK) (λh=>xb h hs lK)
 |ret=>
  obtain⟨G',hs,hd,rfl,lK⟩:=hg
  show Leaves C.P fn a'.tmps _ a'.defers .returning w'
  rw[hd,Vb]
  exact hq.elim (λh=>pQ h hs lK) (λh=>xb h hs lK)
 |exit id=>exact hq.elim
 |panic v=>
  obtain⟨_,rfl⟩:=hq
  obtain⟨G',hs,hd,x,rfl,hx,Vw,_⟩:=hg
  show Leaves C.P fn a'.tmps _ a'.defers (.panicking _) w'
  rw[hd,Vb]
  refine⟨x,G',rfl,hs,λi o ho=> ?_,hx⟩
  have:=sN ho
  rw[Nat.zero_add] at this
  exact Vw _ _ this
theorem PA.of {c:Code}{st:St}(h:AW C c st (wh C fn n r)):PA C fn n r c st:=λG0 w0 G w a h0 hs hst hd=>
 wp_mono (h G0 w0 G w a h0 hs hst) λex a' w' ⟨e,s,hq,hg⟩=>XF hq hg hd
def YC (C:cE)(fn:Func)(n:Nat)(r:bz)(y:Code):aJ->St->Prop
 |.normal,s=>PA C fn n r y s
 |e,s=>wh C fn n r e s
theorem PA.seq {x y:Code}{st:St}(h:AW C x st (YC C fn n r y)):PA C fn n r (.seq x y) st:=by
 intro G0 w0 G w a h0 hs hst Vb;refine wp_seq (wp_mono (h G0 w0 G w a h0 hs hst) λex a1 w1 ⟨e,Vu,hq,hg⟩=> ?_);cases e with
 |normal=>
  obtain⟨rfl,hd,G1,hs1,iz⟩:=hg.nj
  exact hq G0 w0 G1 w1 a1 h0 hs1 iz (hd.trans Vb)
 |exit id=>exact fH (hg.fG (by simp)) (XF (e:=.exit id) hq hg Vb)
 |ret=>exact fH (hg.fG (by simp)) (XF (e:=.ret) hq hg Vb)
 |panic v=>exact fH (hg.fG (by simp)) (XF (e:=.panic v) hq hg Vb)
def Hl (G:Gh)(u:FrameMode):Option TV->Prop
 |none=>u=.returning
 |some x=>∃pv,VR G x pv/\u=.panicking [{v:=pv,recovered:=false}]
def YD:aJ->Option TV
 |.panic v=>some v
 |_=>none
def LZ (C:cE)(g:FuncId)(args:List TV)(aP:List aO)(qt:Option TV)(os':List aO):Prop:=
 ∀ (G:Gh) (w:World) (vs:List Value) (u:FrameMode),WF G w->iA C G->uD G aP.length->HR G w (bK 0 aP)->cr G args vs->
  Hl G u qt->
  (callFunc g vs.toArray).run C.P w=.ok (.enter g vs.toArray) w/\
  CallsD C.P g vs.toArray u w λe u' w'=>∃v G',e=.returned v/\settle u'=.returning/\Step (λ_=>True) (λk=>k.eR=true) G w G' w'/\os'.length=aP.length/\
   ∀i o,os'[i]?=some o->G'.dom (.arg i)/\OR G' w' (.arg i) o
theorem UT {g:FuncId}{H:Heap}{args vc:List TV}{S:List Nm}{os os':List aO}{h:Heap}{t:Nat}{G:Gh}{w:World}{vs:List Value}{u:FrameMode}{qt Ho:Option TV}(hD:LZ C g vc os Ho os')
 (hn:S.Nodup)(h1:TV.tU (Dy S) args=some vc)(h2:hM H S S=some os)(h4:iH S t S os'=some h)(hp:qt.map (·.rn (Dy S))=Ho.map some)
 (hw:WF G w)(hg:iA C G)(hH:HR G w H)(hfresh:∀p,¬G.dom (.loc (t::p)))(hv:cr G args vs)
 (hu:Hl G u qt):
 (callFunc g vs.toArray).run C.P w=.ok (.enter g vs.toArray) w/\
 CallsD C.P g vs.toArray u w λe u' w'=>∃v G',e=.returned v/\settle u'=.returning/\Step (λk=>k∈h.map (·.1)) (λk=>∃p,k=.loc (t::p)) G w G' w'/\∀k ob,(k,ob)∈h->G'.dom k/\OR G' w' k ob:=by
 have Bd:∀k∈S,G.dom k:=by
  intro k hk;obtain⟨j,hj⟩:=List.mem_iff_getElem?.1 hk;obtain⟨o,o',e1,_,_⟩:=(iL h2).2 j k hj;exact(hH k o e1).1
 have j3:Hl (G.within S) u Ho:=by
  cases qt with
  |none=>
   cases Ho with
   |none=>exact hu
   |some y=>simp at hp
  | some x=>
   cases Ho with
   |none=>simp at hp
   |some y=>
    simp at hp
    obtain⟨pv,hx,e⟩:=hu
    exact⟨pv,hx.rn kj hp,e⟩
 obtain⟨DF,hc⟩:=hD (G.within S) w vs u (vB hw hn Bd) (λx cs hx=>hg x cs hx)
  ⟨λi hi=>by have:=(iL h2).1;exact(by omega:i<S.length),λp d=>d⟩ (vC hH h2) (hv.rn kj h1) j3
 refine⟨DF,hc.mono λe u' w' he=> ?_⟩
 obtain⟨v,G2,rfl,JU,wY,hl,Qk⟩:=he
 have FH:=rE hw hn Bd hfresh wY
 have tL:=vD hn Bd hfresh wY
 obtain⟨ek,_,hO⟩:=sL h4
 refine⟨v,G.back S t G2,rfl,JU,FH.mono (λk _ hk=>by rw[ek];exact hk) (λk hk=>hk),λk ob hm=> ?_⟩
 obtain⟨i,o',e1,e2,e3⟩:=hO k ob hm
 obtain⟨d,ho⟩:=Qk i o' e2
 exact⟨.inl (Bd _ (List.mem_of_getElem? e1)),OR.rn tL (λ_ _ _=>rfl) (qD hn e1) ho e3⟩
def aa2 (C:cE)(fn:Func)(g:FuncId)(caps:List TV)(N:Nat)(x:Tree)(e:aJ)(s:St):Prop:=
 (∀i,e≠ .exit i)/\∃(S:List Nm) (vc:List TV) (os os':List aO) (h:Heap) (osX:List aO) (YE:Heap) (Ho:Option TV),S.Nodup/\TV.tU (Dy S) caps=some vc/\hM s.H S S=some os/\(∀t,iH S t S os'=some h)/\
  (∀t,finish C fn N ⟨s.slots,s.H.dH h,t⟩=some (.ret (.t x) osX YE))/\
  (YD e).map (·.rn (Dy S))=Ho.map some/\LZ C g vc os Ho os'
theorem aa3 {g:FuncId}{caps:List TV}{x:Tree}{e:aJ}{s:St}{N:Nat}{G1 G0:Gh}{w1 w0:World}{S:List Nm}{t1:Nat}{a a':Act}{ex:Exit}{w':World}{ms:List Value}
 (hq:aa2 C fn g caps N x e s)(hg:Good C (G1.within S) w1 a e s ex a' w')(hd:a.defers=[{target:=.fn (.func g) ms.toArray,args:= #[]}])(hv:cr (G1.within S) caps ms)
 (hw1:WF G1 w1)(hn:S.Nodup)(Bd:∀k∈S,G1.dom k)(hfresh:∀p,¬G1.dom (.loc (t1::p)))(aa4:cx G0 w0 G1 w1)(hgl:iA C G1):bodyPostD C.P fn (p9 G0 w0 0 (.ret (.t x) [] [])) ex a' w':=by
 obtain⟨hne,S2,vc,os,os',h,osX,YE,Ho,hn2,h1,h2,h4,ajr,hpn,hD⟩:=hq
 have main:∀(G2:Gh) (tk:Nat) (u:FrameMode),cx (G1.within S) w1 G2 w'->HR G2 w' s.H->SR G2 s.slots a'->uE G2 tk->
  Hl G2 u (YD e)->u≠ .run->
  Leaves C.P fn a'.tmps (p9 G0 w0 0 (.ret (.t x) [] [])) [{target:=.fn (.func g) ms.toArray,args:= #[]}] u w':=by
  intro G2 tk u wY XZ DA hfr hu hur
  have ajs:iA C (G1.within S):=λx cs hx=>hgl x cs hx
  have aep:iA C G2:=ajs.mono wY.le
  obtain⟨DF,hc⟩:=UT (t:=tk) hD hn2 h1 h2 (h4 tk) hpn wY.wf aep XZ hfr.not (hv.mono wY.le) hu
  refine leaves_cons (f:=g) (args:=ms.toArray) hur (by simpa [invoke] using DF) (hc.mono ?_)
  rintro e1 u1 w3 ⟨v1,G3,rfl,JU,FH,Qk⟩
  show Leaves C.P fn a'.tmps _ [] (settle u1) w3
  rw[JU]
  have QU:tV C G3 w3 ⟨s.slots,s.H.dH h,tk+1⟩ a':=⟨FH.wf,aep.mono FH.le,DA.mono FH.le,HR.dH FH wY.wf XZ Qk (λk _ hk=>hk),hfr.step FH⟩
  obtain⟨v,hr,x',G4,e4,hs4,_,_,_,hx4⟩:=pQ (fn:=fn) (n:=N) (st:=⟨s.slots,s.H.dH h,tk+1⟩) (ajr (tk+1)) (cx.comp wY FH.any) QU
  refine⟨v,hr,x',G1.back S t1 G4,e4,cx.comp aa4 (rE hw1 hn Bd hfresh hs4).any,rfl,λi o ho=>by simp at ho,λk o ho=>by simp at ho, ?_⟩
  exact .t _ _ hx4.tree
 cases e with
 |exit i=>exact absurd rfl (hne i)
 |normal=>
  obtain⟨G2,wY,Ek,rfl,nr⟩:=hg
  show Leaves C.P fn a'.tmps _ a'.defers .returning w'
  rw[Ek,hd]
  exact main G2 s.tick .returning wY nr.heap nr.slots nr.fresh rfl (by simp)
 |ret=>
  obtain⟨G2,wY,Ek,rfl,nr⟩:=hg
  show Leaves C.P fn a'.tmps _ a'.defers .returning w'
  rw[Ek,hd]
  exact main G2 s.tick .returning wY nr.heap nr.slots nr.fresh rfl (by simp)
 |panic v=>
  obtain⟨G2,wY,Ek,px,rfl,hpx,XZ,DA,tk,hfr⟩:=hg
  show Leaves C.P fn a'.tmps _ a'.defers (.panicking _) w'
  rw[Ek,hd]
  exact main G2 tk _ wY XZ DA hfr ⟨px,hpx,rfl⟩ (by simp)
theorem PA.defer {ev:aX}(az:aF C ev){f:FuncId}{id:Nat}{o1 o2:Oper}{fo:Operand}{g:FuncId}{y:Code}{slots L3:List TV}{H:Heap}{t:Nat}{v:TV}{u:Heap}{caps YF:List TV}{S:List Nm}{aP:List aO}{x:Tree}
 (hw1:dL #[o1,o2] slots o1=some true)(hx1:aR C ev f H slots t o1=some (.val v u))(hg2:o2.guard=none)(Ek:o2.dst=none)(Fu:o2.op=.defer ⟨.value fo, #[], #[]⟩)
 (hf:bU C (cI slots o1.dst v) fo=some (.fn (.func g) [] caps))(hn:S.Nodup)(hS:hM (H.dH u) S S=some aP)(DA:TV.tU (Dy S) (cI slots o1.dst v)=some L3)(hcv:TV.tU (Dy S) caps=some YF)
 (hy:AW C y ⟨L3,bK 0 aP,0⟩ (aa2 C fn g YF aP.length x)):
 PA C fn 0 (.ret (.t x) [] []) (.seq (.region id #[o1,o2] false) y) ⟨slots,H,t⟩:=by
 intro G0 w0 G w a h0 hs hst Vb
 refine wp_seq (wp_region_list ?_)
 refine wpList_step λK hK=> ?_
 rw[ie hw1 hst.slots]
 simp only[if_true]
 refine(qa az hx1 hst.wf hst.iC hst.slots hst.heap hst.fresh.not).wp kY.no (λx1 w1 hr=> ?_) (λch w1 hr=> ?_)
 rotate_left
 ·obtain⟨x',G',e1,_⟩:=hr;simp at e1
 obtain⟨x',G1,e1,hs1,Dw,Vn⟩:=hr
 simp at e1;subst e1
 refine hK _ _ ?_
 have iz:=hst.op o1.dst hs1 Dw Vn
 have aa4:cx G0 w0 G1 w1:=cx.comp hs hs1.any
 generalize ha1:a.put o1.dst x1=a1 at iz ⊢
 have Y7:a1.defers=[]:=by rw[← ha1,put_defers];exact Vb
 have hfv:=bM iz.slots iz.iC hf
 generalize hfe:a1.eval fo=fv at hfv
 cases hfv with|fn _ _ _ ls ms Eb hp1 hl2 hp2=>
 have hls:ls=[]:=by simpa using Eb
 subst hls
 refine wpList_step λK hK=> ?_
 have hwt:Region.wanted o2 (yielded #[o1,o2] a1.tmps)=true:=by simp[Region.wanted,hg2]
 rw[hwt]
 simp only[if_true]
 have hex:(execOp a1.eval o2).run C.P w1=.ok (.defer {target:=.fn (.func g) ms.toArray,args:= #[]}) w1:=by
  simp[execOp,Fu,resolve,hfe,Deferred.ofValue]
 unfold Oper.wp
 rw[hex,Oper.upon_defer]
 refine hK _ _ ?_
 generalize ha2:({a1 with defers:={target:=.fn (.func g) ms.toArray,args:= #[]}::a1.defers}:Act).put o2.dst undef=a2
 have nr:tV C G1 w1 ⟨cI slots o1.dst v,H.dH u,t+1⟩ a2:=by
  rw[← ha2,Ek];exact⟨iz.wf,iz.iC,iz.slots,iz.heap,iz.fresh⟩
 have hda:a2.defers=[{target:=.fn (.func g) ms.toArray,args:= #[]}]:=by
  rw[← ha2,Ek];show _::a1.defers=_;rw[Y7]
 have Bd:∀k∈S,G1.dom k:=by
  intro k hk;obtain⟨j,hj⟩:=List.mem_iff_getElem?.1 hk;obtain⟨o,o',e1,_,_⟩:=(iL hS).2 j k hj;exact(nr.heap k o e1).1
 have hlen:aP.length=S.length:=(iL hS).1
 have Qy:cr G1 caps ms:=⟨hl2,hp2⟩
 have aeq:tV C (G1.within S) w1 ⟨L3,bK 0 aP,0⟩ a2:=⟨vB nr.wf hn Bd,λx cs hx=>nr.iC x cs hx,cr.rn kj nr.slots DA,vC nr.heap hS,λp hp=>False.elim hp⟩
 have ajt:∀p,¬(G1.within S).dom (.loc p):=λp hp=>hp
 exact wp_mono (hy (G1.within S) w1 (G1.within S) w1 a2 ajt (Step.refl aeq.wf _ _) aeq) λex a' w' ⟨e,s,hq,hg⟩=>
  aa3 hq hg hda (cr.rn kj Qy hcv) nr.wf hn Bd nr.fresh.not aa4 nr.iC
end
end Go.Abs
end
