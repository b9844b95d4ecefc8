/- Arguments of any kind. -/
import Derived.Test.YtfdnciimclnncaaGreatDoorT
import Derived.Test.YtfdnciimclnncaaGreatDoorH
import Derived.Test.YtfdnciimclnncaaGreatDoorShelf
import Derived.Test.YtfdnciimclnncaaGreatDoorAG
import Derived.Test.YtfdnciimclnncaaGreatDoorAK
set_option linter.unusedVariables false
set_option linter.unusedSimpArgs false
namespace Go.Proofs.YtfdnciimclnncaaGreatDoor.w.e
open Go Go.Abs
set_option maxRecDepth 100000
set_option maxHeartbeats 2000000
noncomputable section
open Go.Abs.Ty
open Go.Proofs.YtfdnciimclnncaaGreatDoor.arg
noncomputable abbrev PP:Program:=Tryz.prog
theorem wf_u8 {k:Int}(h:(Lit.int .u8 k).wf=true):0<=k:=by
 simp only[Lit.wf,Bool.and_eq_true,decide_eq_true_eq] at h;exact h.1
theorem yG {B n:Nat}{cs:List Tree}(h:kz PP B n 9 cs):∃s,cs=[.str s]/\s.length<=B:=by
 cases n with
 |zero=>exact h.elim
 |succ n=>
  simp only[kz,PP,Tryz.underlying9] at h
  exact h
theorem ar5 (cs:List Tree):nv PP 28 cs=.agg cs:=by simp only[nv,PP,Tryz.underlying28]
theorem Sw {B n:Nat}{cs:List Tree}(h:kz PP B n 23 cs):∃l,cs=[.sl l]/\l.length<=B/\∀x∈l,∃m,m<n/\∃ds,kz PP B m 9 ds/\x=nv PP 9 ds:=by
 cases n with
 |zero=>exact h.elim
 |succ n=>
  simp only[kz,PP,Tryz.underlying23] at h
  obtain⟨l,h1,h2,h3⟩:=h
  exact⟨l,h1,h2,λx hx=>by obtain⟨ds,h4,h5⟩:=h3 x hx;exact⟨n,Nat.lt_succ_self n,ds,h4,h5⟩⟩
theorem ar6 (cs:List Tree):nv PP 23 cs=cs.headD .cN:=by simp only[nv,PP,Tryz.underlying23]
theorem mk9 (cs:List Tree):nv PP 9 cs=cs.headD .cN:=by simp only[nv,PP,Tryz.underlying9]
theorem Wv {B n:Nat}{cs:List Tree}(h:kz PP B n 29 cs):∃k,cs=[.int .u8 k]/\0<=k:=by
 cases n with
 |zero=>exact h.elim
 |succ n=>
  simp only[kz,PP,Tryz.underlying29] at h
  obtain⟨x,h1,h2⟩:=h
  exact⟨x,h1,wf_u8 h2⟩
theorem ag5 {B n:Nat}{cs:List Tree}(h:kz PP B n 4 cs):∃b,cs=[.bool b]:=by
 cases n with
 |zero=>exact h.elim
 |succ n=>
  simp only[kz,PP,Tryz.underlying4] at h
  exact h
theorem adV {B n:Nat}{cs:List Tree}(h:kz PP B n 2 cs):∃k,cs=[.int .i64 k]:=by
 cases n with
 |zero=>exact h.elim
 |succ n=>
  simp only[kz,PP,Tryz.underlying2] at h
  obtain⟨x,h1,_⟩:=h
  exact⟨x,h1⟩
theorem Ww {B n:Nat}{cs:List Tree}(h:kz PP B n 30 cs):∃l,cs=[.sl l]/\l.length<=B/\∀x∈l,∃m,m<n/\∃ds,kz PP B m 32 ds/\x=nv PP 32 ds:=by
 cases n with
 |zero=>exact h.elim
 |succ n=>
  simp only[kz,PP,Tryz.underlying30] at h
  obtain⟨l,h1,h2,h3⟩:=h
  exact⟨l,h1,h2,λx hx=>by obtain⟨ds,h4,h5⟩:=h3 x hx;exact⟨n,Nat.lt_succ_self n,ds,h4,h5⟩⟩
theorem ar7 (cs:List Tree):nv PP 32 cs=.agg cs:=by simp only[nv,PP,Tryz.underlying32]
theorem aps {B n:Nat}{cs:List Tree}(h:kz PP B n 22 cs):∃k,cs=[.int .u8 k]/\0<=k:=by
 cases n with
 |zero=>exact h.elim
 |succ n=>
  simp only[kz,PP,Tryz.underlying22] at h
  obtain⟨x,h1,h2⟩:=h
  exact⟨x,h1,wf_u8 h2⟩
theorem apt {B n:Nat}{cs:List Tree}(h:kz PP B n 24 cs):∃l,cs=[.sl l]/\l.length<=B/\∀x∈l,∃m,m<n/\∃ds,kz PP B m 26 ds/\x=nv PP 26 ds:=by
 cases n with
 |zero=>exact h.elim
 |succ n=>
  simp only[kz,PP,Tryz.underlying24] at h
  obtain⟨l,h1,h2,h3⟩:=h
  exact⟨l,h1,h2,λx hx=>by obtain⟨ds,h4,h5⟩:=h3 x hx;exact⟨n,Nat.lt_succ_self n,ds,h4,h5⟩⟩
theorem ar8 (cs:List Tree):nv PP 26 cs=.agg cs:=by simp only[nv,PP,Tryz.underlying26]
theorem aib {B n:Nat}{cs:List Tree}(h:kz PP B n 56 cs):∃l,cs=[.sl l]/\l.length<=B/\∀x∈l,∃m,m<n/\∃ds,kz PP B m 28 ds/\x=nv PP 28 ds:=by
 cases n with
 |zero=>exact h.elim
 |succ n=>
  simp only[kz,PP,Tryz.underlying56] at h
  obtain⟨l,h1,h2,h3⟩:=h
  exact⟨l,h1,h2,λx hx=>by obtain⟨ds,h4,h5⟩:=h3 x hx;exact⟨n,Nat.lt_succ_self n,ds,h4,h5⟩⟩
theorem ar9 (cs:List Tree):nv PP 69 cs=.agg cs:=by simp only[nv,PP,Tryz.underlying69]
theorem asa (cs:List Tree):nv PP 34 cs=.agg cs:=by simp only[nv,PP,Tryz.underlying34]
theorem alo {B n:Nat}{cs:List Tree}(h:kz PP B n 169 cs):∃l,cs=[.sl l]/\l.length<=B/\∀x∈l,∃m,m<n/\∃ds,kz PP B m 3 ds/\x=nv PP 3 ds:=by
 cases n with
 |zero=>exact h.elim
 |succ n=>
  simp only[kz,PP,Tryz.underlying169] at h
  obtain⟨l,h1,h2,h3⟩:=h
  exact⟨l,h1,h2,λx hx=>by obtain⟨ds,h4,h5⟩:=h3 x hx;exact⟨n,Nat.lt_succ_self n,ds,h4,h5⟩⟩
theorem apu (cs:List Tree):nv PP 169 cs=cs.headD .cN:=by simp only[nv,PP,Tryz.underlying169]
theorem asb {B n:Nat}{cs:List Tree}(h:kz PP B n 3 cs):∃k,cs=[.int .i64 k]:=by
 cases n with
 |zero=>exact h.elim
 |succ n=>
  simp only[kz,PP,Tryz.underlying3] at h
  obtain⟨x,h1,_⟩:=h
  exact⟨x,h1⟩
theorem mk3 (cs:List Tree):nv PP 3 cs=cs.headD .cN:=by simp only[nv,PP,Tryz.underlying3]
theorem asc (cs:List Tree):nv PP 29 cs=cs.headD .cN:=by simp only[nv,PP,Tryz.underlying29]
theorem mk2 (cs:List Tree):nv PP 2 cs=cs.headD .cN:=by simp only[nv,PP,Tryz.underlying2]
theorem mk4 (cs:List Tree):nv PP 4 cs=cs.headD .cN:=by simp only[nv,PP,Tryz.underlying4]
theorem alp {B n:Nat}{cs:List Tree}(h:kz PP B n 162 cs):∃k,cs=[.int .u64 k]:=by
 cases n with
 |zero=>exact h.elim
 |succ n=>
  simp only[kz,PP,Tryz.underlying162] at h
  obtain⟨x,h1,_⟩:=h
  exact⟨x,h1⟩
theorem apv (cs:List Tree):nv PP 162 cs=cs.headD .cN:=by simp only[nv,PP,Tryz.underlying162]
theorem ase (cs:List Tree):nv PP 56 cs=cs.headD .cN:=by simp only[nv,PP,Tryz.underlying56]
theorem apw {B n:Nat}{cs:List Tree}(h:kz PP B n 35 cs):∃l,cs=[.sl l]/\l.length<=B/\∀x∈l,∃m,m<n/\∃ds,kz PP B m 69 ds/\x=nv PP 69 ds:=by
 cases n with
 |zero=>exact h.elim
 |succ n=>
  simp only[kz,PP,Tryz.underlying35] at h
  obtain⟨l,h1,h2,h3⟩:=h
  exact⟨l,h1,h2,λx hx=>by obtain⟨ds,h4,h5⟩:=h3 x hx;exact⟨n,Nat.lt_succ_self n,ds,h4,h5⟩⟩
theorem asf (cs:List Tree):nv PP 35 cs=cs.headD .cN:=by simp only[nv,PP,Tryz.underlying35]
theorem asg (cs:List Tree):nv PP 30 cs=cs.headD .cN:=by simp only[nv,PP,Tryz.underlying30]
theorem U3 {B:Nat}(hB:B<=4194304):∀n,(∀cs,kz PP B n 28 cs->T .aB (nv PP 28 cs))/\(∀cs,kz PP B n 23 cs->T .cv (nv PP 23 cs))/\(∀cs,kz PP B n 9 cs->T .string (nv PP 9 cs))/\(∀cs,kz PP B n 32 cs->T .av (nv PP 32 cs))/\(∀cs,kz PP B n 26 cs->T .aM (nv PP 26 cs))/\(∀cs,kz PP B n 69 cs->T .bS (nv PP 69 cs))/\(∀cs,kz PP B n 34 cs->T .bP (nv PP 34 cs))/\(∀cs,kz PP B n 169 cs->T .Lint (nv PP 169 cs))/\(∀cs,kz PP B n 3 cs->T .int (nv PP 3 cs))/\(∀cs,kz PP B n 29 cs->T .jU (nv PP 29 cs))/\(∀cs,kz PP B n 2 cs->T .int64 (nv PP 2 cs))/\(∀cs,kz PP B n 4 cs->T .bool (nv PP 4 cs))/\(∀cs,kz PP B n 162 cs->T .uint64 (nv PP 162 cs))/\(∀cs,kz PP B n 56 cs->T .eR (nv PP 56 cs))/\(∀cs,kz PP B n 35 cs->T .aN (nv PP 35 cs))/\(∀cs,kz PP B n 30 cs->T .AP (nv PP 30 cs)):=by
 intro n;induction n using Nat.strongRecOn with
 |_ n ih=>
 refine⟨λcs h=> ?_,λcs h=> ?_,λcs h=> ?_,λcs h=> ?_,λcs h=> ?_,λcs h=> ?_,λcs h=> ?_,λcs h=> ?_,λcs h=> ?_,λcs h=> ?_,λcs h=> ?_,λcs h=> ?_,λcs h=> ?_,λcs h=> ?_,λcs h=> ?_,λcs h=> ?_⟩
 ·rw[ar5];rcases n with _|n5
  ·exact h.elim
  simp only[kz,PP,Tryz.underlying28,wD] at h;obtain⟨a3,_,rfl,h1,a4,_,rfl,h2,rfl⟩:=h;obtain⟨v6,rfl,q7⟩:=yG h1;obtain⟨v8,rfl,q9⟩:=yG h2;exact T.aB v6 v8 (by omega) (by omega)
 ·rw[ar6];obtain⟨l10,rfl,q11,x12⟩:=Sw h;exact T.cv l10 (by omega) (λy hy=>by obtain⟨m,hm,ds,hd,rfl⟩:=x12 y hy;exact(ih m (by omega)).2.2.1 _ hd)
 ·rw[mk9];obtain⟨v13,rfl,q14⟩:=yG h;exact T.string v13 (by omega)
 ·rw[ar7];rcases n with _|n29
  ·exact h.elim
  simp only[kz,PP,Tryz.underlying32,wD] at h;obtain⟨a22,_,rfl,Qx,a23,_,rfl,h16,a24,_,rfl,h17,a25,_,rfl,h18,a26,_,rfl,h19,a27,_,rfl,h20,a28,_,rfl,h21,rfl⟩:=h;obtain⟨v30,rfl,q31⟩:=Wv Qx;obtain⟨v32,rfl⟩:=ag5 h16;obtain⟨v33,rfl⟩:=adV h17;obtain⟨v34,rfl,q35⟩:=yG h18;obtain⟨v36,rfl,q37⟩:=yG h19;obtain⟨l38,rfl,q39,x40⟩:=Sw h20;obtain⟨l41,rfl,q42,x43⟩:=Ww h21;exact T.av v30 v32 v33 v34 v36 l38 l41 (by omega) (by omega) (by omega) (λy hy=>by obtain⟨m,hm,ds,hd,rfl⟩:=x40 y hy;exact(ih m (by omega)).2.2.1 _ hd) (by omega) (λy hy=>by obtain⟨m,hm,ds,hd,rfl⟩:=x43 y hy;exact(ih m (by omega)).2.2.2.1 _ hd)
 ·rw[ar8];rcases n with _|n56
  ·exact h.elim
  simp only[kz,PP,Tryz.underlying26,wD] at h;obtain⟨a50,_,rfl,h44,a51,_,rfl,h45,a52,_,rfl,h46,a53,_,rfl,h47,a54,_,rfl,h48,a55,_,rfl,h49,rfl⟩:=h;obtain⟨v57,rfl,q58⟩:=aps h44;obtain⟨v59,rfl⟩:=adV h45;obtain⟨v60,rfl,q61⟩:=yG h46;obtain⟨v62,rfl,q63⟩:=yG h47;obtain⟨l64,rfl,q65,x66⟩:=Sw h48;obtain⟨l67,rfl,q68,x69⟩:=apt h49;exact T.aM v57 v59 v60 v62 l64 l67 q58 (by omega) (by omega) (by omega) (λy hy=>by obtain⟨m,hm,ds,hd,rfl⟩:=x66 y hy;exact(ih m (by omega)).2.2.1 _ hd) (by omega) (λy hy=>by obtain⟨m,hm,ds,hd,rfl⟩:=x69 y hy;exact(ih m (by omega)).2.2.2.2.1 _ hd)
 ·rw[ar9];rcases n with _|n76
  ·exact h.elim
  simp only[kz,PP,Tryz.underlying69,wD] at h;obtain⟨a73,_,rfl,h70,a74,_,rfl,h71,a75,_,rfl,h72,rfl⟩:=h;rcases n76 with _|n81
  ·exact h70.elim
  simp only[kz,PP,Tryz.underlying28,wD] at h70;obtain⟨a79,_,rfl,h77,a80,_,rfl,h78,rfl⟩:=h70;obtain⟨v82,rfl,q83⟩:=yG h77;obtain⟨v84,rfl,q85⟩:=yG h78;obtain⟨l86,rfl,q87,x88⟩:=aib h71;simp only[kz,PP,Tryz.underlying32,wD] at h72;obtain⟨a96,_,rfl,h89,a97,_,rfl,h90,a98,_,rfl,h91,a99,_,rfl,h92,atz,_,rfl,h93,atA,_,rfl,h94,atB,_,rfl,h95,rfl⟩:=h72;obtain⟨ash,rfl,atC⟩:=Wv h89;obtain⟨v105,rfl⟩:=ag5 h90;obtain⟨asi,rfl⟩:=adV h91;obtain⟨v107,rfl,atD⟩:=yG h92;obtain⟨v109,rfl,atE⟩:=yG h93;obtain⟨asj,rfl,atF,x113⟩:=Sw h94;obtain⟨asl,rfl,atG,asm⟩:=Ww h95;exact T.bS v82 v84 l86 ash v105 asi v107 v109 asj asl (by omega) (by omega) (by omega) (λy hy=>by obtain⟨m,hm,ds,hd,rfl⟩:=x88 y hy;exact(ih m (by omega)).1 _ hd) (by omega) (by omega) (by omega) (λy hy=>by obtain⟨m,hm,ds,hd,rfl⟩:=x113 y hy;exact(ih m (by omega)).2.2.1 _ hd) (by omega) (λy hy=>by obtain⟨m,hm,ds,hd,rfl⟩:=asm y hy;exact(ih m (by omega)).2.2.2.1 _ hd)
 ·rw[asa];rcases n with _|n125
  ·exact h.elim
  simp only[kz,PP,Tryz.underlying34,wD] at h;obtain⟨atH,_,rfl,alq,atI,_,rfl,apx,atJ,_,rfl,apy,a124,_,rfl,apz,rfl⟩:=h;rcases n125 with _|n130
  ·exact alq.elim
  simp only[kz,PP,Tryz.underlying28,wD] at alq;obtain⟨atK,_,rfl,asn,atL,_,rfl,aso,rfl⟩:=alq;obtain⟨v131,rfl,atM⟩:=yG asn;obtain⟨asq,rfl,atN⟩:=yG aso;simp only[kz,PP,Tryz.underlying28,wD] at apx;obtain⟨atP,_,rfl,asr,a138,_,rfl,ass,rfl⟩:=apx;obtain⟨v139,rfl,atQ⟩:=yG asr;obtain⟨v141,rfl,atS⟩:=yG ass;simp only[kz,PP,Tryz.underlying28,wD] at apy;obtain⟨a145,_,rfl,ast,a146,_,rfl,asu,rfl⟩:=apy;obtain⟨asv,rfl,atT⟩:=yG ast;obtain⟨asw,rfl,atU⟩:=yG asu;simp only[kz,PP,Tryz.underlying32,wD] at apz;obtain⟨atV,_,rfl,asx,a159,_,rfl,asy,a160,_,rfl,asz,atW,_,rfl,asA,a162,_,rfl,asB,atX,_,rfl,asC,a164,_,rfl,asD,rfl⟩:=apz;obtain⟨asE,rfl,atY⟩:=Wv asx;obtain⟨v167,rfl⟩:=ag5 asy;obtain⟨v168,rfl⟩:=adV asz;obtain⟨asF,rfl,atZ⟩:=yG asA;obtain⟨v171,rfl,at0⟩:=yG asB;obtain⟨asG,rfl,at1,asH⟩:=Sw asC;obtain⟨asI,rfl,at2,asJ⟩:=Ww asD;exact T.bP v131 asq v139 v141 asv asw asE v167 v168 asF v171 asG asI (by omega) (by omega) (by omega) (by omega) (by omega) (by omega) (by omega) (by omega) (by omega) (λy hy=>by obtain⟨m,hm,ds,hd,rfl⟩:=asH y hy;exact(ih m (by omega)).2.2.1 _ hd) (by omega) (λy hy=>by obtain⟨m,hm,ds,hd,rfl⟩:=asJ y hy;exact(ih m (by omega)).2.2.2.1 _ hd)
 ·rw[apu];obtain⟨asK,rfl,at3,asL⟩:=alo h;exact T.Lint asK (by omega) (λy hy=>by obtain⟨m,hm,ds,hd,rfl⟩:=asL y hy;exact(ih m (by omega)).2.2.2.2.2.2.2.2.1 _ hd)
 ·rw[mk3];obtain⟨v182,rfl⟩:=asb h;exact T.int v182
 ·rw[asc];obtain⟨v183,rfl,at4⟩:=Wv h;exact T.jU v183
 ·rw[mk2];obtain⟨asM,rfl⟩:=adV h;exact T.int64 asM
 ·rw[mk4];obtain⟨asN,rfl⟩:=ag5 h;exact T.bool asN
 ·rw[apv];obtain⟨asO,rfl⟩:=alp h;exact T.uint64 asO
 ·rw[ase];obtain⟨asP,rfl,at5,asQ⟩:=aib h;exact T.eR asP (by omega) (λy hy=>by obtain⟨m,hm,ds,hd,rfl⟩:=asQ y hy;exact(ih m (by omega)).1 _ hd)
 ·rw[asf];obtain⟨asR,rfl,at6,asS⟩:=apw h;exact T.aN asR (by omega) (λy hy=>by obtain⟨m,hm,ds,hd,rfl⟩:=asS y hy;exact(ih m (by omega)).2.2.2.2.2.1 _ hd)
 ·rw[asg];obtain⟨asT,rfl,at7,asU⟩:=Ww h;exact T.AP asT (by omega) (λy hy=>by obtain⟨m,hm,ds,hd,rfl⟩:=asU y hy;exact(ih m (by omega)).2.2.2.1 _ hd)
theorem CG {B:Nat}(hB:B<=4194304){x:Tree}(h:ShT PP B 28 x):T .aB x:=by
 obtain⟨n,ds,_,h1,rfl⟩:=h;exact(U3 hB n).1 ds h1
theorem K6 {B:Nat}(hB:B<=4194304){x:Tree}(h:ShT PP B 34 x):T .bP x:=by
 obtain⟨n,ds,_,h1,rfl⟩:=h;exact(U3 hB n).2.2.2.2.2.2.1 ds h1
theorem K7 {B:Nat}(hB:B<=4194304){x:Tree}(h:ShT PP B 35 x):T .aN x:=by
 obtain⟨n,ds,_,h1,rfl⟩:=h;exact(U3 hB n).2.2.2.2.2.2.2.2.2.2.2.2.2.2.1 ds h1
theorem ag6 (m:Int)(Ts:List Tree)(h:Ve PP 1048576 [28,28,28,34,35] Ts):ai (cf m) 5 (Ts.map .t) [] (.ret (.t (.bool true)) [] []):=by
 match Ts,h with
 | [a,b,c,y,z],⟨h1,h2,h3,h4,h5,_⟩=>
  obtain⟨x1,x2,rfl,g1,g2⟩:=T.bH (CG (by decide) h1)
  obtain⟨y1,y2,rfl,g3,g4⟩:=T.bH (CG (by decide) h2)
  obtain⟨z1,z2,rfl,g5,g6⟩:=T.bH (CG (by decide) h3)
  have hy:=K6 (by decide) h4
  have hz:=K7 (by decide) h5
  obtain⟨p1,p2,a1,a2,r1,r2,k,bb,n,s,t,ns,l,rfl,_⟩:=T.kK hy
  obtain⟨row,rfl,_⟩:=T.eL hz
  exact ape m (adU m) p1 p2 a1 a2 r1 r2 k bb n s t ns l row hy hz x1 x2 y1 y2 z1 z2 g1 g2 g3 g4 g5 g6
end
end Go.Proofs.YtfdnciimclnncaaGreatDoor.w.e
