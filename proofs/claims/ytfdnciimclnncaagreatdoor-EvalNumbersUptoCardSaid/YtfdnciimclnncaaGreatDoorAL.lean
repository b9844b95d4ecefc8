/- Arguments of any kind. -/
import Derived.Test.YtfdnciimclnncaaGreatDoorT
import Derived.Test.YtfdnciimclnncaaGreatDoorH
import Derived.Test.YtfdnciimclnncaaGreatDoorShelf
import Derived.Test.YtfdnciimclnncaaGreatDoorAG
import Derived.Test.YtfdnciimclnncaaGreatDoorAK
set_option linter.unusedVariables false
set_option linter.unusedSimpArgs false
namespace Go.Proofs.YtfdnciimclnncaaGreatDoor.w.e
open Go Go.Abs
set_option maxRecDepth 100000
set_option maxHeartbeats 2000000
noncomputable section
open Go.Abs.Ty
open Go.Proofs.YtfdnciimclnncaaGreatDoor.arg
noncomputable abbrev PP:Program:=Tryz.prog
theorem wf_u8 {k:Int}(h:(Lit.int .u8 k).wf=true):0<=k:=by
 simp only[Lit.wf,Bool.and_eq_true,decide_eq_true_eq] at h;exact h.1
theorem yp {B n:Nat}{cs:List Tree}(h:ki PP B n 9 cs):∃s,cs=[.str s]/\s.length<=B:=by
 cases n with
 |zero=>exact h.elim
 |succ n=>
  simp only[ki,PP,Tryz.underlying9] at h
  exact h
theorem arL (cs:List Tree):nh PP 28 cs=.agg cs:=by simp only[nh,PP,Tryz.underlying28]
theorem Ss {B n:Nat}{cs:List Tree}(h:ki PP B n 23 cs):∃l,cs=[.sl l]/\l.length<=B/\∀x∈l,∃m,m<n/\∃ds,ki PP B m 9 ds/\x=nh PP 9 ds:=by
 cases n with
 |zero=>exact h.elim
 |succ n=>
  simp only[ki,PP,Tryz.underlying23] at h
  obtain⟨l,h1,h2,h3⟩:=h
  exact⟨l,h1,h2,λx hx=>by obtain⟨ds,h4,h5⟩:=h3 x hx;exact⟨n,Nat.lt_succ_self n,ds,h4,h5⟩⟩
theorem arM (cs:List Tree):nh PP 23 cs=cs.headD .cR:=by simp only[nh,PP,Tryz.underlying23]
theorem mk9 (cs:List Tree):nh PP 9 cs=cs.headD .cR:=by simp only[nh,PP,Tryz.underlying9]
theorem Wv {B n:Nat}{cs:List Tree}(h:ki PP B n 29 cs):∃k,cs=[.int .u8 k]/\0<=k:=by
 cases n with
 |zero=>exact h.elim
 |succ n=>
  simp only[ki,PP,Tryz.underlying29] at h
  obtain⟨x,h1,h2⟩:=h
  exact⟨x,h1,wf_u8 h2⟩
theorem ag8 {B n:Nat}{cs:List Tree}(h:ki PP B n 4 cs):∃b,cs=[.bool b]:=by
 cases n with
 |zero=>exact h.elim
 |succ n=>
  simp only[ki,PP,Tryz.underlying4] at h
  exact h
theorem adS {B n:Nat}{cs:List Tree}(h:ki PP B n 2 cs):∃k,cs=[.int .i64 k]:=by
 cases n with
 |zero=>exact h.elim
 |succ n=>
  simp only[ki,PP,Tryz.underlying2] at h
  obtain⟨x,h1,_⟩:=h
  exact⟨x,h1⟩
theorem Ww {B n:Nat}{cs:List Tree}(h:ki PP B n 30 cs):∃l,cs=[.sl l]/\l.length<=B/\∀x∈l,∃m,m<n/\∃ds,ki PP B m 32 ds/\x=nh PP 32 ds:=by
 cases n with
 |zero=>exact h.elim
 |succ n=>
  simp only[ki,PP,Tryz.underlying30] at h
  obtain⟨l,h1,h2,h3⟩:=h
  exact⟨l,h1,h2,λx hx=>by obtain⟨ds,h4,h5⟩:=h3 x hx;exact⟨n,Nat.lt_succ_self n,ds,h4,h5⟩⟩
theorem arN (cs:List Tree):nh PP 32 cs=.agg cs:=by simp only[nh,PP,Tryz.underlying32]
theorem apb {B n:Nat}{cs:List Tree}(h:ki PP B n 22 cs):∃k,cs=[.int .u8 k]/\0<=k:=by
 cases n with
 |zero=>exact h.elim
 |succ n=>
  simp only[ki,PP,Tryz.underlying22] at h
  obtain⟨x,h1,h2⟩:=h
  exact⟨x,h1,wf_u8 h2⟩
theorem apc {B n:Nat}{cs:List Tree}(h:ki PP B n 24 cs):∃l,cs=[.sl l]/\l.length<=B/\∀x∈l,∃m,m<n/\∃ds,ki PP B m 26 ds/\x=nh PP 26 ds:=by
 cases n with
 |zero=>exact h.elim
 |succ n=>
  simp only[ki,PP,Tryz.underlying24] at h
  obtain⟨l,h1,h2,h3⟩:=h
  exact⟨l,h1,h2,λx hx=>by obtain⟨ds,h4,h5⟩:=h3 x hx;exact⟨n,Nat.lt_succ_self n,ds,h4,h5⟩⟩
theorem arO (cs:List Tree):nh PP 26 cs=.agg cs:=by simp only[nh,PP,Tryz.underlying26]
theorem ah6 {B n:Nat}{cs:List Tree}(h:ki PP B n 56 cs):∃l,cs=[.sl l]/\l.length<=B/\∀x∈l,∃m,m<n/\∃ds,ki PP B m 28 ds/\x=nh PP 28 ds:=by
 cases n with
 |zero=>exact h.elim
 |succ n=>
  simp only[ki,PP,Tryz.underlying56] at h
  obtain⟨l,h1,h2,h3⟩:=h
  exact⟨l,h1,h2,λx hx=>by obtain⟨ds,h4,h5⟩:=h3 x hx;exact⟨n,Nat.lt_succ_self n,ds,h4,h5⟩⟩
theorem arP (cs:List Tree):nh PP 69 cs=.agg cs:=by simp only[nh,PP,Tryz.underlying69]
theorem arQ (cs:List Tree):nh PP 34 cs=.agg cs:=by simp only[nh,PP,Tryz.underlying34]
theorem ak7 {B n:Nat}{cs:List Tree}(h:ki PP B n 169 cs):∃l,cs=[.sl l]/\l.length<=B/\∀x∈l,∃m,m<n/\∃ds,ki PP B m 3 ds/\x=nh PP 3 ds:=by
 cases n with
 |zero=>exact h.elim
 |succ n=>
  simp only[ki,PP,Tryz.underlying169] at h
  obtain⟨l,h1,h2,h3⟩:=h
  exact⟨l,h1,h2,λx hx=>by obtain⟨ds,h4,h5⟩:=h3 x hx;exact⟨n,Nat.lt_succ_self n,ds,h4,h5⟩⟩
theorem apd (cs:List Tree):nh PP 169 cs=cs.headD .cR:=by simp only[nh,PP,Tryz.underlying169]
theorem arR {B n:Nat}{cs:List Tree}(h:ki PP B n 3 cs):∃k,cs=[.int .i64 k]:=by
 cases n with
 |zero=>exact h.elim
 |succ n=>
  simp only[ki,PP,Tryz.underlying3] at h
  obtain⟨x,h1,_⟩:=h
  exact⟨x,h1⟩
theorem mk3 (cs:List Tree):nh PP 3 cs=cs.headD .cR:=by simp only[nh,PP,Tryz.underlying3]
theorem arS (cs:List Tree):nh PP 29 cs=cs.headD .cR:=by simp only[nh,PP,Tryz.underlying29]
theorem mk2 (cs:List Tree):nh PP 2 cs=cs.headD .cR:=by simp only[nh,PP,Tryz.underlying2]
theorem mk4 (cs:List Tree):nh PP 4 cs=cs.headD .cR:=by simp only[nh,PP,Tryz.underlying4]
theorem ak8 {B n:Nat}{cs:List Tree}(h:ki PP B n 162 cs):∃k,cs=[.int .u64 k]:=by
 cases n with
 |zero=>exact h.elim
 |succ n=>
  simp only[ki,PP,Tryz.underlying162] at h
  obtain⟨x,h1,_⟩:=h
  exact⟨x,h1⟩
theorem ape (cs:List Tree):nh PP 162 cs=cs.headD .cR:=by simp only[nh,PP,Tryz.underlying162]
theorem arT (cs:List Tree):nh PP 56 cs=cs.headD .cR:=by simp only[nh,PP,Tryz.underlying56]
theorem apf {B n:Nat}{cs:List Tree}(h:ki PP B n 35 cs):∃l,cs=[.sl l]/\l.length<=B/\∀x∈l,∃m,m<n/\∃ds,ki PP B m 69 ds/\x=nh PP 69 ds:=by
 cases n with
 |zero=>exact h.elim
 |succ n=>
  simp only[ki,PP,Tryz.underlying35] at h
  obtain⟨l,h1,h2,h3⟩:=h
  exact⟨l,h1,h2,λx hx=>by obtain⟨ds,h4,h5⟩:=h3 x hx;exact⟨n,Nat.lt_succ_self n,ds,h4,h5⟩⟩
theorem arU (cs:List Tree):nh PP 35 cs=cs.headD .cR:=by simp only[nh,PP,Tryz.underlying35]
theorem arV (cs:List Tree):nh PP 30 cs=cs.headD .cR:=by simp only[nh,PP,Tryz.underlying30]
theorem UZ {B:Nat}(hB:B<=4194304):∀n,(∀cs,ki PP B n 28 cs->T .aI (nh PP 28 cs))/\(∀cs,ki PP B n 23 cs->T .cB (nh PP 23 cs))/\(∀cs,ki PP B n 9 cs->T .string (nh PP 9 cs))/\(∀cs,ki PP B n 32 cs->T .av (nh PP 32 cs))/\(∀cs,ki PP B n 26 cs->T .aG (nh PP 26 cs))/\(∀cs,ki PP B n 69 cs->T .bP (nh PP 69 cs))/\(∀cs,ki PP B n 34 cs->T .bQ (nh PP 34 cs))/\(∀cs,ki PP B n 169 cs->T .Lint (nh PP 169 cs))/\(∀cs,ki PP B n 3 cs->T .int (nh PP 3 cs))/\(∀cs,ki PP B n 29 cs->T .jU (nh PP 29 cs))/\(∀cs,ki PP B n 2 cs->T .int64 (nh PP 2 cs))/\(∀cs,ki PP B n 4 cs->T .bool (nh PP 4 cs))/\(∀cs,ki PP B n 162 cs->T .uint64 (nh PP 162 cs))/\(∀cs,ki PP B n 56 cs->T .fe (nh PP 56 cs))/\(∀cs,ki PP B n 35 cs->T .aQ (nh PP 35 cs))/\(∀cs,ki PP B n 30 cs->T .AB (nh PP 30 cs)):=by
 intro n;induction n using Nat.strongRecOn with
 |_ n ih=>
 refine⟨λcs h=> ?_,λcs h=> ?_,λcs h=> ?_,λcs h=> ?_,λcs h=> ?_,λcs h=> ?_,λcs h=> ?_,λcs h=> ?_,λcs h=> ?_,λcs h=> ?_,λcs h=> ?_,λcs h=> ?_,λcs h=> ?_,λcs h=> ?_,λcs h=> ?_,λcs h=> ?_⟩
 ·rw[arL];rcases n with _|n5
  ·exact h.elim
  simp only[ki,PP,Tryz.underlying28,wB] at h;obtain⟨a3,_,rfl,h1,a4,_,rfl,h2,rfl⟩:=h;obtain⟨v6,rfl,q7⟩:=yp h1;obtain⟨v8,rfl,q9⟩:=yp h2;exact T.aI v6 v8 (by omega) (by omega)
 ·rw[arM];obtain⟨l10,rfl,q11,x12⟩:=Ss h;exact T.cB l10 (by omega) (λy hy=>by obtain⟨m,hm,ds,hd,rfl⟩:=x12 y hy;exact(ih m (by omega)).2.2.1 _ hd)
 ·rw[mk9];obtain⟨v13,rfl,q14⟩:=yp h;exact T.string v13 (by omega)
 ·rw[arN];rcases n with _|n29
  ·exact h.elim
  simp only[ki,PP,Tryz.underlying32,wB] at h;obtain⟨a22,_,rfl,Oc,a23,_,rfl,h16,a24,_,rfl,h17,a25,_,rfl,h18,a26,_,rfl,h19,a27,_,rfl,h20,a28,_,rfl,h21,rfl⟩:=h;obtain⟨v30,rfl,q31⟩:=Wv Oc;obtain⟨v32,rfl⟩:=ag8 h16;obtain⟨v33,rfl⟩:=adS h17;obtain⟨v34,rfl,q35⟩:=yp h18;obtain⟨v36,rfl,q37⟩:=yp h19;obtain⟨l38,rfl,q39,x40⟩:=Ss h20;obtain⟨l41,rfl,q42,x43⟩:=Ww h21;exact T.av v30 v32 v33 v34 v36 l38 l41 (by omega) (by omega) (by omega) (λy hy=>by obtain⟨m,hm,ds,hd,rfl⟩:=x40 y hy;exact(ih m (by omega)).2.2.1 _ hd) (by omega) (λy hy=>by obtain⟨m,hm,ds,hd,rfl⟩:=x43 y hy;exact(ih m (by omega)).2.2.2.1 _ hd)
 ·rw[arO];rcases n with _|n56
  ·exact h.elim
  simp only[ki,PP,Tryz.underlying26,wB] at h;obtain⟨a50,_,rfl,h44,a51,_,rfl,h45,a52,_,rfl,h46,a53,_,rfl,h47,a54,_,rfl,h48,a55,_,rfl,h49,rfl⟩:=h;obtain⟨v57,rfl,q58⟩:=apb h44;obtain⟨v59,rfl⟩:=adS h45;obtain⟨v60,rfl,q61⟩:=yp h46;obtain⟨v62,rfl,q63⟩:=yp h47;obtain⟨l64,rfl,q65,x66⟩:=Ss h48;obtain⟨l67,rfl,q68,x69⟩:=apc h49;exact T.aG v57 v59 v60 v62 l64 l67 q58 (by omega) (by omega) (by omega) (λy hy=>by obtain⟨m,hm,ds,hd,rfl⟩:=x66 y hy;exact(ih m (by omega)).2.2.1 _ hd) (by omega) (λy hy=>by obtain⟨m,hm,ds,hd,rfl⟩:=x69 y hy;exact(ih m (by omega)).2.2.2.2.1 _ hd)
 ·rw[arP];rcases n with _|n76
  ·exact h.elim
  simp only[ki,PP,Tryz.underlying69,wB] at h;obtain⟨a73,_,rfl,h70,a74,_,rfl,h71,a75,_,rfl,h72,rfl⟩:=h;rcases n76 with _|n81
  ·exact h70.elim
  simp only[ki,PP,Tryz.underlying28,wB] at h70;obtain⟨a79,_,rfl,h77,a80,_,rfl,h78,rfl⟩:=h70;obtain⟨v82,rfl,q83⟩:=yp h77;obtain⟨v84,rfl,q85⟩:=yp h78;obtain⟨l86,rfl,q87,x88⟩:=ah6 h71;simp only[ki,PP,Tryz.underlying32,wB] at h72;obtain⟨a96,_,rfl,h89,a97,_,rfl,h90,a98,_,rfl,h91,a99,_,rfl,h92,atd,_,rfl,h93,ate,_,rfl,h94,atf,_,rfl,h95,rfl⟩:=h72;obtain⟨arW,rfl,atg⟩:=Wv h89;obtain⟨v105,rfl⟩:=ag8 h90;obtain⟨arX,rfl⟩:=adS h91;obtain⟨v107,rfl,ath⟩:=yp h92;obtain⟨v109,rfl,ati⟩:=yp h93;obtain⟨arY,rfl,atj,x113⟩:=Ss h94;obtain⟨arZ,rfl,atk,ar0⟩:=Ww h95;exact T.bP v82 v84 l86 arW v105 arX v107 v109 arY arZ (by omega) (by omega) (by omega) (λy hy=>by obtain⟨m,hm,ds,hd,rfl⟩:=x88 y hy;exact(ih m (by omega)).1 _ hd) (by omega) (by omega) (by omega) (λy hy=>by obtain⟨m,hm,ds,hd,rfl⟩:=x113 y hy;exact(ih m (by omega)).2.2.1 _ hd) (by omega) (λy hy=>by obtain⟨m,hm,ds,hd,rfl⟩:=ar0 y hy;exact(ih m (by omega)).2.2.2.1 _ hd)
 ·rw[arQ];rcases n with _|n125
  ·exact h.elim
  simp only[ki,PP,Tryz.underlying34,wB] at h;obtain⟨atl,_,rfl,ak9,atm,_,rfl,apg,atn,_,rfl,aph,a124,_,rfl,api,rfl⟩:=h;rcases n125 with _|n130
  ·exact ak9.elim
  simp only[ki,PP,Tryz.underlying28,wB] at ak9;obtain⟨ato,_,rfl,ar1,atp,_,rfl,ar2,rfl⟩:=ak9;obtain⟨v131,rfl,atq⟩:=yp ar1;obtain⟨ar3,rfl,atr⟩:=yp ar2;simp only[ki,PP,Tryz.underlying28,wB] at apg;obtain⟨att,_,rfl,ar4,a138,_,rfl,ar5,rfl⟩:=apg;obtain⟨v139,rfl,atu⟩:=yp ar4;obtain⟨v141,rfl,atv⟩:=yp ar5;simp only[ki,PP,Tryz.underlying28,wB] at aph;obtain⟨a145,_,rfl,ar6,a146,_,rfl,ar7,rfl⟩:=aph;obtain⟨ar8,rfl,atw⟩:=yp ar6;obtain⟨ar9,rfl,atx⟩:=yp ar7;simp only[ki,PP,Tryz.underlying32,wB] at api;obtain⟨aty,_,rfl,asa,a159,_,rfl,asb,a160,_,rfl,asc,atz,_,rfl,ase,a162,_,rfl,asf,atA,_,rfl,asg,a164,_,rfl,ash,rfl⟩:=api;obtain⟨asi,rfl,atB⟩:=Wv asa;obtain⟨v167,rfl⟩:=ag8 asb;obtain⟨v168,rfl⟩:=adS asc;obtain⟨asj,rfl,atC⟩:=yp ase;obtain⟨v171,rfl,atD⟩:=yp asf;obtain⟨asl,rfl,atE,asm⟩:=Ss asg;obtain⟨asn,rfl,atF,aso⟩:=Ww ash;exact T.bQ v131 ar3 v139 v141 ar8 ar9 asi v167 v168 asj v171 asl asn (by omega) (by omega) (by omega) (by omega) (by omega) (by omega) (by omega) (by omega) (by omega) (λy hy=>by obtain⟨m,hm,ds,hd,rfl⟩:=asm y hy;exact(ih m (by omega)).2.2.1 _ hd) (by omega) (λy hy=>by obtain⟨m,hm,ds,hd,rfl⟩:=aso y hy;exact(ih m (by omega)).2.2.2.1 _ hd)
 ·rw[apd];obtain⟨asq,rfl,atG,asr⟩:=ak7 h;exact T.Lint asq (by omega) (λy hy=>by obtain⟨m,hm,ds,hd,rfl⟩:=asr y hy;exact(ih m (by omega)).2.2.2.2.2.2.2.2.1 _ hd)
 ·rw[mk3];obtain⟨v182,rfl⟩:=arR h;exact T.int v182
 ·rw[arS];obtain⟨v183,rfl,atH⟩:=Wv h;exact T.jU v183
 ·rw[mk2];obtain⟨ass,rfl⟩:=adS h;exact T.int64 ass
 ·rw[mk4];obtain⟨ast,rfl⟩:=ag8 h;exact T.bool ast
 ·rw[ape];obtain⟨asu,rfl⟩:=ak8 h;exact T.uint64 asu
 ·rw[arT];obtain⟨asv,rfl,atI,asw⟩:=ah6 h;exact T.fe asv (by omega) (λy hy=>by obtain⟨m,hm,ds,hd,rfl⟩:=asw y hy;exact(ih m (by omega)).1 _ hd)
 ·rw[arU];obtain⟨asx,rfl,atJ,asy⟩:=apf h;exact T.aQ asx (by omega) (λy hy=>by obtain⟨m,hm,ds,hd,rfl⟩:=asy y hy;exact(ih m (by omega)).2.2.2.2.2.1 _ hd)
 ·rw[arV];obtain⟨asz,rfl,atK,asA⟩:=Ww h;exact T.AB asz (by omega) (λy hy=>by obtain⟨m,hm,ds,hd,rfl⟩:=asA y hy;exact(ih m (by omega)).2.2.2.1 _ hd)
theorem Hf {B:Nat}(hB:B<=4194304){x:Tree}(h:ShT PP B 26 x):T .aG x:=by
 obtain⟨n,ds,_,h1,rfl⟩:=h;exact(UZ hB n).2.2.2.2.1 ds h1
theorem Lg {B:Nat}(hB:B<=4194304){x:Tree}(h:ShT PP B 34 x):T .bQ x:=by
 obtain⟨n,ds,_,h1,rfl⟩:=h;exact(UZ hB n).2.2.2.2.2.2.1 ds h1
theorem Lh {B:Nat}(hB:B<=4194304){x:Tree}(h:ShT PP B 35 x):T .aQ x:=by
 obtain⟨n,ds,_,h1,rfl⟩:=h;exact(UZ hB n).2.2.2.2.2.2.2.2.2.2.2.2.2.2.1 ds h1
theorem ag9 (m:Int)(Ts:List Tree)(h:U9 PP 1048576 [26,26,34,35] Ts):ai (cf m) 4 (Ts.map .t) [] (.ret (.t (.bool true)) [] []):=by
 match Ts,h with
 | [a,b,y,z],⟨h1,h2,h3,h4,_⟩=>
  have ha:=Hf (by decide) h1
  have hb:=Hf (by decide) h2
  have hy:=Lg (by decide) h3
  have hz:=Lh (by decide) h4
  obtain⟨_,_,⟨_,hba⟩,_,_⟩:=h1
  obtain⟨_,_,⟨_,hbb⟩,_,_⟩:=h2
  exact UU m (adR m) a b y z ha hb (by omega) (by omega) hy hz
end
end Go.Proofs.YtfdnciimclnncaaGreatDoor.w.e
