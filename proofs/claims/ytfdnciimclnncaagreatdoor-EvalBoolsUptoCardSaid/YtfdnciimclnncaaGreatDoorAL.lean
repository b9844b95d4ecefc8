/- Arguments of any kind. -/
import Derived.Test.YtfdnciimclnncaaGreatDoorT
import Derived.Test.YtfdnciimclnncaaGreatDoorH
import Derived.Test.YtfdnciimclnncaaGreatDoorShelf
import Derived.Test.YtfdnciimclnncaaGreatDoorAG
import Derived.Test.YtfdnciimclnncaaGreatDoorAK
set_option linter.unusedVariables false
set_option linter.unusedSimpArgs false
namespace Go.Proofs.YtfdnciimclnncaaGreatDoor.w.e
open Go Go.Abs
set_option maxRecDepth 100000
set_option maxHeartbeats 2000000
noncomputable section
open Go.Abs.Ty
open Go.Proofs.YtfdnciimclnncaaGreatDoor.arg
noncomputable abbrev PP:Program:=Tryz.prog
theorem wf_u8 {k:Int}(h:(Lit.int .u8 k).wf=true):0<=k:=by
 simp only[Lit.wf,Bool.and_eq_true,decide_eq_true_eq] at h;exact h.1
theorem yc {B n:Nat}{cs:List Tree}(h:j9 PP B n 9 cs):∃s,cs=[.str s]/\s.length<=B:=by
 cases n with
 |zero=>exact h.elim
 |succ n=>
  simp only[j9,PP,Tryz.underlying9] at h
  exact h
theorem arM (cs:List Tree):mX PP 28 cs=.agg cs:=by simp only[mX,PP,Tryz.underlying28]
theorem Sf {B n:Nat}{cs:List Tree}(h:j9 PP B n 23 cs):∃l,cs=[.sl l]/\l.length<=B/\∀x∈l,∃m,m<n/\∃ds,j9 PP B m 9 ds/\x=mX PP 9 ds:=by
 cases n with
 |zero=>exact h.elim
 |succ n=>
  simp only[j9,PP,Tryz.underlying23] at h
  obtain⟨l,h1,h2,h3⟩:=h
  exact⟨l,h1,h2,λx hx=>by obtain⟨ds,h4,h5⟩:=h3 x hx;exact⟨n,Nat.lt_succ_self n,ds,h4,h5⟩⟩
theorem arN (cs:List Tree):mX PP 23 cs=cs.headD .cT:=by simp only[mX,PP,Tryz.underlying23]
theorem mk9 (cs:List Tree):mX PP 9 cs=cs.headD .cT:=by simp only[mX,PP,Tryz.underlying9]
theorem Wk {B n:Nat}{cs:List Tree}(h:j9 PP B n 29 cs):∃k,cs=[.int .u8 k]/\0<=k:=by
 cases n with
 |zero=>exact h.elim
 |succ n=>
  simp only[j9,PP,Tryz.underlying29] at h
  obtain⟨x,h1,h2⟩:=h
  exact⟨x,h1,wf_u8 h2⟩
theorem agU {B n:Nat}{cs:List Tree}(h:j9 PP B n 4 cs):∃b,cs=[.bool b]:=by
 cases n with
 |zero=>exact h.elim
 |succ n=>
  simp only[j9,PP,Tryz.underlying4] at h
  exact h
theorem adE {B n:Nat}{cs:List Tree}(h:j9 PP B n 2 cs):∃k,cs=[.int .i64 k]:=by
 cases n with
 |zero=>exact h.elim
 |succ n=>
  simp only[j9,PP,Tryz.underlying2] at h
  obtain⟨x,h1,_⟩:=h
  exact⟨x,h1⟩
theorem Wl {B n:Nat}{cs:List Tree}(h:j9 PP B n 30 cs):∃l,cs=[.sl l]/\l.length<=B/\∀x∈l,∃m,m<n/\∃ds,j9 PP B m 32 ds/\x=mX PP 32 ds:=by
 cases n with
 |zero=>exact h.elim
 |succ n=>
  simp only[j9,PP,Tryz.underlying30] at h
  obtain⟨l,h1,h2,h3⟩:=h
  exact⟨l,h1,h2,λx hx=>by obtain⟨ds,h4,h5⟩:=h3 x hx;exact⟨n,Nat.lt_succ_self n,ds,h4,h5⟩⟩
theorem arO (cs:List Tree):mX PP 32 cs=.agg cs:=by simp only[mX,PP,Tryz.underlying32]
theorem apl {B n:Nat}{cs:List Tree}(h:j9 PP B n 22 cs):∃k,cs=[.int .u8 k]/\0<=k:=by
 cases n with
 |zero=>exact h.elim
 |succ n=>
  simp only[j9,PP,Tryz.underlying22] at h
  obtain⟨x,h1,h2⟩:=h
  exact⟨x,h1,wf_u8 h2⟩
theorem apm {B n:Nat}{cs:List Tree}(h:j9 PP B n 24 cs):∃l,cs=[.sl l]/\l.length<=B/\∀x∈l,∃m,m<n/\∃ds,j9 PP B m 26 ds/\x=mX PP 26 ds:=by
 cases n with
 |zero=>exact h.elim
 |succ n=>
  simp only[j9,PP,Tryz.underlying24] at h
  obtain⟨l,h1,h2,h3⟩:=h
  exact⟨l,h1,h2,λx hx=>by obtain⟨ds,h4,h5⟩:=h3 x hx;exact⟨n,Nat.lt_succ_self n,ds,h4,h5⟩⟩
theorem arP (cs:List Tree):mX PP 26 cs=.agg cs:=by simp only[mX,PP,Tryz.underlying26]
theorem ahU {B n:Nat}{cs:List Tree}(h:j9 PP B n 56 cs):∃l,cs=[.sl l]/\l.length<=B/\∀x∈l,∃m,m<n/\∃ds,j9 PP B m 28 ds/\x=mX PP 28 ds:=by
 cases n with
 |zero=>exact h.elim
 |succ n=>
  simp only[j9,PP,Tryz.underlying56] at h
  obtain⟨l,h1,h2,h3⟩:=h
  exact⟨l,h1,h2,λx hx=>by obtain⟨ds,h4,h5⟩:=h3 x hx;exact⟨n,Nat.lt_succ_self n,ds,h4,h5⟩⟩
theorem arQ (cs:List Tree):mX PP 69 cs=.agg cs:=by simp only[mX,PP,Tryz.underlying69]
theorem arR (cs:List Tree):mX PP 34 cs=.agg cs:=by simp only[mX,PP,Tryz.underlying34]
theorem ak5 {B n:Nat}{cs:List Tree}(h:j9 PP B n 169 cs):∃l,cs=[.sl l]/\l.length<=B/\∀x∈l,∃m,m<n/\∃ds,j9 PP B m 3 ds/\x=mX PP 3 ds:=by
 cases n with
 |zero=>exact h.elim
 |succ n=>
  simp only[j9,PP,Tryz.underlying169] at h
  obtain⟨l,h1,h2,h3⟩:=h
  exact⟨l,h1,h2,λx hx=>by obtain⟨ds,h4,h5⟩:=h3 x hx;exact⟨n,Nat.lt_succ_self n,ds,h4,h5⟩⟩
theorem apn (cs:List Tree):mX PP 169 cs=cs.headD .cT:=by simp only[mX,PP,Tryz.underlying169]
theorem arS {B n:Nat}{cs:List Tree}(h:j9 PP B n 3 cs):∃k,cs=[.int .i64 k]:=by
 cases n with
 |zero=>exact h.elim
 |succ n=>
  simp only[j9,PP,Tryz.underlying3] at h
  obtain⟨x,h1,_⟩:=h
  exact⟨x,h1⟩
theorem mk3 (cs:List Tree):mX PP 3 cs=cs.headD .cT:=by simp only[mX,PP,Tryz.underlying3]
theorem arT (cs:List Tree):mX PP 29 cs=cs.headD .cT:=by simp only[mX,PP,Tryz.underlying29]
theorem mk2 (cs:List Tree):mX PP 2 cs=cs.headD .cT:=by simp only[mX,PP,Tryz.underlying2]
theorem mk4 (cs:List Tree):mX PP 4 cs=cs.headD .cT:=by simp only[mX,PP,Tryz.underlying4]
theorem ak6 {B n:Nat}{cs:List Tree}(h:j9 PP B n 162 cs):∃k,cs=[.int .u64 k]:=by
 cases n with
 |zero=>exact h.elim
 |succ n=>
  simp only[j9,PP,Tryz.underlying162] at h
  obtain⟨x,h1,_⟩:=h
  exact⟨x,h1⟩
theorem apo (cs:List Tree):mX PP 162 cs=cs.headD .cT:=by simp only[mX,PP,Tryz.underlying162]
theorem arU (cs:List Tree):mX PP 56 cs=cs.headD .cT:=by simp only[mX,PP,Tryz.underlying56]
theorem apq {B n:Nat}{cs:List Tree}(h:j9 PP B n 35 cs):∃l,cs=[.sl l]/\l.length<=B/\∀x∈l,∃m,m<n/\∃ds,j9 PP B m 69 ds/\x=mX PP 69 ds:=by
 cases n with
 |zero=>exact h.elim
 |succ n=>
  simp only[j9,PP,Tryz.underlying35] at h
  obtain⟨l,h1,h2,h3⟩:=h
  exact⟨l,h1,h2,λx hx=>by obtain⟨ds,h4,h5⟩:=h3 x hx;exact⟨n,Nat.lt_succ_self n,ds,h4,h5⟩⟩
theorem arV (cs:List Tree):mX PP 35 cs=cs.headD .cT:=by simp only[mX,PP,Tryz.underlying35]
theorem arW (cs:List Tree):mX PP 30 cs=cs.headD .cT:=by simp only[mX,PP,Tryz.underlying30]
theorem UM {B:Nat}(hB:B<=4194304):∀n,(∀cs,j9 PP B n 28 cs->T .aH (mX PP 28 cs))/\(∀cs,j9 PP B n 23 cs->T .cB (mX PP 23 cs))/\(∀cs,j9 PP B n 9 cs->T .string (mX PP 9 cs))/\(∀cs,j9 PP B n 32 cs->T .az (mX PP 32 cs))/\(∀cs,j9 PP B n 26 cs->T .aD (mX PP 26 cs))/\(∀cs,j9 PP B n 69 cs->T .bQ (mX PP 69 cs))/\(∀cs,j9 PP B n 34 cs->T .cE (mX PP 34 cs))/\(∀cs,j9 PP B n 169 cs->T .Lint (mX PP 169 cs))/\(∀cs,j9 PP B n 3 cs->T .int (mX PP 3 cs))/\(∀cs,j9 PP B n 29 cs->T .jS (mX PP 29 cs))/\(∀cs,j9 PP B n 2 cs->T .int64 (mX PP 2 cs))/\(∀cs,j9 PP B n 4 cs->T .bool (mX PP 4 cs))/\(∀cs,j9 PP B n 162 cs->T .uint64 (mX PP 162 cs))/\(∀cs,j9 PP B n 56 cs->T .fe (mX PP 56 cs))/\(∀cs,j9 PP B n 35 cs->T .aS (mX PP 35 cs))/\(∀cs,j9 PP B n 30 cs->T .Ax (mX PP 30 cs)):=by
 intro n;induction n using Nat.strongRecOn with
 |_ n ih=>
 refine⟨λcs h=> ?_,λcs h=> ?_,λcs h=> ?_,λcs h=> ?_,λcs h=> ?_,λcs h=> ?_,λcs h=> ?_,λcs h=> ?_,λcs h=> ?_,λcs h=> ?_,λcs h=> ?_,λcs h=> ?_,λcs h=> ?_,λcs h=> ?_,λcs h=> ?_,λcs h=> ?_⟩
 ·rw[arM];rcases n with _|n5
  ·exact h.elim
  simp only[j9,PP,Tryz.underlying28,v7] at h;obtain⟨a3,_,rfl,h1,a4,_,rfl,h2,rfl⟩:=h;obtain⟨v6,rfl,q7⟩:=yc h1;obtain⟨v8,rfl,q9⟩:=yc h2;exact T.aH v6 v8 (by omega) (by omega)
 ·rw[arN];obtain⟨l10,rfl,q11,x12⟩:=Sf h;exact T.cB l10 (by omega) (λy hy=>by obtain⟨m,hm,ds,hd,rfl⟩:=x12 y hy;exact(ih m (by omega)).2.2.1 _ hd)
 ·rw[mk9];obtain⟨v13,rfl,q14⟩:=yc h;exact T.string v13 (by omega)
 ·rw[arO];rcases n with _|n29
  ·exact h.elim
  simp only[j9,PP,Tryz.underlying32,v7] at h;obtain⟨a22,_,rfl,Ql,a23,_,rfl,h16,a24,_,rfl,h17,a25,_,rfl,h18,a26,_,rfl,h19,a27,_,rfl,h20,a28,_,rfl,h21,rfl⟩:=h;obtain⟨v30,rfl,q31⟩:=Wk Ql;obtain⟨v32,rfl⟩:=agU h16;obtain⟨v33,rfl⟩:=adE h17;obtain⟨v34,rfl,q35⟩:=yc h18;obtain⟨v36,rfl,q37⟩:=yc h19;obtain⟨l38,rfl,q39,x40⟩:=Sf h20;obtain⟨l41,rfl,q42,x43⟩:=Wl h21;exact T.az v30 v32 v33 v34 v36 l38 l41 (by omega) (by omega) (by omega) (λy hy=>by obtain⟨m,hm,ds,hd,rfl⟩:=x40 y hy;exact(ih m (by omega)).2.2.1 _ hd) (by omega) (λy hy=>by obtain⟨m,hm,ds,hd,rfl⟩:=x43 y hy;exact(ih m (by omega)).2.2.2.1 _ hd)
 ·rw[arP];rcases n with _|n56
  ·exact h.elim
  simp only[j9,PP,Tryz.underlying26,v7] at h;obtain⟨a50,_,rfl,h44,a51,_,rfl,h45,a52,_,rfl,h46,a53,_,rfl,h47,a54,_,rfl,h48,a55,_,rfl,h49,rfl⟩:=h;obtain⟨v57,rfl,q58⟩:=apl h44;obtain⟨v59,rfl⟩:=adE h45;obtain⟨v60,rfl,q61⟩:=yc h46;obtain⟨v62,rfl,q63⟩:=yc h47;obtain⟨l64,rfl,q65,x66⟩:=Sf h48;obtain⟨l67,rfl,q68,x69⟩:=apm h49;exact T.aD v57 v59 v60 v62 l64 l67 q58 (by omega) (by omega) (by omega) (λy hy=>by obtain⟨m,hm,ds,hd,rfl⟩:=x66 y hy;exact(ih m (by omega)).2.2.1 _ hd) (by omega) (λy hy=>by obtain⟨m,hm,ds,hd,rfl⟩:=x69 y hy;exact(ih m (by omega)).2.2.2.2.1 _ hd)
 ·rw[arQ];rcases n with _|n76
  ·exact h.elim
  simp only[j9,PP,Tryz.underlying69,v7] at h;obtain⟨a73,_,rfl,h70,a74,_,rfl,h71,a75,_,rfl,h72,rfl⟩:=h;rcases n76 with _|n81
  ·exact h70.elim
  simp only[j9,PP,Tryz.underlying28,v7] at h70;obtain⟨a79,_,rfl,h77,a80,_,rfl,h78,rfl⟩:=h70;obtain⟨v82,rfl,q83⟩:=yc h77;obtain⟨v84,rfl,q85⟩:=yc h78;obtain⟨l86,rfl,q87,x88⟩:=ahU h71;simp only[j9,PP,Tryz.underlying32,v7] at h72;obtain⟨a96,_,rfl,h89,a97,_,rfl,h90,a98,_,rfl,h91,a99,_,rfl,h92,ate,_,rfl,h93,atf,_,rfl,h94,atg,_,rfl,h95,rfl⟩:=h72;obtain⟨arX,rfl,ath⟩:=Wk h89;obtain⟨v105,rfl⟩:=agU h90;obtain⟨arY,rfl⟩:=adE h91;obtain⟨v107,rfl,ati⟩:=yc h92;obtain⟨v109,rfl,atj⟩:=yc h93;obtain⟨arZ,rfl,atk,x113⟩:=Sf h94;obtain⟨ar0,rfl,atl,ar1⟩:=Wl h95;exact T.bQ v82 v84 l86 arX v105 arY v107 v109 arZ ar0 (by omega) (by omega) (by omega) (λy hy=>by obtain⟨m,hm,ds,hd,rfl⟩:=x88 y hy;exact(ih m (by omega)).1 _ hd) (by omega) (by omega) (by omega) (λy hy=>by obtain⟨m,hm,ds,hd,rfl⟩:=x113 y hy;exact(ih m (by omega)).2.2.1 _ hd) (by omega) (λy hy=>by obtain⟨m,hm,ds,hd,rfl⟩:=ar1 y hy;exact(ih m (by omega)).2.2.2.1 _ hd)
 ·rw[arR];rcases n with _|n125
  ·exact h.elim
  simp only[j9,PP,Tryz.underlying34,v7] at h;obtain⟨atm,_,rfl,ak7,atn,_,rfl,apr,ato,_,rfl,aps,a124,_,rfl,apt,rfl⟩:=h;rcases n125 with _|n130
  ·exact ak7.elim
  simp only[j9,PP,Tryz.underlying28,v7] at ak7;obtain⟨atp,_,rfl,ar2,atq,_,rfl,ar3,rfl⟩:=ak7;obtain⟨v131,rfl,atr⟩:=yc ar2;obtain⟨ar4,rfl,att⟩:=yc ar3;simp only[j9,PP,Tryz.underlying28,v7] at apr;obtain⟨atu,_,rfl,ar5,a138,_,rfl,ar6,rfl⟩:=apr;obtain⟨v139,rfl,atv⟩:=yc ar5;obtain⟨v141,rfl,atw⟩:=yc ar6;simp only[j9,PP,Tryz.underlying28,v7] at aps;obtain⟨a145,_,rfl,ar7,a146,_,rfl,ar8,rfl⟩:=aps;obtain⟨ar9,rfl,atx⟩:=yc ar7;obtain⟨asa,rfl,aty⟩:=yc ar8;simp only[j9,PP,Tryz.underlying32,v7] at apt;obtain⟨atz,_,rfl,asb,a159,_,rfl,asc,a160,_,rfl,ase,atA,_,rfl,asf,a162,_,rfl,asg,atB,_,rfl,ash,a164,_,rfl,asi,rfl⟩:=apt;obtain⟨asj,rfl,atC⟩:=Wk asb;obtain⟨v167,rfl⟩:=agU asc;obtain⟨v168,rfl⟩:=adE ase;obtain⟨asl,rfl,atD⟩:=yc asf;obtain⟨v171,rfl,atE⟩:=yc asg;obtain⟨asm,rfl,atF,asn⟩:=Sf ash;obtain⟨aso,rfl,atG,asq⟩:=Wl asi;exact T.cE v131 ar4 v139 v141 ar9 asa asj v167 v168 asl v171 asm aso (by omega) (by omega) (by omega) (by omega) (by omega) (by omega) (by omega) (by omega) (by omega) (λy hy=>by obtain⟨m,hm,ds,hd,rfl⟩:=asn y hy;exact(ih m (by omega)).2.2.1 _ hd) (by omega) (λy hy=>by obtain⟨m,hm,ds,hd,rfl⟩:=asq y hy;exact(ih m (by omega)).2.2.2.1 _ hd)
 ·rw[apn];obtain⟨asr,rfl,atH,ass⟩:=ak5 h;exact T.Lint asr (by omega) (λy hy=>by obtain⟨m,hm,ds,hd,rfl⟩:=ass y hy;exact(ih m (by omega)).2.2.2.2.2.2.2.2.1 _ hd)
 ·rw[mk3];obtain⟨v182,rfl⟩:=arS h;exact T.int v182
 ·rw[arT];obtain⟨v183,rfl,atI⟩:=Wk h;exact T.jS v183
 ·rw[mk2];obtain⟨ast,rfl⟩:=adE h;exact T.int64 ast
 ·rw[mk4];obtain⟨asu,rfl⟩:=agU h;exact T.bool asu
 ·rw[apo];obtain⟨asv,rfl⟩:=ak6 h;exact T.uint64 asv
 ·rw[arU];obtain⟨asw,rfl,atJ,asx⟩:=ahU h;exact T.fe asw (by omega) (λy hy=>by obtain⟨m,hm,ds,hd,rfl⟩:=asx y hy;exact(ih m (by omega)).1 _ hd)
 ·rw[arV];obtain⟨asy,rfl,atK,asz⟩:=apq h;exact T.aS asy (by omega) (λy hy=>by obtain⟨m,hm,ds,hd,rfl⟩:=asz y hy;exact(ih m (by omega)).2.2.2.2.2.1 _ hd)
 ·rw[arW];obtain⟨asA,rfl,atL,asB⟩:=Wl h;exact T.Ax asA (by omega) (λy hy=>by obtain⟨m,hm,ds,hd,rfl⟩:=asB y hy;exact(ih m (by omega)).2.2.2.1 _ hd)
theorem GX {B:Nat}(hB:B<=4194304){x:Tree}(h:ShT PP B 26 x):T .aD x:=by
 obtain⟨n,ds,_,h1,rfl⟩:=h;exact(UM hB n).2.2.2.2.1 ds h1
theorem K0 {B:Nat}(hB:B<=4194304){x:Tree}(h:ShT PP B 34 x):T .cE x:=by
 obtain⟨n,ds,_,h1,rfl⟩:=h;exact(UM hB n).2.2.2.2.2.2.1 ds h1
theorem K1 {B:Nat}(hB:B<=4194304){x:Tree}(h:ShT PP B 35 x):T .aS x:=by
 obtain⟨n,ds,_,h1,rfl⟩:=h;exact(UM hB n).2.2.2.2.2.2.2.2.2.2.2.2.2.2.1 ds h1
theorem agV (m:Int)(Ts:List Tree)(h:UX PP 1048576 [26,26,34,35] Ts):ai (cf m) 6 (Ts.map .t) [] (.ret (.t (.bool true)) [] []):=by
 match Ts,h with
 | [a,b,y,z],⟨h1,h2,h3,h4,_⟩=>
  have ha:=GX (by decide) h1
  have hb:=GX (by decide) h2
  have hy:=K0 (by decide) h3
  have hz:=K1 (by decide) h4
  obtain⟨_,_,⟨_,hba⟩,_,_⟩:=h1
  obtain⟨_,_,⟨_,hbb⟩,_,_⟩:=h2
  exact adx m (adD m) a b y z ha hb (by omega) (by omega) hy hz
end
end Go.Proofs.YtfdnciimclnncaaGreatDoor.w.e
