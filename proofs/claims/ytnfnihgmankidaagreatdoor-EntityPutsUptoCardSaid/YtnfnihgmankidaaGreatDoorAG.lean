/- Arguments of any kind. -/
import Derived.Test.YtnfnihgmankidaaGreatDoorT
import Derived.Test.YtnfnihgmankidaaGreatDoorH
import Derived.Test.YtnfnihgmankidaaGreatDoorShelf
import Derived.Test.YtnfnihgmankidaaGreatDoorAB
import Derived.Test.YtnfnihgmankidaaGreatDoorAF
import Derived.Test.YtnfnihgmankidaaGreatDoorR
import Derived.Test.YtnfnihgmankidaaGreatDoorJ
import Derived.Below
import Derived.Test.YtnfnihgmankidaaGreatDoorAC
import Derived.Shelf.RegionOpenPlain
import Derived.Deep.RegionLaw
import Derived.Lib.SliceRun
import Derived.Test.YtnfnihgmankidaaGreatDoorAD
set_option linter.unusedVariables false
set_option linter.unusedSimpArgs false
namespace Go.Proofs.YtnfnihgmankidaaGreatDoor.w.e
open Go Go.Abs
set_option maxRecDepth 100000
set_option maxHeartbeats 2000000
noncomputable section
open Go.Abs.Ty
open Go.Proofs.YtnfnihgmankidaaGreatDoor.arg
noncomputable abbrev PP:Program:=Tryz.prog
theorem wf_u8 {k:Int}(h:(Lit.int .u8 k).wf=true):0<=k:=by
 simp only[Lit.wf,Bool.and_eq_true,decide_eq_true_eq] at h;exact h.1
theorem Fm {B n:Nat}{cs:List Tree}(h:jI PP B n 9 cs):∃s,cs=[.str s]/\s.length<=B:=by
 cases n with
 |zero=>exact h.elim
 |succ n=>
  simp only[jI,PP,Tryz.underlying9] at h
  exact h
theorem aiw (cs:List Tree):nc PP 24 cs=.agg cs:=by simp only[nc,PP,Tryz.underlying24]
theorem P3 {B n:Nat}{cs:List Tree}(h:jI PP B n 27 cs):∃l,cs=[.sl l]/\l.length<=B/\∀x∈l,∃m,m<n/\∃ds,jI PP B m 9 ds/\x=nc PP 9 ds:=by
 cases n with
 |zero=>exact h.elim
 |succ n=>
  simp only[jI,PP,Tryz.underlying27] at h
  obtain⟨l,h1,h2,h3⟩:=h
  exact⟨l,h1,h2,λx hx=>by obtain⟨ds,h4,h5⟩:=h3 x hx;exact⟨n,Nat.lt_succ_self n,ds,h4,h5⟩⟩
theorem aix (cs:List Tree):nc PP 27 cs=cs.headD .bT:=by simp only[nc,PP,Tryz.underlying27]
theorem mk9 (cs:List Tree):nc PP 9 cs=cs.headD .bT:=by simp only[nc,PP,Tryz.underlying9]
theorem Wz {B n:Nat}{cs:List Tree}(h:jI PP B n 26 cs):∃k,cs=[.int .u8 k]/\0<=k:=by
 cases n with
 |zero=>exact h.elim
 |succ n=>
  simp only[jI,PP,Tryz.underlying26] at h
  obtain⟨x,h1,h2⟩:=h
  exact⟨x,h1,wf_u8 h2⟩
theorem af7 {B n:Nat}{cs:List Tree}(h:jI PP B n 4 cs):∃b,cs=[.bool b]:=by
 cases n with
 |zero=>exact h.elim
 |succ n=>
  simp only[jI,PP,Tryz.underlying4] at h
  exact h
theorem ZB {B n:Nat}{cs:List Tree}(h:jI PP B n 2 cs):∃k,cs=[.int .i64 k]:=by
 cases n with
 |zero=>exact h.elim
 |succ n=>
  simp only[jI,PP,Tryz.underlying2] at h
  obtain⟨x,h1,_⟩:=h
  exact⟨x,h1⟩
theorem WA {B n:Nat}{cs:List Tree}(h:jI PP B n 28 cs):∃l,cs=[.sl l]/\l.length<=B/\∀x∈l,∃m,m<n/\∃ds,jI PP B m 30 ds/\x=nc PP 30 ds:=by
 cases n with
 |zero=>exact h.elim
 |succ n=>
  simp only[jI,PP,Tryz.underlying28] at h
  obtain⟨l,h1,h2,h3⟩:=h
  exact⟨l,h1,h2,λx hx=>by obtain⟨ds,h4,h5⟩:=h3 x hx;exact⟨n,Nat.lt_succ_self n,ds,h4,h5⟩⟩
theorem aiy (cs:List Tree):nc PP 30 cs=.agg cs:=by simp only[nc,PP,Tryz.underlying30]
theorem af8 {B n:Nat}{cs:List Tree}(h:jI PP B n 92 cs):∃k,cs=[.int .u8 k]/\0<=k:=by
 cases n with
 |zero=>exact h.elim
 |succ n=>
  simp only[jI,PP,Tryz.underlying92] at h
  obtain⟨x,h1,h2⟩:=h
  exact⟨x,h1,wf_u8 h2⟩
theorem af9 {B n:Nat}{cs:List Tree}(h:jI PP B n 93 cs):∃l,cs=[.sl l]/\l.length<=B/\∀x∈l,∃m,m<n/\∃ds,jI PP B m 95 ds/\x=nc PP 95 ds:=by
 cases n with
 |zero=>exact h.elim
 |succ n=>
  simp only[jI,PP,Tryz.underlying93] at h
  obtain⟨l,h1,h2,h3⟩:=h
  exact⟨l,h1,h2,λx hx=>by obtain⟨ds,h4,h5⟩:=h3 x hx;exact⟨n,Nat.lt_succ_self n,ds,h4,h5⟩⟩
theorem aiz (cs:List Tree):nc PP 95 cs=.agg cs:=by simp only[nc,PP,Tryz.underlying95]
theorem aaO {B n:Nat}{cs:List Tree}(h:jI PP B n 25 cs):∃l,cs=[.sl l]/\l.length<=B/\∀x∈l,∃m,m<n/\∃ds,jI PP B m 24 ds/\x=nc PP 24 ds:=by
 cases n with
 |zero=>exact h.elim
 |succ n=>
  simp only[jI,PP,Tryz.underlying25] at h
  obtain⟨l,h1,h2,h3⟩:=h
  exact⟨l,h1,h2,λx hx=>by obtain⟨ds,h4,h5⟩:=h3 x hx;exact⟨n,Nat.lt_succ_self n,ds,h4,h5⟩⟩
theorem aiA (cs:List Tree):nc PP 32 cs=.agg cs:=by simp only[nc,PP,Tryz.underlying32]
theorem acZ {B n:Nat}{cs:List Tree}(h:jI PP B n 178 cs):∃l,cs=[.sl l]/\l.length<=B/\∀x∈l,∃m,m<n/\∃ds,jI PP B m 3 ds/\x=nc PP 3 ds:=by
 cases n with
 |zero=>exact h.elim
 |succ n=>
  simp only[jI,PP,Tryz.underlying178] at h
  obtain⟨l,h1,h2,h3⟩:=h
  exact⟨l,h1,h2,λx hx=>by obtain⟨ds,h4,h5⟩:=h3 x hx;exact⟨n,Nat.lt_succ_self n,ds,h4,h5⟩⟩
theorem aga (cs:List Tree):nc PP 178 cs=cs.headD .bT:=by simp only[nc,PP,Tryz.underlying178]
theorem aiB {B n:Nat}{cs:List Tree}(h:jI PP B n 3 cs):∃k,cs=[.int .i64 k]:=by
 cases n with
 |zero=>exact h.elim
 |succ n=>
  simp only[jI,PP,Tryz.underlying3] at h
  obtain⟨x,h1,_⟩:=h
  exact⟨x,h1⟩
theorem mk3 (cs:List Tree):nc PP 3 cs=cs.headD .bT:=by simp only[nc,PP,Tryz.underlying3]
theorem aiC (cs:List Tree):nc PP 26 cs=cs.headD .bT:=by simp only[nc,PP,Tryz.underlying26]
theorem mk2 (cs:List Tree):nc PP 2 cs=cs.headD .bT:=by simp only[nc,PP,Tryz.underlying2]
theorem aiD (cs:List Tree):nc PP 25 cs=cs.headD .bT:=by simp only[nc,PP,Tryz.underlying25]
theorem agb {B n:Nat}{cs:List Tree}(h:jI PP B n 22 cs):∃l,cs=[.sl l]/\l.length<=B/\∀x∈l,∃m,m<n/\∃ds,jI PP B m 32 ds/\x=nc PP 32 ds:=by
 cases n with
 |zero=>exact h.elim
 |succ n=>
  simp only[jI,PP,Tryz.underlying22] at h
  obtain⟨l,h1,h2,h3⟩:=h
  exact⟨l,h1,h2,λx hx=>by obtain⟨ds,h4,h5⟩:=h3 x hx;exact⟨n,Nat.lt_succ_self n,ds,h4,h5⟩⟩
theorem aiE (cs:List Tree):nc PP 22 cs=cs.headD .bT:=by simp only[nc,PP,Tryz.underlying22]
theorem aiF (cs:List Tree):nc PP 28 cs=cs.headD .bT:=by simp only[nc,PP,Tryz.underlying28]
theorem Ox {B:Nat}(hB:B<=4194304):∀n,(∀cs,jI PP B n 24 cs->T .av (nc PP 24 cs))/\(∀cs,jI PP B n 27 cs->T .CR (nc PP 27 cs))/\(∀cs,jI PP B n 9 cs->T .string (nc PP 9 cs))/\(∀cs,jI PP B n 30 cs->T .aV (nc PP 30 cs))/\(∀cs,jI PP B n 95 cs->T .zV (nc PP 95 cs))/\(∀cs,jI PP B n 32 cs->T .aB (nc PP 32 cs))/\(∀cs,jI PP B n 178 cs->T .Lint (nc PP 178 cs))/\(∀cs,jI PP B n 3 cs->T .int (nc PP 3 cs))/\(∀cs,jI PP B n 26 cs->T .iz (nc PP 26 cs))/\(∀cs,jI PP B n 2 cs->T .int64 (nc PP 2 cs))/\(∀cs,jI PP B n 25 cs->T .cz (nc PP 25 cs))/\(∀cs,jI PP B n 22 cs->T .ah (nc PP 22 cs))/\(∀cs,jI PP B n 28 cs->T .xD (nc PP 28 cs)):=by
 intro n;induction n using Nat.strongRecOn with
 |_ n ih=>
 refine⟨λcs h=> ?_,λcs h=> ?_,λcs h=> ?_,λcs h=> ?_,λcs h=> ?_,λcs h=> ?_,λcs h=> ?_,λcs h=> ?_,λcs h=> ?_,λcs h=> ?_,λcs h=> ?_,λcs h=> ?_,λcs h=> ?_⟩
 ·rw[aiw];rcases n with _|n5
  ·exact h.elim
  simp only[jI,PP,Tryz.underlying24,yI] at h;obtain⟨a3,_,rfl,h1,a4,_,rfl,h2,rfl⟩:=h;obtain⟨v6,rfl,q7⟩:=Fm h1;obtain⟨v8,rfl,q9⟩:=Fm h2;exact T.av v6 v8 (by omega) (by omega)
 ·rw[aix];obtain⟨l10,rfl,q11,x12⟩:=P3 h;exact T.CR l10 (by omega) (λy hy=>by obtain⟨m,hm,ds,hd,rfl⟩:=x12 y hy;exact(ih m (by omega)).2.2.1 _ hd)
 ·rw[mk9];obtain⟨v13,rfl,q14⟩:=Fm h;exact T.string v13 (by omega)
 ·rw[aiy];rcases n with _|n29
  ·exact h.elim
  simp only[jI,PP,Tryz.underlying30,yI] at h;obtain⟨a22,_,rfl,h15,a23,_,rfl,h16,a24,_,rfl,h17,a25,_,rfl,h18,a26,_,rfl,h19,a27,_,rfl,h20,a28,_,rfl,h21,rfl⟩:=h;obtain⟨v30,rfl,q31⟩:=Wz h15;obtain⟨v32,rfl⟩:=af7 h16;obtain⟨v33,rfl⟩:=ZB h17;obtain⟨v34,rfl,q35⟩:=Fm h18;obtain⟨v36,rfl,q37⟩:=Fm h19;obtain⟨l38,rfl,q39,x40⟩:=P3 h20;obtain⟨l41,rfl,q42,x43⟩:=WA h21;exact T.aV v30 v32 v33 v34 v36 l38 l41 (by omega) (by omega) (by omega) (λy hy=>by obtain⟨m,hm,ds,hd,rfl⟩:=x40 y hy;exact(ih m (by omega)).2.2.1 _ hd) (by omega) (λy hy=>by obtain⟨m,hm,ds,hd,rfl⟩:=x43 y hy;exact(ih m (by omega)).2.2.2.1 _ hd)
 ·rw[aiz];rcases n with _|n56
  ·exact h.elim
  simp only[jI,PP,Tryz.underlying95,yI] at h;obtain⟨a50,_,rfl,h44,a51,_,rfl,h45,a52,_,rfl,h46,a53,_,rfl,h47,a54,_,rfl,h48,a55,_,rfl,h49,rfl⟩:=h;obtain⟨v57,rfl,q58⟩:=af8 h44;obtain⟨v59,rfl⟩:=ZB h45;obtain⟨v60,rfl,q61⟩:=Fm h46;obtain⟨v62,rfl,q63⟩:=Fm h47;obtain⟨l64,rfl,q65,x66⟩:=P3 h48;obtain⟨l67,rfl,q68,x69⟩:=af9 h49;exact T.zV v57 v59 v60 v62 l64 l67 q58 (by omega) (by omega) (by omega) (λy hy=>by obtain⟨m,hm,ds,hd,rfl⟩:=x66 y hy;exact(ih m (by omega)).2.2.1 _ hd) (by omega) (λy hy=>by obtain⟨m,hm,ds,hd,rfl⟩:=x69 y hy;exact(ih m (by omega)).2.2.2.2.1 _ hd)
 ·rw[aiA];rcases n with _|n76
  ·exact h.elim
  simp only[jI,PP,Tryz.underlying32,yI] at h;obtain⟨a73,_,rfl,h70,a74,_,rfl,h71,a75,_,rfl,h72,rfl⟩:=h;rcases n76 with _|n81
  ·exact h70.elim
  simp only[jI,PP,Tryz.underlying24,yI] at h70;obtain⟨a79,_,rfl,h77,a80,_,rfl,h78,rfl⟩:=h70;obtain⟨v82,rfl,q83⟩:=Fm h77;obtain⟨v84,rfl,q85⟩:=Fm h78;obtain⟨l86,rfl,q87,x88⟩:=aaO h71;simp only[jI,PP,Tryz.underlying30,yI] at h72;obtain⟨a96,_,rfl,h89,a97,_,rfl,h90,a98,_,rfl,h91,a99,_,rfl,h92,ajK,_,rfl,h93,ajL,_,rfl,h94,ajM,_,rfl,h95,rfl⟩:=h72;obtain⟨aiG,rfl,ajN⟩:=Wz h89;obtain⟨v105,rfl⟩:=af7 h90;obtain⟨aiH,rfl⟩:=ZB h91;obtain⟨v107,rfl,ajO⟩:=Fm h92;obtain⟨v109,rfl,ajP⟩:=Fm h93;obtain⟨aiI,rfl,ajQ,x113⟩:=P3 h94;obtain⟨aiJ,rfl,ajR,aiK⟩:=WA h95;exact T.aB v82 v84 l86 aiG v105 aiH v107 v109 aiI aiJ (by omega) (by omega) (by omega) (λy hy=>by obtain⟨m,hm,ds,hd,rfl⟩:=x88 y hy;exact(ih m (by omega)).1 _ hd) (by omega) (by omega) (by omega) (λy hy=>by obtain⟨m,hm,ds,hd,rfl⟩:=x113 y hy;exact(ih m (by omega)).2.2.1 _ hd) (by omega) (λy hy=>by obtain⟨m,hm,ds,hd,rfl⟩:=aiK y hy;exact(ih m (by omega)).2.2.2.1 _ hd)
 ·rw[aga];obtain⟨aiL,rfl,ajS,aiM⟩:=acZ h;exact T.Lint aiL (by omega) (λy hy=>by obtain⟨m,hm,ds,hd,rfl⟩:=aiM y hy;exact(ih m (by omega)).2.2.2.2.2.2.2.1 _ hd)
 ·rw[mk3];obtain⟨aiN,rfl⟩:=aiB h;exact T.int aiN
 ·rw[aiC];obtain⟨aiO,rfl,ajT⟩:=Wz h;exact T.iz aiO
 ·rw[mk2];obtain⟨aiP,rfl⟩:=ZB h;exact T.int64 aiP
 ·rw[aiD];obtain⟨aiQ,rfl,ajU,aiR⟩:=aaO h;exact T.cz aiQ (by omega) (λy hy=>by obtain⟨m,hm,ds,hd,rfl⟩:=aiR y hy;exact(ih m (by omega)).1 _ hd)
 ·rw[aiE];obtain⟨aiS,rfl,ajV,aiT⟩:=agb h;exact T.ah aiS (by omega) (λy hy=>by obtain⟨m,hm,ds,hd,rfl⟩:=aiT y hy;exact(ih m (by omega)).2.2.2.2.2.1 _ hd)
 ·rw[aiF];obtain⟨aiU,rfl,ajW,aiV⟩:=WA h;exact T.xD aiU (by omega) (λy hy=>by obtain⟨m,hm,ds,hd,rfl⟩:=aiV y hy;exact(ih m (by omega)).2.2.2.1 _ hd)
theorem Oy {B:Nat}(hB:B<=4194304){x:Tree}(h:ShT PP B 24 x):T .av x:=by
 obtain⟨n,ds,_,h1,rfl⟩:=h;exact(Ox hB n).1 ds h1
theorem F2 {B:Nat}(hB:B<=4194304){x:Tree}(h:ShT PP B 32 x):T .aB x:=by
 obtain⟨n,ds,_,h1,rfl⟩:=h;exact(Ox hB n).2.2.2.2.2.1 ds h1
theorem Fo {B:Nat}(hB:B<=4194304){x:Tree}(h:ShT PP B 22 x):T .ah x:=by
 obtain⟨n,ds,_,h1,rfl⟩:=h;exact(Ox hB n).2.2.2.2.2.2.2.2.2.2.2.1 ds h1
end
end Go.Proofs.YtnfnihgmankidaaGreatDoor.w.e
noncomputable section
namespace Go.Abs
open Go Go.RowKit
theorem RU {G:Gh}{w w':World}(hw:WF G w)(hb:Below w.heap.size w w'):Step (λ_=>False) (λ_=>False) G w G w':=by
 refine⟨.refl G,⟨λb o v hf=> ?_,hw.inj,λk d=>Nat.lt_of_lt_of_le (hw.lt k d) hb.size⟩,λ_ _ _=>⟨rfl,rfl⟩,λb hlt _=>⟨hb.block b hlt,λ_=>rfl⟩,λ_ d=>.inl d,λk d=>.inl ⟨k,d,rfl,.inl rfl⟩,hb.size,hb.os,hb.tape,hb.output⟩;obtain⟨us,ty,fr,h1,h2⟩:=hw.F b o v hf;exact⟨us,ty,fr,by rw[hb.block b (Array.getElem?_eq_some_iff.1 h1).1];exact h1,h2⟩
def Gh.ZC (G:Gh)(b n:Nat)(us:Array Value):Gh:={F:=λb' o=>if b'=b then(if o<n then us[o]? else none) else G.F b' o,mu:=G.mu,arr:=λ_=>none,dom:=λ_=>False}
theorem borrow {C:cE}{g:FuncId}{l:List Tree}{K ty:Nat}{ag:Bool}{rest:List Tree}{r:Tree}(hu:dU ag K l)(hK:0<K)(hl:l≠ [])(hsc:∀F F' v,VT F r v->VT F' r v)
 (h:aq C g (.t (.sl l)::rest.map .t) [] (.ret (.t r) [] [])):aq C g (.ref (.arg 0) 0 l.length::rest.map .t) [.arr (ty,ag) K false ((flat l).map .t)] (.ret (.t r) [.arr (ty,ag) K false ((flat l).map .t)] []):=by
 intro G w vs hw hg had hH hv
 obtain⟨x,xs,rfl,hx,JZ⟩:=hv.fQ
 obtain⟨hd,ho⟩:=hH (.arg 0) _ rfl
 obtain⟨_,cap,us,ty',fr,ha,hh,mX,hsz,hcl,ko,hF⟩:=ho
 have hpos:0<l.length:=by cases l with|nil=>exact absurd rfl hl|cons=>simp
 have Zs:((flat l).map TV.t).length=l.length*K:=by rw[hu.length]
 rw[Zs] at ha hcl ko
 have hcap:l.length<=cap:=by
  have:l.length*K<=cap*K:=by rw[← hsz];exact hcl
  exact Nat.le_of_mul_le_mul_right this hK
 obtain rfl:x=.slice (some ⟨G.mu (.arg 0),0,none⟩) l.length cap:=by
  cases hx with
  | ref k off len n' bD cap' v hd' og hle' ho' vz=>
    rw[ha] at og;cases og
    obtain⟨a,rfl,h2⟩:=vz (by rw[Nat.zero_add])
    have:=h2 (by omega)
    subst this
    simp
 obtain⟨b,hb⟩:∃b,b=G.mu (.arg 0):=⟨_,rfl⟩
 rw[← hb] at hh hF
 have hF0:∀q,G.F b q=none:=λq=>hF q (.inl rfl)
 obtain⟨G1,SV⟩:∃G1,G1=G.ZC b (l.length*K) us:=⟨_,rfl⟩
 have hle:∀b' o v,G.F b' o=some v->G1.F b' o=some v:=λb' o v e=>by
  rw[SV];simp only[Gh.ZC];by_cases q:b'=b
  ·rw[q,hF0] at e;cases e
  ·rw[if_neg q];exact e
 have hw1:WF G1 w:=by
  refine⟨λb' o v e=> ?_,λk k' d=>by rw[SV] at d;exact d.elim,λk d=>by rw[SV] at d;exact d.elim⟩;rw[SV] at e;simp only[Gh.ZC] at e;by_cases q:b'=b
  ·rw[if_pos q] at e;split at e
   ·subst q;exact⟨us,ty',fr,hh,e⟩
   ·cases e
  ·rw[if_neg q] at e;exact hw.F _ _ _ e
 have hg1:jO C G1:=λg' cs hcs=>by
  obtain⟨vals,h1,h2⟩:=hg g' cs hcs;exact⟨vals,λj c hj=>hle _ _ _ (h1 j c hj),λj c hj=>(h2 j c hj).mono hle⟩
 have hlen:(flat l).length=l.length*K:=by simpa using Zs
 have hcell:∀j,j<l.length*K->us[j]?=some (us[j]?.getD undef):=λj hj=>by
  have hlt:j<us.size:=by omega
  simp[hlt]
 have aiW:VT G1.F (.sl l) (.slice (some ⟨b,0,none⟩) l.length cap):=by
  refine .sl K l b 0 cap (λj=>us[j]?.getD undef) hl hcap hu.lens (λj c hj=> ?_) (λj c hj=> ?_)
  ·have hjl:j<l.length*K:=by rw[← hlen];exact(List.getElem?_eq_some_iff.1 hj).1
   rw[SV];simp only[Gh.ZC,Nat.zero_add,if_true];rw[if_pos hjl];exact hcell j hjl
  ·have hjl:j<l.length*K:=by rw[← hlen];exact(List.getElem?_eq_some_iff.1 hj).1
   have h1:=ko.2 j (.t c) (us[j]?.getD undef) (by rw[List.getElem?_map,hj];rfl) (by rw[List.getElem?_take_of_lt hjl,Array.getElem?_toList];exact hcell j hjl);cases h1 with
   |t _ _ h1=>exact h1.mono hle
 have Bc:cB G1 (.t (.sl l)::rest.map .t) (.slice (some ⟨b,0,none⟩) l.length cap::xs):=by
  refine⟨by simpa using hv.1,λj c u hc kj=> ?_⟩;cases j with
  |zero=>cases hc;cases kj;exact .t _ _ aiW
  | succ j=>
    have h1:=JZ.2 j c u hc kj
    simp only[List.getElem?_cons_succ,List.getElem?_map,Option.map_eq_some_iff] at hc
    obtain⟨y,_,rfl⟩:=hc
    cases h1 with
    |t _ _ h1=>exact .t _ _ (h1.mono hle)
 have hpost:∀e w',sL G1 w 0 (.ret (.t r) [] []) e w'->sL G w 1 (.ret (.t r) [.arr (ty,ag) K false ((flat l).map .t)] []) e w':=by
  rintro e w' ⟨v,G2,rfl,st,_,_,_,hx2⟩;have hbw:Below w.heap.size w w':=⟨st.os,st.tape,st.output,st.size,λk hk=>(st.blocks k hk (λk' _ d=>by rw[SV] at d;exact d.elim)).1⟩;have hst:=RU hw hbw;refine⟨v,G,rfl,hst.mono (λ_ _ h=>h.elim) (λ_ h=>h.elim),rfl,λi o ho=> ?_,λ_ _ h=>by simp at h, ?_⟩
  ·obtain⟨d,J6⟩:=gG hH i o ho;exact⟨d,hst.keeps hw d (λh=>h) J6⟩
  ·cases hx2 with
   |t _ _ h1=>exact .t _ _ (hsc _ _ _ h1)
 rw[← hb]
 rcases h G1 w _ hw1 hg1 ⟨λi hi=>by simp at hi,λp d=>by rw[SV] at d;exact d⟩ (λk o hk=>by simp[bX,Heap.get] at hk) Bc with ⟨Io,hc⟩|⟨v,w',hr,hp⟩
 ·exact .inl ⟨Io,Calls.mono hc λe w' h=>hpost e w' h⟩
 ·exact .inr ⟨v,w',hr,hpost _ _ hp⟩
theorem RV {k:IntKind}{n:Int}{b:Bool}:∀F F' v,VT F (.cv [.int k n,.bool b]) v->VT F' (.cv [.int k n,.bool b]) v:=by
 intro F F' v h;cases h with
 |cv cs vs hl h=>
  refine .cv _ _ hl λj c v hc hv=> ?_
  have h1:=h j c v hc hv
  match j with
  |0=>cases hc;cases h1;exact .int _ _
  |1=>cases hc;cases h1;exact .bool _
  |j+2=>cases hc
theorem ZD {C:cE}{fn:Func}{st:St}{o len:Nat}{g:TypeId×Bool}{bD:Nat}{fz:Bool}{ts:List Tree}(hr:iP C st fn.results.toList=some [.ref (.arg 0) o len])(hk:st.H.get (.arg 0)=some (.arr g bD fz (ts.map .t))):
 pZ C fn 1 st=some (.ret (.ref (.arg 0) o len) [.arr g bD fz (ts.map .t)] []):=by
 unfold pZ
 simp only[hr,nj,hk,u7,TV.names,List.flatMap_cons,List.flatMap_nil,aO.names,ot,List.append_nil]
 rw[show eB=3998+2 from rfl,GB hk]
 simp[jY,Nm.dS]
theorem WB {G:Gh}{v:Value}(h:VR G .cc v):VR G (.jS []) v:=by
 cases h;exact .jS [] none (.AO none 0)
theorem BG {C:cE}{g:FuncId}{xa:List TV}{os os':List aO}{vs:List Tree}{v:TV}{news:Heap}{K ty:Nat}{ag:Bool}(hu:dU ag K vs)(hK:0<K)(hl:os'.length=os.length)
 (h:aq C g (xa++[.t (.sl vs)]) os (.ret v os' news)):aq C g (xa++[.ref (.arg os.length) 0 vs.length]) (os++[.arr (ty,ag) K false ((flat vs).map .t)]) (.ret v (os'++[.dead]) news):=by
 intro G w xs hw hg had hH hv
 obtain⟨H,hHd⟩:∃H,H=bX 0 (os++[.arr (ty,ag) K false ((flat vs).map .t)]):=⟨_,rfl⟩
 rw[← hHd] at hH
 have Ta:∀i o,(os++[.arr (ty,ag) K false ((flat vs).map .t)])[i]?=some o->H.get (.arg i)=some o:=λi o hi=>by
  have:=DO _ 0 i o hi;rw[Nat.zero_add] at this;rw[hHd];exact this
 have agc:H.get (.arg os.length)=some (.arr (ty,ag) K false ((flat vs).map .t)):=Ta _ _ (by simp)
 obtain⟨Gf,hGf⟩:∃Gf,Gf=G.frozen w H [.arg os.length]:=⟨_,rfl⟩
 have hst:=iu hw hH [.arg os.length]
 rw[← hGf] at hst
 have hdom:∀k,Gf.dom k↔G.dom k:=λk=>by rw[hGf];exact Iff.rfl
 have hf:pQ H fL (.ref (.arg os.length) 0 vs.length)=some (.sl vs,[.arg os.length]):=Ku agc hu hK rfl rfl
 have XN:cB Gf (xa++[.t (.sl vs)]) xs:=by
  refine⟨by have:=hv.1;simpa using this,λj c u hc kj=> ?_⟩;rcases Nat.lt_or_ge j xa.length with hj|hj
  ·rw[List.getElem?_append_left hj] at hc;exact(hv.2 j c u (by rw[List.getElem?_append_left hj];exact hc) kj).mono hst.le
  ·rw[List.getElem?_append_right hj] at hc;have h1:=hv.2 j (.ref (.arg os.length) 0 vs.length) u (by
    rw[List.getElem?_append_right hj];cases hq:j - xa.length with
    |zero=>rfl
    |succ q=>rw[hq] at hc;simp at hc) kj
   have:c=.t (.sl vs):=by
    cases hq:j - xa.length with
    |zero=>rw[hq] at hc;simpa using hc.symm
    |succ q=>rw[hq] at hc;simp at hc
   subst this;have h2:=AY hw hH [.arg os.length] fL _ _ _ _ hf (λ_ hk=>hk) h1;rw[hGf];exact .t _ _ h2
 have hH2:HR Gf w (bX 0 os):=λk o hk=>by
  obtain⟨j,rfl,hj⟩:=vV hk;simp only[Nat.zero_add] at*;have hjl:j<os.length:=(List.getElem?_eq_some_iff.1 hj).1;obtain⟨d,ho⟩:=hH (.arg j) o (Ta j o (by rw[List.getElem?_append_left hjl];exact hj));refine⟨(hdom _).2 d,hst.keeps hw d (λhW=> ?_) ho⟩;have:=List.mem_singleton.1 hW.1;injection this with this;omega
 have hn:(os++[aO.arr (ty,ag) K false ((flat vs).map .t)]).length=os.length+1:=by simp
 have abf:yD Gf os.length:=⟨λi hi=>(hdom _).2 (had.1 i (by rw[hn];omega)),λp d=>had.2 p ((hdom _).1 d)⟩
 have hpost:∀e w',sL Gf w os.length (.ret v os' news) e w'->sL G w (os++[aO.arr (ty,ag) K false ((flat vs).map .t)]).length (.ret v (os'++[.dead]) news) e w':=by
  rintro e w' ⟨x,G2,rfl,st,hlen,h1,h2,h3⟩;refine⟨x,G2,rfl,(hst.trans st).mono (W':=λ_=>True) (N':=λk=>k.dS=true) (λ_ _ _=>trivial) (λ_ h=>by rcases h with h|h;exact h.elim;exact h),by simp[hlen],λi o ho=> ?_,h2,h3⟩;rcases Nat.lt_or_ge i os'.length with hi|hi
  ·rw[List.getElem?_append_left hi] at ho;exact h1 i o ho
  ·rw[List.getElem?_append_right hi] at ho;cases hq:i - os'.length with
   | zero=>
     rw[hq] at ho
     have e1:aO.dead=o:=by simpa using ho
     subst e1
     have e2:i=os.length:=by omega
     subst e2
     exact⟨st.le.dom _ ((hdom _).2 (had.1 _ (by rw[hn];omega))),trivial⟩
   |succ q=>rw[hq] at ho;simp at ho
 rcases h Gf w xs hst.wf (hg.mono hst.le) abf hH2 XN with ⟨Io,hc⟩|⟨x,w',hr,hp⟩
 ·exact .inl ⟨Io,Calls.mono hc λe w' h=>hpost e w' h⟩
 ·exact .inr ⟨x,w',hr,hpost _ _ hp⟩
end Go.Abs
end
namespace Go.Proofs.YtnfnihgmankidaaGreatDoor.w
open Go Go.Abs Go.RowKit Go.Shelf Go.Lib
set_option maxRecDepth 100000
theorem Oz:∃i0 z,Tryz.prog.info? 32=some i0/\i0.zero=some z/\i0.size=10/\i0.bytes=152/\z.cells.size=10:=⟨_,_,rfl,rfl,rfl,rfl,rfl⟩
theorem ac0 (w:World):(Go.sizeOf 32).run Tryz.prog w=.ok 10 w:=by
 obtain⟨i0,z,h1,h2,h3,_⟩:=Oz;simp[Go.sizeOf,Go.typeInfo,h1,h3]
theorem aiX {w:World}{vb vo b o la ca lb cb:Nat}{Y X:Array Value}{Wf ty:TypeId}{Zr:Nat×Nat}(hne:vb≠b)(hY:w.heap[vb]?=some (.cells Y Wf Zr))(hX:w.heap[b]?=some (.cells X ty (0,0)))(h0:X.size≠0)(hY0:Y.size≠0):
 (callFunc 74 #[.slice (some ⟨vb,vo,none⟩) la ca,.slice (some ⟨b,o,none⟩) lb cb]).run Tryz.prog w=.ok (.value (.bool false)) w:=by
 rw[run_callFunc_extern Tryz.func74 (by kernel_rfl) (by kernel_rfl) (by kernel_rfl) (e:=Extern.SlicesOverlaps.overlaps #[22,22] #[4]) (by kernel_rfl),
  Cf (P:=Tryz.prog) Tryz.underlying22 (size:=10) ac0 hne (tA:=Wf) (kA:=Y.size) (tB:=ty) (kB:=X.size) (by simp[World.shape?,hY]) (by simp[World.shape?,hX]) hY0 h0 (λq=>acG hX)]
 rfl
set_option maxHeartbeats 4000000 in
theorem ac1 {w:World}{b vb vo n c i m vc:Nat}{X V:List Value}{Y:Array Value}{ty Wf:TypeId}{Zr:Nat×Nat}(hi:i<n)(hm:0<m)(hroom:n+m<=c)(hbig:n+m<=16777216)(hvb:vb≠b)
 (hX:w.heap[b]?=some (.cells X.toArray ty (0,0)))(pg:X.length=c*10)(hY:w.heap[vb]?=some (.cells Y Wf Zr))
 (hV:∀j v,V[j]?=some v->w.cell? ⟨vb,vo+j,none⟩=some v)(AK:V.length=m*10)(L7:∀v∈X.take (n*10),Go.Abs.one v=true)(RG:∀v∈V,Go.Abs.one v=true):
 Calls Tryz.prog 32 #[.slice (some ⟨b,0,none⟩) n c,.int .i64 (i:Int),.slice (some ⟨vb,vo,none⟩) m vc] w λe w'=>
  e=.returned (.slice (some ⟨b,0,none⟩) (n+m) c)/\w'=World.aS w.drew b (over (over X ((i+m) *10) ((X.drop (i*10)).take ((n - i) *10))) (i*10) V).toArray ty (0,0):=by
 have hX0:X.toArray.size≠0:=by simp;intro e;rw[e] at pg;simp at pg;omega
 have hY0:Y.size≠0:=λe=>by
  have h:=hV 0 _ (List.getElem?_eq_getElem (by omega));rw[mV hY] at h;have:=(Array.getElem?_eq_some_iff.1 h).1;omega
 have Qo:∀o la ca lb cb,(callFunc 74 #[.slice (some ⟨vb,vo,none⟩) la ca,.slice (some ⟨b,o,none⟩) lb cb]).run Tryz.prog w=.ok (.value (.bool false)) w:=λo la ca lb cb=>aiX hvb hY hX hX0 hY0
 have hz1:¬((m:Int)=0):=by omega
 have C7:¬((i:Int)=(n:Int)):=by omega
 have hw1:IntKind.i64.wrap ((i:Int)+(m:Int))=(i:Int)+(m:Int):=by rw[IntKind.wrap_i64];omega
 have hw2:IntKind.i64.wrap ((n:Int)+(m:Int))=(n:Int)+(m:Int):=by rw[IntKind.wrap_i64];omega
 have hb1:(0:Int)<=(i:Int)+(m:Int):=by omega
 have hb5:(0:Int)<=(n:Int)+(m:Int):=by omega
 have hin:i<=n:=by omega
 have htn:((i:Int)+(m:Int)).toNat=i+m:=by omega
 have aih:((n:Int)+(m:Int)).toNat=n+m:=by omega
 have hb2:¬(c=i+m):=by omega
 have hb3:(i:Int)<=(n:Int)+(m:Int):=by omega
 have hb4:¬(c=i):=by omega
 have hgt:¬((c:Int)<(n:Int)+(m:Int)):=by omega
 have mixed:Tryz.prog.follows .mixedOrders=true:=by kernel_rfl
 have hs:(Tryz.prog.info? 32).map (·.size)=some 10:=by
  obtain⟨i0,z,h1,h2,h3,_⟩:=Oz;rw[h1,Option.map_some,h3]
 obtain⟨us,ko⟩:∃us,us=(X.drop (i*10)).take ((n - i) *10):=⟨_,rfl⟩
 have q6:us.length=(n - i) *10:=by rw[ko,List.length_take,List.length_drop,pg];omega
 have hmin:Nat.min (n+m - i) (n+m - (i+m))=n - i:=by simp only[Nat.min_def];split<;>omega
 have ve:Nat.min m (n+m - i)=m:=by simp only[Nat.min_def];split<;>omega
 have Jx:∀j v,us[j]?=some v->X[i*10+j]?=some v:=λj v h=>by
  rw[ko,List.getElem?_take] at h;split at h
  ·rwa [List.getElem?_drop] at h
  ·cases h
 have xT:∀v∈us,Go.Abs.one v=true:=λv h=>by
  refine L7 v ?_;rw[ko] at h;obtain⟨j,hj⟩:=List.getElem?_of_mem h;rw[List.getElem?_take] at hj;split at hj
  ·rw[List.getElem?_drop] at hj;exact List.mem_of_getElem? (i:=i*10+j) (by rw[List.getElem?_take,if_pos (by omega)];exact hj)
  ·cases hj
 obtain⟨X1,hX1⟩:∃X1,X1=over X ((i+m) *10) us:=⟨_,rfl⟩
 have Wg:X1.length=c*10:=by rw[hX1,bK (by rw[q6,pg];omega),pg]
 have acJ:∀ty' dc sc,(Builtin.copy_ #[22,22] ty' #[.slice (some ⟨b,(i+m) *10,none⟩) (n+m - (i+m)) dc,.slice (some ⟨b,i*10,none⟩) (n+m - i) sc]).run Tryz.prog w.drew=.ok (goInt ((n - i:Nat):Int)) (World.aS w.drew b X1.toArray ty (0,0)):=λty' dc sc=>by
  have h:=lI (P:=Tryz.prog) (w:=w.drew) (dT:=22) (sT:=22) (Zq:=ty') (b:=b) (o:=(i+m) *10) (sb:=b) (so:=i*10) (dLen:=n+m - (i+m)) (dCap:=dc) (sLen:=n+m - i) (sCap:=sc) (us:=us) (X:=X) (ty:=ty) (fr:=(0,0)) Tryz.underlying22 hs (by rw[hmin,q6]) (λj v h=>(mV (w:=w.drew) hX _).trans (by simpa using Jx j v h)) hX (λo _ h=>by omega) (by rw[q6,pg];omega) xT;rw[hmin,← hX1] at h;exact h
 have Qn:b<w.drew.heap.size:=(Array.getElem?_eq_some_iff.1 hX).1
 have aii:∀ty' dc,(Builtin.copy_ #[22,22] ty' #[.slice (some ⟨b,i*10,none⟩) (n+m - i) dc,.slice (some ⟨vb,vo,none⟩) m vc]).run Tryz.prog (World.aS w.drew b X1.toArray ty (0,0))=.ok (goInt ((m:Nat):Int)) (World.aS w.drew b (over X1 (i*10) V).toArray ty (0,0)):=λty' dc=>by
  have h:=lI (P:=Tryz.prog) (w:=World.aS w.drew b X1.toArray ty (0,0)) (dT:=22) (sT:=22) (Zq:=ty') (b:=b) (o:=i*10) (sb:=vb) (so:=vo) (dLen:=n+m - i) (dCap:=dc) (sLen:=m) (sCap:=vc) (us:=V) (X:=X1) (ty:=ty) (fr:=(0,0)) Tryz.underlying22 hs (by rw[ve,AK]) (λj v h=>by rw[Fh (λe=>hvb e.symm)];exact hV j v h) (bH Qn _ _ _) (λo _ h=>by omega) (by rw[AK,Wg];omega) RG;rw[ve,gZ] at h;exact h
 rw[← ko,← hX1]
 clear ko hX1
 go_enter Tryz.func32,Tryz.ntmps32
 go_wp2_with (simp only[Qo])
 go_region_law_o (refine step_copy_runI rfl _ _ 22 22 rfl _ _ (by simp[Act.eval,Act.put]) (by simp[Act.eval,Act.put]) (acJ _ _ _) ?_)
 go_wp2
 go_ret
 exact⟨rfl,rfl⟩
theorem aiY (z:Array Value):∀n,(Builtin.zeroCells z n).size=n*z.size:=by
 intro n;simp[Builtin.zeroCells]
set_option maxHeartbeats 4000000 in
theorem ac2 {w:World}{b vb vo n c i m vc:Nat}{X V:List Value}{ty:TypeId}(hi:i<n)(hm:0<m)(hnc:n<=c)(hroom:c<n+m)(hbig:n+m<=16777216)
 (hX:w.heap[b]?=some (.cells X.toArray ty (0,0)))(pg:X.length=c*10)(hvw:vb<w.heap.size)
 (hV:∀j v,V[j]?=some v->w.cell? ⟨vb,vo+j,none⟩=some v)(AK:V.length=m*10)(L7:∀v∈X.take (n*10),Go.Abs.one v=true)(RG:∀v∈V,Go.Abs.one v=true):
 ∃ (G:Nat) (R:List Value),n+m<=G/\R.length=(G - i) *10/\Calls Tryz.prog 32 #[.slice (some ⟨b,0,none⟩) n c,.int .i64 (i:Int),.slice (some ⟨vb,vo,none⟩) m vc] w λe w'=>
  e=.returned (.slice (some ⟨w.heap.size,0,none⟩) (n+m) G)/\w'=World.aS (World.ck w.drew (.cells (X.take (i*10)++R).toArray 32)).drew w.heap.size (over (over (X.take (i*10)++R) (i*10) V) ((i+m) *10) ((X.drop (i*10)).take ((n - i) *10))).toArray 32 (0,0):=by
 obtain⟨i0,z,hi0,hz0,hzs,hzb,hzl⟩:=Oz
 have mixed:Tryz.prog.follows .mixedOrders=true:=by kernel_rfl
 have hs:(Tryz.prog.info? 32).map (·.size)=some 10:=by rw[hi0,Option.map_some,hzs]
 obtain⟨G,hG⟩:∃G,G=grownCap w (n+m) c 32:=⟨_,rfl⟩
 have hGn:n+m<=G:=by rw[hG];exact grownCap_ge w _ _ _
 have aik:G<=9223372036854775807:=by
  have:=grownCap_le_maxLen w (n+m) c 32 (by unfold maxLen;omega);rw[← hG] at this;unfold maxLen at this;omega
 obtain⟨R,hR⟩:∃R,R=(Builtin.zeroCells z.cells (n+m - i)).toList++(Builtin.zeroCells z.cells (G - (n+m))).toList:=⟨_,rfl⟩
 have Se:R.length=(G - i) *10:=by
  rw[hR];simp only[List.length_append,Array.length_toList,aiY,hzl];omega
 refine⟨G,R,hGn,Se, ?_⟩
 have hik:i+(n+m - i)=n+m:=by omega
 have hkk:(n:Int)+(m:Int) - (i:Int)=((n+m - i:Nat):Int):=by omega
 have htl:(X.take (i*10)).length=i*10:=by rw[List.length_take];omega
 have hold:(Builtin.firstCells i0.size i (.slice (some ⟨b,0,none⟩) i c)).run Tryz.prog w.drew=.ok (X.take (i*10)).toArray w.drew:=by
  have h:=run_loadCells_list (P:=Tryz.prog) (w:=w.drew) ⟨b,0,none⟩ (X.take (i*10)) (λj v h=>by
   rw[xP,Nat.zero_add];refine(mV (w:=w.drew) hX _).trans ?_;rw[List.getElem?_take] at h;split at h
   ·simpa using h
   ·cases h)
  rw[htl] at h;rw[hzs];exact h
 obtain⟨P1,L8⟩:∃P1,P1=X.take (i*10)++R:=⟨_,rfl⟩
 have hPl:P1.length=G*10:=by rw[L8,List.length_append,htl,Se];omega
 have hrz:∀ty',(Builtin.append_ #[22,3] ty' #[.slice (some ⟨b,0,none⟩) i c,.int .i64 ((n:Int)+(m:Int) - (i:Int))]).run Tryz.prog w=
  .ok (.slice (some ⟨w.heap.size,0,none⟩) (n+m) G) (World.ck w.drew (.cells P1.toArray 32)):=λty'=>by
  have h:=Lib.run_append_grow_zeros (P:=Tryz.prog) w 22 3 ty' 32 i0 z .i64 .i64 Tryz.underlying22 Tryz.underlying3 hi0 hz0 (some ⟨b,0,none⟩) i c (X.take (i*10)) hold (n+m - i) (by omega) (by rw[hzs];omega) (by omega) (by omega) (by rw[hzb];omega) (by
   rw[hzb,hik];have:=Go.Abs.nextslicecap_le (n:=n+m) (c:=c) hroom;omega)
  rw[hik,← hG] at h
  rw[hkk,h]
  have e:(X.take (i*10)).toArray++Builtin.zeroCells z.cells (n+m - i)++Builtin.zeroCells z.cells (G - (n+m))=P1.toArray:=by
   apply Array.toList_inj.1;rw[L8,hR];simp
  rw[e]
  rfl
 obtain⟨us,ko⟩:∃us,us=(X.drop (i*10)).take ((n - i) *10):=⟨_,rfl⟩
 have q6:us.length=(n - i) *10:=by rw[ko,List.length_take,List.length_drop,pg];omega
 have hmin:Nat.min (n - i) (n+m - (i+m))=n - i:=by simp only[Nat.min_def];split<;>omega
 have ve:Nat.min m (n+m - i)=m:=by simp only[Nat.min_def];split<;>omega
 have Jx:∀j v,us[j]?=some v->X[i*10+j]?=some v:=λj v h=>by
  rw[ko,List.getElem?_take] at h;split at h
  ·rwa [List.getElem?_drop] at h
  ·cases h
 have xT:∀v∈us,Go.Abs.one v=true:=λv h=>by
  refine L7 v ?_;rw[ko] at h;obtain⟨j,hj⟩:=List.getElem?_of_mem h;rw[List.getElem?_take] at hj;split at hj
  ·rw[List.getElem?_drop] at hj;exact List.mem_of_getElem? (i:=i*10+j) (by rw[List.getElem?_take,if_pos (by omega)];exact hj)
  ·cases hj
 obtain⟨X2,FZ⟩:∃X2,X2=over P1 (i*10) V:=⟨_,rfl⟩
 have acL:X2.length=G*10:=by rw[FZ,bK (by rw[AK,hPl];omega),hPl]
 obtain⟨W1,hW1⟩:∃W1,W1=World.ck w.drew (.cells P1.toArray 32):=⟨_,rfl⟩
 have hN1:W1.heap[w.heap.size]?=some (.cells P1.toArray 32):=by rw[hW1];exact iJ w.drew _
 have acM:w.heap.size<W1.heap.size:=(Array.getElem?_eq_some_iff.1 hN1).1
 have L9:∀c,c<w.heap.size->W1.heap[c]?=w.heap[c]?:=λc hc=>by rw[hW1];exact jZ (w:=w.drew) hc
 have hbw:b<w.heap.size:=(Array.getElem?_eq_some_iff.1 hX).1
 have acN:∀ty' dc,(Builtin.copy_ #[22,22] ty' #[.slice (some ⟨w.heap.size,i*10,none⟩) (n+m - i) dc,.slice (some ⟨vb,vo,none⟩) m vc]).run Tryz.prog W1=.ok (goInt ((m:Nat):Int)) (World.aS W1 w.heap.size X2.toArray 32 (0,0)):=λty' dc=>by
  have h:=lI (P:=Tryz.prog) (w:=W1) (dT:=22) (sT:=22) (Zq:=ty') (b:=w.heap.size) (o:=i*10) (sb:=vb) (so:=vo) (dLen:=n+m - i) (dCap:=dc) (sLen:=m) (sCap:=vc) (us:=V) (X:=P1) (ty:=32) (fr:=(0,0)) Tryz.underlying22 hs (by rw[ve,AK]) (λj v h=>by have h9:=hV j v h;simp only[World.cell?,L9 vb hvw] at h9 ⊢;exact h9) hN1 (λo _ h=>by omega) (by rw[AK,hPl];omega) RG;rw[ve,← FZ] at h;exact h
 have Wh:∀(W:World),W.heap=(World.aS W1 w.heap.size X2.toArray 32 (0,0)).heap->∀ty' dc sc,(Builtin.copy_ #[22,22] ty' #[.slice (some ⟨w.heap.size,(i+m) *10,none⟩) (n+m - (i+m)) dc,.slice (some ⟨b,i*10,none⟩) (n - i) sc]).run Tryz.prog W=.ok (goInt ((n - i:Nat):Int)) (World.aS W w.heap.size (over X2 ((i+m) *10) us).toArray 32 (0,0)):=λW hW ty' dc sc=>by
  have h:=lI (P:=Tryz.prog) (w:=W) (dT:=22) (sT:=22) (Zq:=ty') (b:=w.heap.size) (o:=(i+m) *10) (sb:=b) (so:=i*10) (dLen:=n+m - (i+m)) (dCap:=dc) (sLen:=n - i) (sCap:=sc) (us:=us) (X:=X2) (ty:=32) (fr:=(0,0)) Tryz.underlying22 hs (by rw[hmin,q6]) (λj v h=>by
   have h9:W.heap[b]?=some (.cells X.toArray ty (0,0)):=by rw[hW,gp (Nat.ne_of_gt hbw),L9 b hbw];exact hX
   exact(mV h9 _).trans (by simpa using Jx j v h)) (by rw[hW];exact bH acM _ _ _) (λo _ h=>by omega) (by rw[q6,acL];omega) xT
  rw[hmin] at h;exact h
 rw[← ko,← L8,← FZ]
 subst hW1
 have hz1:¬((m:Int)=0):=by omega
 have C7:¬((i:Int)=(n:Int)):=by omega
 have hz3:(c:Int)<(n:Int)+(m:Int):=by omega
 have hw1:IntKind.i64.wrap ((i:Int)+(m:Int))=(i:Int)+(m:Int):=by rw[IntKind.wrap_i64];omega
 have hw2:IntKind.i64.wrap ((n:Int)+(m:Int))=(n:Int)+(m:Int):=by rw[IntKind.wrap_i64];omega
 have hw3:IntKind.i64.wrap ((n:Int)+(m:Int) - (i:Int))=(n:Int)+(m:Int) - (i:Int):=by rw[IntKind.wrap_i64];omega
 have hb1:(0:Int)<=(i:Int)+(m:Int):=by omega
 have hin:i<=n:=by omega
 have htn:((i:Int)+(m:Int)).toNat=i+m:=by omega
 have hb3:(i:Int)<=(n:Int)+(m:Int):=by omega
 have hb6:(i:Int)<=(n:Int):=by omega
 have hb4:¬(c=i):=by omega
 have hGi:¬(G=i):=by omega
 have ail:¬(G=i+m):=by omega
 have acO:=Wh (World.aS (World.ck w.drew (.cells P1.toArray 32)) w.heap.size X2.toArray 32 (0,0)).drew rfl
 clear Wh
 clear hkk hik hold hR hG Se ko L8 FZ hN1
 go_enter Tryz.func32,Tryz.ntmps32
 go_wp2_with (first
  |(at_builtin;refine Lib.wpList_append_run _ rfl _ _ _ _ rfl _ _ rfl rfl _ _ (hrz _) ?_)
  |(at_builtin;refine wpList_copy_runI _ rfl _ _ 22 22 rfl _ _ rfl rfl (acN _ _) ?_))
 go_region_law_o (refine step_copy_runI rfl _ _ 22 22 rfl _ _ (by simp[Act.eval,Act.put]) (by simp[Act.eval,Act.put]) (acO 3 (G - (i+m)) (c - i)) ?_)
 go_wp2
 go_ret
 exact⟨rfl,gZ (World.ck w.drew (.cells P1.toArray 32)).drew _ _ _ _ _ _ _⟩
set_option maxHeartbeats 2000000 in
theorem WC (m:Int){L vs:List Tree}{n i:Nat}(hLl:L.length<=4194304)(Jw:dU true 10 L)(hn:n=L.length)(hi:i<n)(Sc:vs≠ [])(hvl:vs.length<=4194304)(Qf:dU true 10 vs):
 aq (cf m) 32 [.ref (.arg 0) 0 n,.t (.int .i64 (i:Int)),.t (.sl vs)] [.arr (32,true) 10 false ((flat L).map .t)] (.ret (.ref (.arg 0) 0 (n+vs.length)) [.arr (32,true) 10 false ((flat (L.take i++vs++L.drop i)).map .t)] []):=by
 intro G w xs hw hg had hH hv
 obtain⟨x,xs1,rfl,hx,hv⟩:=hv.fQ
 obtain⟨y,z,rfl,hy,hz⟩:=hv.two
 obtain⟨hd,ho⟩:=hH (.arg 0) _ rfl
 obtain⟨_,cap,us,ty,fr,ha,hh,⟨mX,hty,hun⟩,hsz,hcl,ko,hF⟩:=ho
 obtain rfl:fr=(0,0):=hun (by decide)
 obtain rfl:ty=32:=hty
 have Zs:((flat L).map TV.t).length=n*10:=by rw[Jw.length,hn]
 rw[Zs] at ha hcl ko
 obtain rfl:=hy.jP
 obtain rfl:x=.slice (some ⟨G.mu (.arg 0),0,none⟩) n cap:=by
  cases hx with
  | ref k off len n' bD cap' v hd' og hle' ho' vz=>
    rw[ha] at og;cases og
    obtain⟨a,rfl,h2⟩:=vz (by omega)
    have:=h2 (by omega)
    subst this;rfl
 have hpv:0<vs.length:=by cases vs with|nil=>exact absurd rfl Sc|cons=>simp
 obtain⟨vb,vo,vc,V,rfl,hvb,hVc,hVr,hVY⟩:=Fj hw Sc Qf hz
 obtain⟨Y,Wf,Zr,hY⟩:=hVY (by omega)
 have hvb:=(hvb (G.mu (.arg 0)) (λq=>hF q (.inl rfl))).resolve_right (by omega)
 have AK:V.length=vs.length*10:=by rw[hVr.1,Qf.length]
 have RG:=mh hVr Qf.ku
 have L7:∀v∈us.toList.take (n*10),Go.Abs.one v=true:=mh ko Jw.ku
 have pg:us.toList.length=cap*10:=by simpa using hsz
 have hX:w.heap[G.mu (.arg 0)]?=some (.cells us.toList.toArray 32 (0,0)):=by rw[Array.toArray_toList];exact hh
 have afP:n*10<=us.toList.length:=by simpa using hcl
 have en:∀args w,(callFunc 32 args).run Tryz.prog w=.ok (.enter 32 args) w:=enters_of Tryz.func32 (by kernel_rfl) rfl
 have hn':((flat (L.take i++vs++L.drop i)).map TV.t).length=(n+vs.length) *10:=by
  rw[((Jw.take i).append Qf |>.append (λx hx=>Jw x (List.mem_of_mem_drop hx))).length];simp only[List.length_append,List.length_take,List.length_drop];congr 1;omega
 have hlt:n*10<(n+vs.length) *10:=by omega
 have Bc:cB G (((flat L).map TV.t).take (i*10)++(flat vs).map TV.t++((flat L).map TV.t).drop (i*10)) ((us.toList.take (n*10)).take (i*10)++V++(us.toList.take (n*10)).drop (i*10)):=((ko.take _).append hVr).append (ko.drop _)
 have hnew:(us.toList.take (n*10)).take (i*10)++V++(us.toList.take (n*10)).drop (i*10)=us.toList.take (i*10)++V++(us.toList.drop (i*10)).take ((n - i) *10):=by
  rw[List.take_take,Nat.min_eq_left (by omega),List.drop_take];congr 2;omega
 rw[hnew,← G5 Jw hn hi] at Bc
 have og:G.arr (.arg 0)=some (n*10,10,cap):=ha
 by_cases hfit:n+vs.length<=cap
 ·refine .inl ⟨en _ _,Calls.mono (ac1 hi hpv hfit (by omega) hvb hX pg hY hVc AK L7 RG) ?_⟩;rintro e w' ⟨rfl,rfl⟩;obtain⟨X2,FZ⟩:∃X2,X2=over (over us.toList ((i+vs.length) *10) ((us.toList.drop (i*10)).take ((n - i) *10))) (i*10) V:=⟨_,rfl⟩;have q6:((us.toList.drop (i*10)).take ((n - i) *10)).length=(n - i) *10:=by rw[List.length_take,List.length_drop,pg];omega
  have Ma:X2.length=cap*10:=by rw[FZ,bK (by rw[AK,bK (by rw[q6,pg];omega),pg];omega),bK (by rw[q6,pg];omega),pg]
  have Wj:X2.take ((n+vs.length) *10)=us.toList.take (i*10)++V++(us.toList.drop (i*10)).take ((n - i) *10):=by
   rw[FZ,show(i+vs.length) *10=i*10+vs.length*10 by omega,show(n+vs.length) *10=i*10+vs.length*10+(n - i) *10 by omega];exact G6 AK q6 (by rw[pg];omega)
  rw[← FZ];have s1:=gq (w:=w.drew) (vs:=X2) hw.drew hd (Gh.fW og (by decide)) hX (λq ⟨uu,hq⟩=>by rw[hF q (.inl rfl)] at hq;cases hq);have s2:=grow_step (n':=(n+vs.length) *10) s1.wf og hlt (λ_=>False);have st:=((fH hw (λ_=>True) (λk=>k.dS=true)).trans (s1.trans s2)).mono (W':=λ_=>True) (N':=λk=>k.dS=true) (λ_ _ _=>trivial) (λ_ h=>by rcases h with h|h|h<;>first|exact h|exact h.elim);have vF:(G.grow (.arg 0) (G.mu (.arg 0)) ((n+vs.length) *10,10,cap)).mu (.arg 0)=G.mu (.arg 0):=by simp[Gh.grow]
  refine⟨_,_,rfl,st,rfl,λk o ho=> ?_,λ_ _ h=>by simp at h, ?_⟩
  ·match k,ho with
   | 0,ho=>
     obtain rfl:=Option.some.inj ho
     refine⟨hd,by decide,cap,X2.toArray,32,(0,0),by rw[hn'];simp[Gh.grow],by rw[vF];exact bH (w:=w.drew) (hw.lt _ hd) _ _ _,⟨λ_ _ h=>by omega,rfl,λ_=>rfl⟩,by simpa using Ma,by rw[hn',List.size_toArray,Ma];omega, ?_,λq _=>by rw[vF];exact hF q (.inl rfl)⟩
     rw[hn',List.toList_toArray,Wj]
     exact Bc.mono (k4 _ og hlt)
  ·refine .ref (.arg 0) 0 (n+vs.length) ((n+vs.length) *10) 10 cap _ hd (by simp[Gh.grow]) (by rw[Nat.zero_add];exact Nat.le_refl _) ⟨_,_,rfl⟩ λ_=>⟨_,by simp;rfl,λ_=>by simp[Gh.grow]⟩
 ·have hbs:vb<w.heap.size:=(Array.getElem?_eq_some_iff.1 hY).1;obtain⟨c2,R,cW,Se,rK⟩:=ac2 (c:=cap) (vc:=vc) hi hpv (by omega) (by omega) (by omega) hX pg hbs hVc AK L7 RG;refine .inl ⟨en _ _,Calls.mono rK ?_⟩;rintro e w' ⟨rfl,rfl⟩;obtain⟨P1,L8⟩:∃P1,P1=us.toList.take (i*10)++R:=⟨_,rfl⟩;have q6:((us.toList.drop (i*10)).take ((n - i) *10)).length=(n - i) *10:=by rw[List.length_take,List.length_drop,pg];omega
  have BL:(us.toList.take (i*10)).length=i*10:=by rw[List.length_take,pg];omega
  have Fk:P1.length=c2*10:=by rw[L8,List.length_append,BL,Se];omega
  have acP:P1.take (i*10)=us.toList.take (i*10):=by rw[L8];exact List.take_left' BL
  rw[← L8];obtain⟨X3,hX3⟩:∃X3,X3=over (over P1 (i*10) V) ((i+vs.length) *10) ((us.toList.drop (i*10)).take ((n - i) *10)):=⟨_,rfl⟩;have Wk:X3.length=c2*10:=by rw[hX3,bK (by rw[q6,bK (by rw[AK,Fk];omega),Fk];omega),bK (by rw[AK,Fk];omega),Fk]
  have acQ:X3.take ((n+vs.length) *10)=us.toList.take (i*10)++V++(us.toList.drop (i*10)).take ((n - i) *10):=by
   rw[hX3,show(i+vs.length) *10=i*10+vs.length*10 by omega,show(n+vs.length) *10=i*10+vs.length*10+(n - i) *10 by omega,← acP];exact G7 AK q6 (by rw[Fk];omega)
  rw[← hX3];have s1:=A4 (w:=w.drew) (n':=(n+vs.length) *10) (c':=c2) hw.drew og hlt (.cells P1.toArray 32) (λ_=>False);obtain⟨G2,RH⟩:∃G2,G2=G.grow (.arg 0) w.drew.heap.size ((n+vs.length) *10,10,c2):=⟨_,rfl⟩;have vF:G2.mu (.arg 0)=w.heap.size:=by rw[RH];simp[Gh.grow]
  have hF2:G2.F=G.F:=by rw[RH];rfl
  have Oe:G2.arr (.arg 0)=some ((n+vs.length) *10,10,c2):=by rw[RH];simp[Gh.grow]
  have hd2:G2.dom (.arg 0):=by rw[RH];exact hd
  have hle2:G.le G2:=by rw[RH];exact k4 _ og hlt
  have hblk:(World.ck w.drew (.cells P1.toArray 32)).drew.heap[w.heap.size]?=some (.cells P1.toArray 32 (0,0)):=iJ w.drew _;have Wl:∀q,G2.F w.heap.size q=none:=λq=>by rw[hF2];exact hw.Ge q
  rw[← RH] at s1;have s2:=fH s1.wf (λ_=>False) (λ_=>False);have s3:=gq (w:=(World.ck w.drew (.cells P1.toArray 32)).drew) (k:=.arg 0) (vs:=X3) s2.wf hd2 (Gh.fW Oe (by decide)) (by rw[vF];exact hblk) (λq ⟨uu,hq⟩=>by rw[vF,Wl q] at hq;cases hq);rw[vF] at s3;have st:=((fH hw (λ_=>True) (λk=>k.dS=true)).trans (s1.trans (s2.trans s3))).mono (W':=λ_=>True) (N':=λk=>k.dS=true) (λ_ _ _=>trivial) (λ_ h=>by rcases h with h|h|h|h<;>first|exact h|exact h.elim);refine⟨_,G2,rfl,st,rfl,λk o ho=> ?_,λ_ _ h=>by simp at h, ?_⟩
  ·match k,ho with
   | 0,ho=>
     obtain rfl:=Option.some.inj ho
     refine⟨hd2,by decide,c2,X3.toArray,32,(0,0),by rw[hn',Oe],by rw[vF];exact bH (Array.getElem?_eq_some_iff.1 hblk).1 _ _ _,⟨λ_ _ h=>by omega,rfl,λ_=>rfl⟩,by simpa using Wk,by rw[hn',List.size_toArray,Wk];omega, ?_,λq _=>by rw[vF];exact Wl q⟩
     rw[hn',List.toList_toArray,acQ]
     exact Bc.mono hle2
  ·refine .ref (.arg 0) 0 (n+vs.length) ((n+vs.length) *10) 10 c2 _ hd2 Oe (by rw[Nat.zero_add];exact Nat.le_refl _) ⟨_,_,rfl⟩ λ_=>⟨_,by simp;rfl,λ_=>by rw[vF,Nat.zero_mul]⟩
theorem one_cell {v:Value}(h:Go.Abs.one v=true):v.oneCell'=true:=by cases v<;>first|rfl|cases h
theorem F3 {w:World}{b o:Nat}{X news:List Value}{ty:TypeId}{fr:Nat×Nat}(hb:w.heap[b]?=some (.cells X.toArray ty fr))(mX:l5 X.toArray fr)(hfit:o+news.length<=X.length)(h1:∀v∈news,Go.Abs.one v=true):
 w.setCells b o news=World.aS w b (over X o news).toArray ty fr:=by
 have h2:=gI (P:=Tryz.prog) (b:=b) (o:=o) news w 0 X h1 hb mX (by simpa using hfit)
 have h3:=run_storeCells_cells (P:=Tryz.prog) b o news 0 w (λj hj=>by
  rw[cell_of hb];have:o+j<X.length:=by omega
  simp[this]) (λj hj=>by
  have:o+0+j<X.toArray.size:=by simp;omega
  have h4:=mX _ this;rw[AU hb];simp only[Bool.and_eq_false_iff,decide_eq_false_iff_not];by_cases h5:fr.1<=o+0+j
  ·right;exactλh6=>h4 ⟨h5,h6⟩
  ·left;exact h5) (λv hv=>one_cell (h1 v hv))
 rw[h3] at h2
 simp only[Nat.add_zero] at h2
 injection h2
theorem OA {w:World}{T K:Nat}{t ty':TypeId}{z:Value}{b o n c:Nat}{X:List Value}{ty:TypeId}{fr:Nat×Nat}(hu:Tryz.prog.underlying t=some (.slice T))(hz:∀w,(zeroValue T).run Tryz.prog w=.ok z w)(hzl:z.cells.size=K)(hz1:∀v∈z.cells.toList,Go.Abs.one v=true)
 (hn:0<n)(hb:w.heap[b]?=some (.cells X.toArray ty fr))(mX:l5 X.toArray fr)(hfit:o+n*K<=X.length):
 (Builtin.clear_ #[t] ty' #[.slice (some ⟨b,o,none⟩) n c]).run Tryz.prog w=.ok (.tuple #[]) (World.aS w b (over X o (Builtin.zeroCells z.cells n).toList).toArray ty fr):=by
 have hst:=gI (P:=Tryz.prog) (b:=b) (o:=o) (Builtin.zeroCells z.cells n).toList w 0 X (λv hv=>by
  have hv:v∈(Builtin.zeroCells z.cells n):=by simpa using hv
  unfold Builtin.zeroCells at hv;rw[Array.mem_map] at hv;obtain⟨q,hq,rfl⟩:=hv;have hp:0<z.cells.size:=by
   rcases Nat.eq_zero_or_pos z.cells.size with h|h
   ·rw[h] at hq;simp at hq
   ·exact h
  have hlt:q % z.cells.size<z.cells.size:=Nat.mod_lt _ hp;rw[getElem!_pos z.cells _ hlt];exact hz1 _ (by simp)) hb mX (by
  have:(Builtin.zeroCells z.cells n).size=n*K:=by simp[Builtin.zeroCells,hzl]
  simp[this];exact hfit)
 simp only[Nat.add_zero] at hst
 obtain⟨m,rfl⟩:∃m,n=m+1:=⟨n - 1,by omega⟩
 simp[Builtin.clear_,run_underlying hu,hz,hst]
theorem ZE:∃i0 z,Tryz.prog.info? 32=some i0/\i0.zero=some z/\i0.size=10/\z.cells.size=10/\z.cells.toList.all Go.Abs.one=true:=⟨_,_,rfl,rfl,rfl,rfl,rfl⟩
set_option maxHeartbeats 4000000 in
theorem agd {w:World}{b n c i:Nat}{X:List Value}{ty:TypeId}(hi:i<n)(hnc:n<=c)(hX:w.heap[b]?=some (.cells X.toArray ty (0,0)))(pg:X.length=c*10)(L7:∀v∈X.take (n*10),Go.Abs.one v=true):
 ∃ Z:List Value,Z.length=10/\Calls Tryz.prog 31 #[.slice (some ⟨b,0,none⟩) n c,.int .i64 (i:Int),.int .i64 ((i:Int)+1)] w λe w'=>
  e=.returned (.slice (some ⟨b,0,none⟩) (n - 1) c)/\w'=World.aS w.drew b (over (over X (i*10) ((X.drop ((i+1) *10)).take ((n - (i+1)) *10))) ((n - 1) *10) Z).toArray ty (0,0):=by
 obtain⟨i0,z,hi0,hz0,hzs,hzl,hz1⟩:=ZE
 have mixed:Tryz.prog.follows .mixedOrders=true:=by kernel_rfl
 obtain⟨us,ko⟩:∃us,us=(X.drop ((i+1) *10)).take ((n - (i+1)) *10):=⟨_,rfl⟩
 have q6:us.length=(n - (i+1)) *10:=by rw[ko,List.length_take,List.length_drop,pg];omega
 have Jx:∀j v,us[j]?=some v->X[(i+1) *10+j]?=some v:=λj v h=>by
  rw[ko,List.getElem?_take] at h;split at h
  ·rwa [List.getElem?_drop] at h
  ·cases h
 have xT:∀v∈us,Go.Abs.one v=true:=λv h=>by
  refine L7 v ?_;rw[ko] at h;obtain⟨j,hj⟩:=List.getElem?_of_mem h;rw[List.getElem?_take] at hj;split at hj
  ·rw[List.getElem?_drop] at hj;exact List.mem_of_getElem? (i:=(i+1) *10+j) (by rw[List.getElem?_take,if_pos (by omega)];exact hj)
  ·cases hj
 have hXd:w.drew.heap[b]?=some (.cells X.toArray ty (0,0)):=hX
 have mX:l5 X.toArray ((0,0):Nat×Nat):=λo _ h=>by omega
 obtain⟨A,hA,hsrc⟩:∃A:Addr,(if c=i+1 then some (⟨b,0,none⟩:Addr) else some ⟨b,(i+1) *10,none⟩)=some A/\(∀t u,us[t]?=some u->w.drew.cell? (A.add t)=some u):=by
  by_cases h:c=i+1
  ·refine⟨⟨b,0,none⟩,by simp[h],λt u hu=> ?_⟩;have h0:us.length=0:=by
    rw[q6,show n - (i+1)=0 by omega]
   rw[List.length_eq_zero_iff.1 h0] at hu;simp at hu
  ·refine⟨⟨b,(i+1) *10,none⟩,by simp[h],λt u hu=> ?_⟩;rw[xP];exact(mV hXd _).trans (by simpa using Jx t u hu)
 obtain⟨X1,hX1⟩:∃X1,X1=over X (i*10) us:=⟨_,rfl⟩
 have Wg:X1.length=c*10:=by rw[hX1,bK (by rw[q6,pg];omega),pg]
 have aaW:w.drew.setCells b (0+i*10) us=World.aS w.drew b X1.toArray ty (0,0):=by
  rw[Nat.zero_add,hX1];exact F3 hXd mX (by rw[q6,pg];omega) xT
 have hspare:∀j,j<us.length->(w.drew.cell? ⟨b,0+i*10+j,none⟩).isSome=true/\w.drew.frozen? ⟨b,0+i*10+j,none⟩=false:=λj hj=>by
  refine⟨?_,acG hXd⟩;rw[mV hXd];have:i*10+j<X.length:=by rw[pg];omega
  simp[this]
 have hone:∀u∈us,u.oneCell'=true:=λu hu=>one_cell (xT u hu)
 have Qn:b<w.drew.heap.size:=(Array.getElem?_eq_some_iff.1 hX).1
 obtain⟨Z,hZ⟩:∃Z,Z=(Builtin.zeroCells z.cells 1).toList:=⟨_,rfl⟩
 have hcl:∀ty',(Builtin.clear_ #[22] ty' #[.slice (some ⟨b,(n - 1) *10,none⟩) 1 (c - (n - 1))]).run Tryz.prog (World.aS w.drew b X1.toArray ty (0,0))=.ok (.tuple #[]) (World.aS w.drew b (over X1 ((n - 1) *10) Z).toArray ty (0,0)):=λty'=>by
  have h:=OA (w:=World.aS w.drew b X1.toArray ty (0,0)) (T:=32) (K:=10) (t:=22) (ty':=ty') (z:=z) (b:=b) (o:=(n - 1) *10) (n:=1) (c:=c - (n - 1)) (X:=X1) (ty:=ty) (fr:=(0,0)) Tryz.underlying22 (λw=>by simp[zeroValue,typeInfo,hi0,hz0]) hzl (List.all_eq_true.1 hz1) (by omega) (bH Qn _ _ _) (λo _ h=>by omega) (by rw[Wg];omega);rw[gZ,← hZ] at h;exact h
 have hic:i<=c:=by omega
 have hjc:i+1<=c:=by omega
 have hZl:Z.length=10:=by rw[hZ];simp[Builtin.zeroCells,hzl]
 refine⟨Z,hZl, ?_⟩
 rw[← ko,← hX1]
 clear ko hX1 hZ
 have hne:¬((i:Int)=(i:Int)+1):=by omega
 have htn:((i:Int)+1).toNat=i+1:=by omega
 have hb1:(0:Int)<=(i:Int)+1:=by omega
 have hb2:(i:Int)<=(i:Int)+1:=by omega
 have hb3:(i:Int)+1<=(n:Int):=by omega
 have hn1:i+(n - (i+1))=n - 1:=by omega
 have hn2:n - (n - 1)=1:=by omega
 go_enter Tryz.func31,Tryz.ntmps31
 go_wp2_with fail
 go_region_law_o (refine step_append_room rfl (.tmp 22) (.tmp 25) 22 rfl 32 i0 10 Tryz.underlying22 hi0 hzs b 0 i c (by simp[Act.eval,Act.put]) A (n - (i+1)) (c - (i+1)) us (by simp[Act.eval,Act.put]) q6 hsrc hone (by omega) hspare ?_;rw[aaW])
 go_wp2
 go_ret
 exact⟨rfl,rfl⟩
theorem WD {X us Z:List Value}{a b c:Nat}(hu:us.length=b)(hX:a+b+c<=X.length)(hZ:Z.length=c):(over (over X a us) (a+b) Z).take (a+b)=X.take a++us:=by
 have h1:(X.take a++us).length=a+b:=by simp only[List.length_append,List.length_take];omega
 have e1:over X a us=(X.take a++us)++X.drop (a+us.length):=rfl;have e2:(over X a us).take (a+b)=X.take a++us:=by rw[e1];exact List.take_left' h1
 rw[show over (over X a us) (a+b) Z=(over X a us).take (a+b)++(Z++(over X a us).drop (a+b+Z.length)) by unfold over;simp[List.append_assoc],e2];exact List.take_left' h1
set_option maxHeartbeats 2000000 in
theorem WE (m:Int){L:List Tree}{n i:Nat}(hLl:L.length<=4194304)(Jw:dU true 10 L)(hn:n=L.length)(hi:i<n):
 aq (cf m) 31 [.ref (.arg 0) 0 n,.t (.int .i64 (i:Int)),.t (.int .i64 ((i:Int)+1))] [.arr (32,true) 10 false ((flat L).map .t)]
  (.ret (.ref (.loc [0]) 0 (n - 1)) [.dead] [(.loc [0],.arr (32,true) 10 false ((flat (L.take i++L.drop (i+1))).map .t))]):=by
 intro G w xs hw hg had hH hv
 obtain⟨x,xs1,rfl,hx,hv⟩:=hv.fQ
 obtain⟨y,z,rfl,hy,hz⟩:=hv.two
 obtain⟨hd,ho⟩:=hH (.arg 0) _ rfl
 obtain⟨_,cap,us,ty,fr,ha,hh,⟨mX,hty,hun⟩,hsz,hcl,ko,hF⟩:=ho
 obtain rfl:fr=(0,0):=hun (by decide)
 obtain rfl:ty=32:=hty
 have Zs:((flat L).map TV.t).length=n*10:=by rw[Jw.length,hn]
 rw[Zs] at ha hcl ko
 obtain rfl:=hy.jP
 obtain rfl:=hz.jP
 obtain rfl:x=.slice (some ⟨G.mu (.arg 0),0,none⟩) n cap:=by
  cases hx with
  | ref k off len n' bD cap' v hd' og hle' ho' vz=>
    rw[ha] at og;cases og
    obtain⟨a,rfl,h2⟩:=vz (by omega)
    have:=h2 (by omega)
    subst this;rfl
 have L7:∀v∈us.toList.take (n*10),Go.Abs.one v=true:=mh ko Jw.ku
 have pg:us.toList.length=cap*10:=by simpa using hsz
 have hX:w.heap[G.mu (.arg 0)]?=some (.cells us.toList.toArray 32 (0,0)):=by rw[Array.toArray_toList];exact hh
 have afP:n*10<=us.toList.length:=by simpa using hcl
 have hnc:n<=cap:=by omega
 have en:∀args w,(callFunc 31 args).run Tryz.prog w=.ok (.enter 31 args) w:=enters_of Tryz.func31 (by kernel_rfl) rfl
 obtain⟨Z,hZl,rK⟩:=agd (w:=w) (c:=cap) hi hnc hX pg L7
 refine .inl ⟨en _ _,Calls.mono rK ?_⟩
 rintro e w' ⟨rfl,rfl⟩
 obtain⟨us2,xT⟩:∃us2,us2=(us.toList.drop ((i+1) *10)).take ((n - (i+1)) *10):=⟨_,rfl⟩
 have q6:us2.length=(n - (i+1)) *10:=by rw[xT,List.length_take,List.length_drop,pg];omega
 rw[← xT]
 obtain⟨X2,FZ⟩:∃X2,X2=over (over us.toList (i*10) us2) ((n - 1) *10) Z:=⟨_,rfl⟩
 have Ma:X2.length=cap*10:=by rw[FZ,bK (by rw[hZl,bK (by rw[q6,pg];omega),pg];omega),bK (by rw[q6,pg];omega),pg]
 have Wj:X2.take ((n - 1) *10)=us.toList.take (i*10)++us2:=by
  rw[FZ,show(n - 1) *10=i*10+(n - (i+1)) *10 by omega];exact WD q6 (by rw[pg];omega) hZl
 rw[← FZ]
 have hcells:(flat (L.take i++L.drop (i+1))).map TV.t=((flat L).map TV.t).take (i*10)++((flat L).map TV.t).drop ((i+1) *10):=by
  rw[Fi,A3 Jw.lens,A1 Jw.lens];simp[List.map_take,List.map_drop]
 have hlen:((flat (L.take i++L.drop (i+1))).map TV.t).length=(n - 1) *10:=by
  rw[hcells];simp only[List.length_append,List.length_take,List.length_drop,Zs];omega
 have Bc:cB G ((flat (L.take i++L.drop (i+1))).map TV.t) (X2.take ((n - 1) *10)):=by
  rw[hcells,Wj];have h1:=ko.take (i*10);have h2:=ko.drop ((i+1) *10);rw[List.take_take,Nat.min_eq_left (by omega)] at h1;rw[List.drop_take,show n*10 - (i+1) *10=(n - (i+1)) *10 by omega,← xT] at h2;exact h1.append h2
 have og:G.arr (.arg 0)=some (n*10,10,cap):=ha
 have s1:=gq (w:=w.drew) (vs:=X2) hw.drew hd (Gh.fW og (by decide)) hX (λq ⟨uu,hq⟩=>by rw[hF q (.inl rfl)] at hq;cases hq)
 have hno:¬G.dom (.loc [0]):=had.2 [0]
 have s2:=J1 (m:=(n - 1) *10) (nm:=.loc [0]) s1.wf hno hd og (by decide)
 have st:=((fH hw (λ_=>True) (λk=>k.dS=true)).trans (s1.trans s2)).mono (W':=λ_=>True) (N':=λk=>k.dS=true) (λ_ _ _=>trivial) (λ_ h=>by rcases h with h|h|h<;>first|exact h|exact h.elim|(rw[h];rfl))
 have Qn:G.mu (.arg 0)<w.drew.heap.size:=hw.lt _ hd
 refine⟨_,G.cut (.arg 0) (.loc [0]) (n*10) ((n - 1) *10) 10 cap,rfl,st,rfl,λk o ho=> ?_,λk o h=> ?_, ?_⟩
 ·match k,ho with
  | 0,ho=>
    obtain rfl:=Option.some.inj ho
    exact⟨.inr hd,trivial⟩
 ·simp only[List.mem_singleton,Prod.mk.injEq] at h;obtain⟨rfl,rfl⟩:=h;refine⟨rfl,.inl rfl,by decide,cap,X2.toArray,32,(0,0), ?_, ?_,⟨λ_ _ h=>by omega,rfl,λ_=>rfl⟩,by simpa using Ma,by rw[hlen,List.size_toArray,Ma];omega, ?_,λq _=> ?_⟩
  ·simp[Gh.cut,hlen]
  ·simp only[Gh.cut,if_true];exact bH Qn _ _ _
  ·rw[hlen,List.toList_toArray];exact Bc.mono s2.le
  ·have:=hF q (.inl rfl);simpa [Gh.cut] using this
 ·refine .ref (.loc [0]) 0 (n - 1) ((n - 1) *10) 10 cap _ (.inl rfl) (by simp[Gh.cut]) (by rw[Nat.zero_add];exact Nat.le_refl _) ⟨_,_,rfl⟩ λ_=>⟨_,rfl,λ_=>by simp[Gh.cut]⟩
end Go.Proofs.YtnfnihgmankidaaGreatDoor.w
namespace Go.Proofs.YtnfnihgmankidaaGreatDoor.w.e
open Go Go.Abs
set_option maxRecDepth 100000
set_option maxHeartbeats 2000000
noncomputable section
theorem age {ag:Bool}{sz a b:Nat}{L:List Tree}(hu:dU ag sz L)(h:a+b=L.length):(a+b) *sz=((flat L).map TV.t).length:=by
 rw[List.length_map,ff hu.lens,h]
theorem ZF (m:Int)(L:List Tree)(n:Nat)(e:Tree)(h0:L.length<=70000000)(h1:∀y∈L,T .aB y)(h2:n=L.length)(h3:T .aB e)(h4:dU true 10 ([e]:List Tree))(h5:([e]:List Tree)≠ []):∃r:{r:Unit // True},aq (cf m) 32 [.ref (.arg 0) 0 n,.t (.int .i64 ((n:Nat):Int)),.t (.sl ([e]:List Tree))] [.arr (32,true) 10 false ((flat L).map .t)] (.ret (.ref (.arg 0) 0 ((L++[e]).length)) [.arr (32,true) 10 false ((flat (L++[e])).map .t)] []):=by
 obtain⟨ev,aC⟩:∃ev,aI (cf m) ev:=⟨_,aN⟩;refine AX.start 95 3 Tryz.func32 rfl (by decide) rfl rfl (by decide) ?_;refine AX.frames ?_;refine abG (f:=0) (n:=3000) (once:=[]) (k:=95) (T:=0) (S:=[]) (ks:=[.arg 0]) (live:=[6]) ai aC .ret (⟨ei 95 [(6,.ref (.arg 0) 0 ((L++([e]:List Tree)).length))],[(.arg 0,.arr (32,true) 10 false ((flat (L++([e]:List Tree))).map .t))],0⟩) [oP (age (a:=0) (b:=n) (aJ h1) (by omega)),oR n n (by omega),oB (show((((1:Nat):Int)==(0:Int))=false) from rfl),oB (beq_self_eq_true ((n:Nat):Int)),oU true 10 ([e]:List Tree) (by assumption) (by assumption),oX true 10 L n gW (aJ h1),oA ((n+([e]:List Tree).length) *152) gW,bO 32 10 (L++([e]:List Tree))] (by kernel_rfl) (by kernel_rfl) ?_;refine⟨⟨(),trivial⟩,.inr (ZD rfl rfl)⟩
end
end Go.Proofs.YtnfnihgmankidaaGreatDoor.w.e
namespace Go.Proofs.YtnfnihgmankidaaGreatDoor.w.e
open Go Go.Abs Go.RowKit
set_option maxRecDepth 100000
set_option maxHeartbeats 2000000
noncomputable section
theorem Re.agf {C:cE}{n:Nat}{sp:List (Nat×TV)}{i:Nat}{H:Heap}{t:Nat}:Re C ⟨ei n ((i,.cc)::sp),H,t⟩ ⟨ei n ((i,.jS [])::sp),H,t⟩:=by
 intro G0 w0 G w a h0 hs hst;have hl:a.tmps.toList.length=n:=by have:=hst.slots.1;rwa [eS] at this
 refine⟨G,hs,hst.wf,hst.iT,⟨by rw[eS];exact hl,λj c u hc hu=> ?_⟩,hst.heap,hst.fresh⟩;have hj:j<n:=by rw[← hl];exact(List.getElem?_eq_some_iff.1 hu).1
 have h2:=hst.slots.2 j _ u (mB hj) hu;rw[mB hj] at hc;cases hc;change VR G (bif Nat.beq j i then TV.cc else Go.Abs.look sp j) u at h2;show VR G (bif Nat.beq j i then TV.jS [] else Go.Abs.look sp j) u;cases hb:Nat.beq j i with
 |true=>rw[hb] at h2;exact WB h2
 |false=>rw[hb] at h2;exact h2
theorem WG {m:Int}{ev:aW}(aC:aI (cf m) ev):aq (cf m) 70 [.t (.sl [])] [] (.ret (.jS []) [] []):=by
 refine jy 8 1 Tryz.func70 rfl (by decide) rfl rfl (by decide) ?_;refine AW.seq ?_;refine AW.region ?_;refine dP.go (f:=0) aC (by first|exact cN rfl|exact aD rfl) ?_;refine dP.nil ?_;refine AW.seq ?_;refine AW.seq ?_;refine AW.region ?_;refine dP.go (f:=0) aC (by first|exact gP rfl|exact az rfl) ?_;refine dP.Ij rfl rfl N7 rfl (λb hb=> ?_);refine dP.nil ?_;refine AW.cond rfl (λh4=> ?_) (λh4=> ?_)
 ·refine AW.seq ?_;refine AW.region ?_;refine dP.go (f:=0) aC (by first|exact cN rfl|exact aD rfl) ?_;refine dP.nil ?_;refine AW.re Re.agf ?_;refine AW.ret ?_;exact .inr rfl
 ·refine AW.skip ?_;refine AW.seq ?_;refine AW.region ?_;refine dP.go (f:=0) aC (uv rfl N7 rfl Y9 rfl rfl) ?_;refine dP.go (f:=0) aC (by first|exact gP rfl|exact az rfl) ?_;refine dP.go (f:=0) aC (DM V3 rfl rfl (.inl (.inl rfl)) (.inr (.inr ⟨_,rfl⟩))) ?_;refine dP.go (f:=0) aC (by first|exact cN rfl|exact aD rfl) ?_;refine dP.nil ?_;refine AW.ret ?_;exact .inr rfl
theorem of_run {m:Int}{fuel:Nat}{f:FuncId}{args:List TV}{aU:List aO}{r:bk}(h:QS (vw m) (evW m) fuel f args aU=some r):aq (cf m) f args aU r:=
 Zv λG w vs hw hg ha hh hv=>Is (kI m) (Fl m) h hw hg ha hh hv
theorem ZG (m:Int)(e:Tree)(he:T .aB e):aq (cf m) 32 [.jS [],.t (.int .i64 ((0:Nat):Int)),.t (.sl [e])] [] (.ret (.ref (.loc [17]) 0 1) [] [(.loc [17],.arr (32,true) 10 false ((flat [e]).map .t))]):=by
 obtain⟨a,b,ps,k,b2,n,s,t,ns,l,rfl,_⟩:=T.bg he;exact of_run (fuel:=50) (by kernel_rfl)
end
end Go.Proofs.YtnfnihgmankidaaGreatDoor.w.e
namespace Go.Proofs.YtnfnihgmankidaaGreatDoor.w.e
open Go Go.Abs
set_option maxRecDepth 100000
set_option maxHeartbeats 2000000
noncomputable section
def ac3 (l:List Tree):bk:=.ret (.ref (.loc [0]) 0 l.length) [] [(.loc [0],.arr (32,true) 10 false ((flat l).map .t))]
theorem WH (m:Int)(ls:List Tree)(FY:ls≠ [])(ll:ls.length<=4194304)(hl:∀y∈ls,T .aB y):aq (cf m) 29 [.t (.sl ls)] [] (ac3 ls):=by
 obtain⟨ev,aC,tI,V7,N9⟩:∃ev,aI (cf m) ev/\Has ev 70 qX/\Has ev 62 (xU (T .cz) (λx=>x))/\Has ev 71 (xU (λx=>T .aV x) (λx=>x)):=⟨_,(aA (wY m) (aA (eD (V6 m)) (aA (eD (PO m)) aN))),aF,(au rfl aF),(au rfl (au rfl aF))⟩;refine aq.pR ?_;refine AX.start 33 1 Tryz.func29 rfl (by decide) rfl rfl (by decide) ?_;refine AX.frames ?_;refine Xl (f:=64) (n:=3000) (once:=[]) (k:=33) (T:=0) (S:=[]) (ks:=[]) (live:=[0,2]) ai aC (Tryz.f29.body.getD .skip) 1 rfl (⟨ei 33 [(0,.t (.sl ls)),(2,.cc)],[],0⟩) [] (by kernel_rfl) ?_;refine AX.region ?_;refine aG.go (f:=0) aC (az rfl) ?_;refine aG.go (f:=0) aC (xq (Ft rfl) (Cd tI FY (aJ hl) (by assumption)) rfl sS) ?_;refine aG.go (f:=0) aC (aD rfl) ?_;refine aG.nil ?_;refine kl (α:=Nat) ai 64 [] 33 1 [.loc [1,5]] [.loc [1,5]] [0,7,8] (λx=>⟨ei 33 [(0,.ref (.loc [0]) 0 ls.length),(7,.t (.int .i64 ((ls.length:Nat):Int))),(8,.t (.int .i64 ((x:Nat):Int)))],[(.loc [0],.arr (32,true) 10 false ((flat ls).map .t))],1⟩) (λx=>(x<=ls.length)) (λx=>ls.length - x) 0 (qD (Tryz.f29.body.getD .skip) 3) [bO 32 10 ls] (by show(0<=ls.length);first|trivial|omega|(refine⟨?_, ?_⟩<;>first|omega|exact SM.nil)|simp) (λx hok=> ?_);obtain⟨i_1,Bo⟩:∃y,y=x:=⟨x,rfl⟩;subst Bo;replace hok:(i_1<=ls.length):=hok;have cM:=hok;rcases bw (decide (((i_1:Nat):Int)<((ls.length:Nat):Int))) with cW|cW
 ·have mI:=of_decide_eq_true cW;obtain⟨e3,jb⟩:=iO ls i_1;have pK:=(hl e3 (kQ jb));obtain⟨qT,wV,nI,jq,nJ,nK,nL,nM,iN,jr,rfl,sx,sy,En,yU,Eo,Ep,VE,Jn,VF,Jo⟩:=T.bg pK;exact⟨.inl ⟨i_1+1,⟨(by show(i_1+1)<=ls.length;omega),(by show(ls.length - (i_1+1))<(ls.length - i_1);omega)⟩⟩,FL ai 64 [] 33 1 [.loc [0]] [.loc [0]] [0,7,8] [oB cW,oW true 10 ls (aJ hl),oH jb,oQ ls,oQ ls,oO (GA (i:=i_1) (j:=2) (dU.lens (aJ hl)) jb rfl),oC (dM V7 (x:=.sl nI) (.cz _ bh yU)),oW true 10 ls (aJ hl),oH jb,oQ ls,oQ ls,oO (mE (m:=7) (i:=i_1) (j:=3) (dU.lens (aJ hl)) jb (by decide)),oC (dM N9 (x:=(bM jq nJ nK nL nM iN jr)) (.aV _ _ _ _ _ _ _ bh bh bh Jn bh Jo)),oW true 10 ls (aJ hl),oH jb,oQ ls,oQ ls,oR _ _ (B4 (j:=2) (m:=1) (dU.lens (aJ hl)) jb (by decide)),oK (xo (j:=2) (m:=1) (dU.lens (aJ hl)) jb (by decide)),oW true 10 ls (aJ hl),oH jb,oQ ls,oQ ls,oR _ _ (B4 (j:=3) (m:=7) (dU.lens (aJ hl)) jb (by decide)),oK (xo (j:=3) (m:=7) (dU.lens (aJ hl)) jb (by decide)),oI (i_1) (by omega),bO 32 10 ls]⟩
 ·have mI:=of_decide_eq_false cW;refine Np ai 64 [] [oB cW] ?_;refine abG (f:=64) (n:=3000) (once:=[]) (k:=33) (T:=1) (S:=[.loc [0]]) (ks:=[.loc [0]]) (live:=[2]) ai aC .ret (⟨ei 33 [(2,.ref (.loc [0]) 0 ls.length)],[(.loc [0],.arr (32,true) 10 false ((flat ls).map .t))],1⟩) [bO 32 10 ls] (by kernel_rfl) (by kernel_rfl) ?_;exact⟨(),.inr (zJ rfl rfl rfl)⟩
def WI:iy:=λ_ xa os=>match xa,os with
 | [.t (.sl [])],[]=>some (.ret (.jS []) [] [])
 |_,_=>none
theorem WJ (m:Int):gu (vw m) 70 WI:=λev aC xa os r h G w vs hw hg had hH hv=>by
 unfold WI at h;split at h
 ·cases h;exact sD (WG (m:=m) (ev:=mA) aN) G w vs hw hg had hH hv
 ·cases h
def P4:Ext:=λ|70=>some WI|_=>none
theorem WK (m:Int):BR (vw m) P4:=sV (by
 intro g s h;unfold P4 at h;split at h
 ·obtain rfl:=Option.some.inj h;exact WJ m
 ·cases h)
theorem WL (m:Int):aq (cf m) 29 [.t (.sl [])] [] (.ret (.jS []) [] []):=by
 have aC:aI (vw m) (vp (vw m) P4 30):=by rw[wq];exact vZ (kI m) (WK m) 30
 have h:QS (vw m) (vp (vw m) P4 30) 50 29 [.t (.sl [])] []=some (.ret (.jS []) [] []):=by kernel_rfl
 exact Zv λG w vs hw hg ha hh hv=>Is (kI m) aC h hw hg ha hh hv
theorem Fp {e:Tree}(h:T .aB e):∀y∈[e],T .aB y:=λy hy=>by rw[List.mem_singleton.1 hy];exact h
open Classical in
def ZH:List TV->List aO->Option bk:=λvb os=>match vb,os with
 | [.t (.sl l)],[]=>if T .ah (.sl l) then some (if l=[] then .ret (.jS []) [] [] else ac3 l) else none
 |_,_=>none
theorem OB (m:Int):kJ (cf m) 29 ZH:=λa o q hq=>by
 unfold ZH at hq;split at hq
 ·rename_i l;split at hq
  ·rename_i hT;cases hq;obtain⟨l',e,hl,h2⟩:=T.bU hT;cases e;split
   ·rename_i e;subst e;exact WL m
   ·rename_i hne;exact WH m l hne hl h2
  ·cases hq
 ·cases hq
theorem kg {ev:aW}(h:Has ev 29 ZH){l:List Tree}(hT:T .ah (.sl l))(hne:l≠ []):ev 29 [.t (.sl l)] []=some (ac3 l):=h _ _ _ (show ZH _ _=_ from(if_pos hT).trans (congrArg some (if_neg hne)))
theorem Mf {ev:aW}(h:Has ev 29 ZH):ev 29 [.t (.sl [])] []=some (.ret (.jS []) [] []):=h _ _ _ (show ZH _ _=_ from(if_pos (.ah _ (Nat.zero_le _) (λ_ h=>by cases h))).trans (congrArg some (if_pos rfl)))
def Hf (x:List Tree×Nat×Nat):List TV×List aO:=([.ref (.arg 0) 0 x.2.1,.t (.int .i64 ((x.2.2:Nat):Int)),.t (.int .i64 ((x.2.2:Nat)+1:Int))],[.arr (32,true) 10 false ((flat x.1).map .t)])
def Fq (x:List Tree×Nat×Nat):Prop:=x.1.length<=4194304/\(∀y∈x.1,T .aB y)/\x.2.1=x.1.length/\x.2.2<x.2.1
def WM (x:List Tree×Nat×Nat):bk:=.ret (.ref (.loc [0]) 0 (x.2.1 - 1)) [.dead] [(.loc [0],.arr (32,true) 10 false ((flat (x.1.take x.2.2++x.1.drop (x.2.2+1))).map .t))]
theorem P5:∀x y,Fq x->Fq y->Hf x=Hf y->x=y:=by
 rintro ⟨L1,n1,i1⟩ ⟨L2,n2,i2⟩ h1 h2 h;have vD:L1=L2:=fJ (by decide) (aJ h1.2.1) (aJ h2.2.1) (congrArg (yP 0) h);have e_n:n1=n2:=h1.2.2.1.trans ((congrArg List.length vD).trans h2.2.2.1.symm);have e_i:i1=i2:=Int.ofNat.inj (congrArg (IU 1) h);rw[vD,e_n,e_i]
theorem Mg (m:Int)(x:List Tree×Nat×Nat)(h:Fq x):aq (cf m) 31 (Hf x).1 (Hf x).2 (WM x):=WE m h.1 (aJ h.2.1) h.2.2.1 h.2.2.2
def Mh (x:List Tree×Nat×Nat×Tree):List TV×List aO:=([.ref (.arg 0) 0 x.2.1,.t (.int .i64 ((x.2.2.1:Nat):Int)),.ref (.arg 1) 0 1],[.arr (32,true) 10 false ((flat x.1).map .t),.arr (32,true) 10 false ((flat [x.2.2.2]).map .t)])
def Hg (x:List Tree×Nat×Nat×Tree):Prop:=x.1.length<=4194304/\(∀y∈x.1,T .aB y)/\x.2.1=x.1.length/\x.2.2.1<=x.2.1/\T .aB x.2.2.2
def WN (L:List Tree)(i:Nat)(e:Tree):List Tree:=L.take i++[e]++L.drop i
def aaP (x:List Tree×Nat×Nat×Tree):bk:=.ret (.ref (.arg 0) 0 (x.2.1+1)) [.arr (32,true) 10 false ((flat (WN x.1 x.2.2.1 x.2.2.2)).map .t),.dead] []
theorem P6:∀x y,Hg x->Hg y->Mh x=Mh y->x=y:=by
 rintro ⟨L1,n1,i1,a1⟩ ⟨L2,n2,i2,a2⟩ h1 h2 h;have vD:L1=L2:=fJ (by decide) (aJ h1.2.1) (aJ h2.2.1) (congrArg (yP 0) h);have e_n:n1=n2:=h1.2.2.1.trans ((congrArg List.length vD).trans h2.2.2.1.symm);have e_i:i1=i2:=Int.ofNat.inj (congrArg (IU 1) h);have e_a:[a1]=[a2]:=fJ (by decide) (aJ (Fp h1.2.2.2.2)) (aJ (Fp h2.2.2.2.2)) (congrArg (yP 1) h);rw[vD,e_n,e_i,List.head_eq_of_cons_eq e_a]
theorem WO (m:Int)(x:List Tree×Nat×Nat×Tree)(h:Hg x):aq (cf m) 32 (Mh x).1 (Mh x).2 (aaP x):=by
 obtain⟨L,n,i,e⟩:=x;obtain⟨h1,h2,h3,h4,h5⟩:=h;have h5:T .aB e:=h5;have hu:=aJ (Fp h5);have h3:n=L.length:=h3;have h1:L.length<=4194304:=h1;have h4:i<=n:=h4;rcases Nat.lt_or_eq_of_le h4 with hlt|rfl
 ·exact BG (xa:=[.ref (.arg 0) 0 n,.t (.int .i64 ((i:Nat):Int))]) (vs:=[e]) (os:=[.arr (32,true) 10 false ((flat L).map .t)]) (os':=[.arr (32,true) 10 false ((flat (WN L i e)).map .t)]) hu (by decide) rfl (WC m h1 (aJ h2) h3 hlt (by simp) (by show 1<=4194304;omega) hu)
 ·obtain⟨_,hc⟩:=ZF m L i e (by omega) h2 h3 h5 hu (by simp);have e1:WN L i e=L++[e]:=by unfold WN;rw[List.take_of_length_le (by omega),List.drop_eq_nil_of_le (by omega),List.append_nil]
  have e2:(L++[e]).length=i+1:=by rw[List.length_append,← h3];rfl
  rw[e2,← e1] at hc;exact BG (xa:=[.ref (.arg 0) 0 i,.t (.int .i64 ((i:Nat):Int))]) (vs:=[e]) (os:=[.arr (32,true) 10 false ((flat L).map .t)]) (os':=[.arr (32,true) 10 false ((flat (WN L i e)).map .t)]) hu (by decide) rfl hc
def Hh (x:List Tree×Tree):List TV×List aO:=([.ref (.arg 0) 0 x.1.length,.t x.2],[.arr (32,true) 10 false ((flat x.1).map .t)])
def Mi (x:List Tree×Tree):Prop:=x.1≠ []/\x.1.length<=4194304/\(∀y∈x.1,T .aB y)/\T .av x.2
def Hj (m:Int)(x:List Tree×Tree):bk:=.ret (.t (.cv [.int .i64 (eV m (.sl x.1) x.2).1,.bool (eV m (.sl x.1) x.2).2])) [.arr (32,true) 10 false ((flat x.1).map .t)] []
theorem P7:∀x y,Mi x->Mi y->Hh x=Hh y->x=y:=by
 rintro ⟨L1,u1⟩ ⟨L2,u2⟩ h1 h2 h;have vD:L1=L2:=fJ (by decide) (aJ h1.2.2.1) (aJ h2.2.2.1) (congrArg (yP 0) h);have e_u:u1=u2:=by
  have h3:=congrArg (λp=>p.1[1]?) h;simpa [Hh] using h3
 rw[vD,e_u]
theorem WQ (m:Int)(x:List Tree×Tree)(h:Mi x):aq (cf m) 30 (Hh x).1 (Hh x).2 (Hj m x):=
 borrow (rest:=[x.2]) (aJ h.2.2.1) (by decide) h.1 RV (Classical.choose_spec (tE m) (.sl x.1) x.2 ⟨.ah _ h.2.1 h.2.2.1,h.2.2.2⟩).1
theorem dK {l:List Tree}(h:T .ah (.sl l)):l.length<=4194304/\∀y∈l,T .aB y:=by
 obtain⟨l',e,h1,h2⟩:=T.bU h;cases e;exact⟨h1,h2⟩
def zg (l:List Tree)(k:Nat)(b:Bool)(e:Tree):List Tree:=(if b then l.take k++l.drop (k+1) else l).take k++[e]++(if b then l.take k++l.drop (k+1) else l).drop k
def WR (m:Int)(l:List Tree)(e:Tree)(r:List Tree×Int):Prop:=(dN m (.sl l)≠0/\r=([],dN m (.sl l)))\/(dN m (.sl l)=0/\CT m e≠0/\r=([],CT m e))\/(dN m (.sl l)=0/\CT m e=0/\∃(k:Nat) (b:Bool),eV m (.sl l) (cm e)=((k:Int),b)/\((dN m (.sl (zg l k b e))≠0/\r=([],dN m (.sl (zg l k b e))))\/(dN m (.sl (zg l k b e))=0/\r=(zg l k b e,0))))
theorem P8 (m:Int){a b:List UInt8}(ha:a.length<=4194304)(hb:b.length<=4194304):eV m (.sl []) (.agg [.str a,.str b])=(((0:Nat):Int),false):=by
 obtain⟨k,h1,h2,h3,_⟩:=o9 m (l:=[]) (.ah _ (by decide) (λ_ h=>by cases h)) (.av a b ha hb);have hk:k=0:=Nat.le_zero.1 h2;subst hk;refine Prod.ext h1 ?_;cases h4:(eV m (.sl []) (.agg [.str a,.str b])).2 with
 |false=>rfl
 |true=>obtain⟨e,he,_⟩:=h3.1 h4;cases he
theorem RW (m:Int){a b:List UInt8}(ha:a.length<=4194304)(hb:b.length<=4194304):aq (cf m) 30 [.t (.sl []),.t (.agg [.str a,.str b])] [] (.ret (.t (.cv [.int .i64 ((0:Nat):Int),.bool false])) [] []):=by
 have h:R2 (cf m) 30 (.sl []) (.agg [.str a,.str b]) (.cv [.int .i64 (eV m (.sl []) (.agg [.str a,.str b])).1,.bool (eV m (.sl []) (.agg [.str a,.str b])).2]):=(Classical.choose_spec (tE m) (.sl []) (.agg [.str a,.str b]) ⟨.ah _ (by decide) (λ_ h=>by cases h),.av a b ha hb⟩).1;rw[P8 m ha hb] at h;exact h
theorem RX (m:Int){e:Tree}(he:T .aB e):aq (cf m) 32 [.jS [],.t (.int .i64 ((0:Nat):Int)),.ref (.arg 0) 0 1] [.arr (32,true) 10 false ((flat [e]).map .t)] (.ret (.ref (.loc [17]) 0 1) [.dead] [(.loc [17],.arr (32,true) 10 false ((flat [e]).map .t))]):=
 BG (xa:=[.jS [],.t (.int .i64 ((0:Nat):Int))]) (vs:=[e]) (os:=[]) (os':=[]) (aJ (Fp he)) (by decide) rfl (ZG m e he)
theorem agh (m:Int)(ls:List Tree)(FY:ls≠ [])(ll:ls.length<=4194304)(hl:∀y∈ls,T .aB y)(ut ui:List UInt8)(ps:List Tree)(kk:Int)(bb:Bool)(nn:Int)(ss tt:List UInt8)(ns vs:List Tree)(e0:ut.length<=4194304)(e1:ui.length<=4194304)(e2:ps.length<=4194304)(e3:∀y∈ps,T .av y)(e4:ss.length<=4194304)(e5:tt.length<=4194304)(e6:ns.length<=4194304)(e7:∀y∈ns,T .string y)(e8:vs.length<=4194304)(e9:∀y∈vs,T .aV y)(JJ:T .aB (.agg [.str ut,.str ui,.sl ps,.int .u8 kk,.bool bb,.int .i64 nn,.str ss,.str tt,.sl ns,.sl vs])):∃r:{r:List Tree×Int //(∀y∈r.1,T .aB y)/\WR m ls (.agg [.str ut,.str ui,.sl ps,.int .u8 kk,.bool bb,.int .i64 nn,.str ss,.str tt,.sl ns,.sl vs]) r},aq (cf m) 10 [.t (.sl ls),.t (.agg [.str ut,.str ui,.sl ps,.int .u8 kk,.bool bb,.int .i64 nn,.str ss,.str tt,.sl ns,.sl vs])] [] (.ret (.t (.cv [.sl r.1.1,.int .i64 r.1.2])) [] []):=by
 obtain⟨gO,jK⟩:=qW m;obtain⟨E8,LY⟩:=EX m;obtain⟨ev,aC,eY,E9,mT,aaQ,aaR,WS⟩:∃ev,aI (cf m) ev/\Has ev 23 (xU (λx=>T .ah x) (λx=>.int .i64 (gO x)))/\Has ev 28 (xU (λx=>T .aB x) (λx=>.int .i64 (E8 x)))/\Has ev 29 ZH/\Has ev 30 (iK Hh Mi (Hj m))/\Has ev 32 (iK Mh Hg aaP)/\Has ev 31 (iK Hf Fq WM):=⟨_,(aA (eD (λx h=>(jK x h).1)) (aA (eD (λx h=>(LY x h).1)) (aA (OB m) (aA (dh (WQ m)) (aA (dh (WO m)) (aA (dh (Mg m)) aN)))))),aF,(au rfl aF),(au rfl (au rfl aF)),(au rfl (au rfl (au rfl aF))),(au rfl (au rfl (au rfl (au rfl aF)))),(au rfl (au rfl (au rfl (au rfl (au rfl aF)))))⟩;refine AX.start 49 2 Tryz.func10 rfl (by decide) rfl rfl (by decide) ?_;refine AX.frames ?_;have hp1:=(jK (.sl ls) (.ah _ bh hl)).2;rcases bw (((gO (.sl ls)) != 0)) with cW|cW
 ·have mI:=bQ cW;refine⟨⟨([],(gO (.sl ls))),(λy hy=>by cases hy),.inl ⟨λh=>absurd (hp1.2.trans h) (bne_iff_ne.1 cW),Prod.ext rfl hp1.2⟩⟩,q4 ai 8934068846592 [] [oC (dM eY (x:=.sl ls) (.ah _ bh hl)),oB cW]⟩
 ·have mI:=aM cW;have yC:=(LY (.agg [.str ut,.str ui,.sl ps,.int .u8 kk,.bool bb,.int .i64 nn,.str ss,.str tt,.sl ns,.sl vs]) (.aB _ _ _ _ _ _ _ _ _ _ bh bh bh e3 bh bh bh e7 bh e9)).2;rcases bw (((E8 (.agg [.str ut,.str ui,.sl ps,.int .u8 kk,.bool bb,.int .i64 nn,.str ss,.str tt,.sl ns,.sl vs])) != 0)) with gh|gh
  ·have uH:=bQ gh;refine⟨⟨([],(E8 (.agg [.str ut,.str ui,.sl ps,.int .u8 kk,.bool bb,.int .i64 nn,.str ss,.str tt,.sl ns,.sl vs]))),(λy hy=>by cases hy),.inr (.inl ⟨hp1.2.symm.trans (aM cW),λh=>absurd (yC.2.trans h) (bne_iff_ne.1 gh),Prod.ext rfl yC.2⟩)⟩,q4 ai 8934068846592 [] [oC (dM eY (x:=.sl ls) (.ah _ bh hl)),oB cW,oC (dM E9 (x:=.agg [.str ut,.str ui,.sl ps,.int .u8 kk,.bool bb,.int .i64 nn,.str ss,.str tt,.sl ns,.sl vs]) (.aB _ _ _ _ _ _ _ _ _ _ bh bh bh e3 bh bh bh e7 bh e9)),oB gh]⟩
  ·have uH:=aM gh;have hc0:dN m (.sl ls)=0:=hp1.2.symm.trans (aM cW);have he0:CT m (.agg [.str ut,.str ui,.sl ps,.int .u8 kk,.bool bb,.int .i64 nn,.str ss,.str tt,.sl ns,.sl vs])=0:=yC.2.symm.trans (aM gh);have Xn:ls.length<=64:=((lH m (.ah _ ll hl)).zero hc0).1;have ZI:T .ah (.sl ls):=(.ah _ bh hl);have Mj:Mi (ls,.agg [.str ut,.str ui]):=⟨by assumption,(by first|(dsimp only;omega)|omega),hl,(.av _ _ bh bh)⟩;have agi:=o9 m (.ah _ Mj.2.1 Mj.2.2.1) Mj.2.2.2;obtain⟨dY,b_6,RY,ajX,aiZ⟩:∃(k8:Nat) (b8:Bool),eV m (.sl ls) (.agg [.str ut,.str ui])=((k8:Int),b8)/\k8<=ls.length/\(b8=true->k8<ls.length):=by
    obtain⟨k,e,h0,h,_⟩:=agi;exact⟨k,_,Prod.ext e rfl,h0,λh8=>(by obtain⟨_,h7,_⟩:=h.1 h8;exact(List.getElem?_eq_some_iff.1 h7).1)⟩
   rcases b_6 with _|_
   ·have ac4:Hj m (ls,.agg [.str ut,.str ui])=.ret (.t (.cv [.int .i64 ((dY:Nat):Int),.bool false])) [.arr (32,true) 10 false ((flat ls).map .t)] []:=by unfold Hj;rw[RY]
    have ac5:T .ah (.sl ([.agg [.str ut,.str ui,.sl ps,.int .u8 kk,.bool bb,.int .i64 nn,.str ss,.str tt,.sl ns,.sl vs]]:List Tree)):=(.ah _ bh (eC (.aB _ _ _ _ _ _ _ _ _ _ bh bh bh e3 bh bh bh e7 bh e9) (λ_ h=>absurd h (by simp))));have ajg:=(dK ac5).2;have agj:Hg (ls,ls.length,dY,(.agg [.str ut,.str ui,.sl ps,.int .u8 kk,.bool bb,.int .i64 nn,.str ss,.str tt,.sl ns,.sl vs])):=⟨(by first|(dsimp only;omega)|(simp;omega)),hl,(by first|rfl|(simp;omega)),(by first|(dsimp only;omega)|omega),JJ⟩;have ai0:((ls.take dY++[.agg [.str ut,.str ui,.sl ps,.int .u8 kk,.bool bb,.int .i64 nn,.str ss,.str tt,.sl ns,.sl vs]]++ls.drop dY):List Tree).length<=4194304:=by simp;omega
    have Fs:∀y∈(ls.take dY++[.agg [.str ut,.str ui,.sl ps,.int .u8 kk,.bool bb,.int .i64 nn,.str ss,.str tt,.sl ns,.sl vs]]++ls.drop dY),T .aB y:=λy hy=>(List.mem_append.1 hy).elim (λh=>(List.mem_append.1 h).elim (λh=>hl y (List.mem_of_mem_take h)) (λh=>by rw[List.mem_singleton.1 h];exact JJ)) (λh=>hl y (List.mem_of_mem_drop h))
    have hp9:=(jK (.sl (ls.take dY++[.agg [.str ut,.str ui,.sl ps,.int .u8 kk,.bool bb,.int .i64 nn,.str ss,.str tt,.sl ns,.sl vs]]++ls.drop dY)) (.ah _ bh Fs)).2;have agk:=fI aaR P6 (ls,ls.length,dY,(.agg [.str ut,.str ui,.sl ps,.int .u8 kk,.bool bb,.int .i64 nn,.str ss,.str tt,.sl ns,.sl vs])) agj rfl rfl;have agl:=(fI aaQ P7 (ls,.agg [.str ut,.str ui]) Mj rfl rfl).trans (congrArg some ac4);rcases bw (((gO (.sl (ls.take dY++[.agg [.str ut,.str ui,.sl ps,.int .u8 kk,.bool bb,.int .i64 nn,.str ss,.str tt,.sl ns,.sl vs]]++ls.drop dY))) != 0)) with jQ|jQ
    ·have Ah:=bQ jQ;refine⟨⟨([],(gO (.sl (ls.take dY++[.agg [.str ut,.str ui,.sl ps,.int .u8 kk,.bool bb,.int .i64 nn,.str ss,.str tt,.sl ns,.sl vs]]++ls.drop dY)))),(λy hy=>by cases hy),.inr (.inr ⟨hc0,he0,dY,_,RY,.inl ⟨λh=>absurd (hp9.2.trans h) (bne_iff_ne.1 jQ),Prod.ext rfl hp9.2⟩⟩)⟩,q4 ai 8934068846592 [] [oC (dM eY (x:=.sl ls) (.ah _ bh hl)),oB cW,oC (dM E9 (x:=.agg [.str ut,.str ui,.sl ps,.int .u8 kk,.bool bb,.int .i64 nn,.str ss,.str tt,.sl ns,.sl vs]) (.aB _ _ _ _ _ _ _ _ _ _ bh bh bh e3 bh bh bh e7 bh e9)),oB gh,oC (kg mT (l:=ls) ZI (by first|assumption|simp)),bO 32 10 ls,bO 32 10 ls,oC agl,bO 32 10 ls,oF,oC (kg mT (l:=([.agg [.str ut,.str ui,.sl ps,.int .u8 kk,.bool bb,.int .i64 nn,.str ss,.str tt,.sl ns,.sl vs]]:List Tree)) ac5 (by first|assumption|simp)),bO 32 10 ([.agg [.str ut,.str ui,.sl ps,.int .u8 kk,.bool bb,.int .i64 nn,.str ss,.str tt,.sl ns,.sl vs]]:List Tree),bO 32 10 ls,bO 32 10 ([.agg [.str ut,.str ui,.sl ps,.int .u8 kk,.bool bb,.int .i64 nn,.str ss,.str tt,.sl ns,.sl vs]]:List Tree),oC agk,bO 32 10 (ls.take dY++[.agg [.str ut,.str ui,.sl ps,.int .u8 kk,.bool bb,.int .i64 nn,.str ss,.str tt,.sl ns,.sl vs]]++ls.drop dY),oX true 10 (ls.take dY++[.agg [.str ut,.str ui,.sl ps,.int .u8 kk,.bool bb,.int .i64 nn,.str ss,.str tt,.sl ns,.sl vs]]++ls.drop dY) (ls.length+1) gW (aJ Fs),oC (dM eY (x:=.sl (ls.take dY++[.agg [.str ut,.str ui,.sl ps,.int .u8 kk,.bool bb,.int .i64 nn,.str ss,.str tt,.sl ns,.sl vs]]++ls.drop dY)) (.ah _ bh Fs)),oB jQ]⟩
    ·have Ah:=aM jQ;refine⟨⟨((ls.take dY++[.agg [.str ut,.str ui,.sl ps,.int .u8 kk,.bool bb,.int .i64 nn,.str ss,.str tt,.sl ns,.sl vs]]++ls.drop dY),0),Fs,.inr (.inr ⟨hc0,he0,dY,_,RY,.inr ⟨hp9.2.symm.trans (aM jQ),rfl⟩⟩)⟩,q4 ai 8934068846592 [] [oC (dM eY (x:=.sl ls) (.ah _ bh hl)),oB cW,oC (dM E9 (x:=.agg [.str ut,.str ui,.sl ps,.int .u8 kk,.bool bb,.int .i64 nn,.str ss,.str tt,.sl ns,.sl vs]) (.aB _ _ _ _ _ _ _ _ _ _ bh bh bh e3 bh bh bh e7 bh e9)),oB gh,oC (kg mT (l:=ls) ZI (by first|assumption|simp)),bO 32 10 ls,bO 32 10 ls,oC agl,bO 32 10 ls,oF,oC (kg mT (l:=([.agg [.str ut,.str ui,.sl ps,.int .u8 kk,.bool bb,.int .i64 nn,.str ss,.str tt,.sl ns,.sl vs]]:List Tree)) ac5 (by first|assumption|simp)),bO 32 10 ([.agg [.str ut,.str ui,.sl ps,.int .u8 kk,.bool bb,.int .i64 nn,.str ss,.str tt,.sl ns,.sl vs]]:List Tree),bO 32 10 ls,bO 32 10 ([.agg [.str ut,.str ui,.sl ps,.int .u8 kk,.bool bb,.int .i64 nn,.str ss,.str tt,.sl ns,.sl vs]]:List Tree),oC agk,bO 32 10 (ls.take dY++[.agg [.str ut,.str ui,.sl ps,.int .u8 kk,.bool bb,.int .i64 nn,.str ss,.str tt,.sl ns,.sl vs]]++ls.drop dY),oX true 10 (ls.take dY++[.agg [.str ut,.str ui,.sl ps,.int .u8 kk,.bool bb,.int .i64 nn,.str ss,.str tt,.sl ns,.sl vs]]++ls.drop dY) (ls.length+1) gW (aJ Fs),oC (dM eY (x:=.sl (ls.take dY++[.agg [.str ut,.str ui,.sl ps,.int .u8 kk,.bool bb,.int .i64 nn,.str ss,.str tt,.sl ns,.sl vs]]++ls.drop dY)) (.ah _ bh Fs)),oB jQ,oX true 10 (ls.take dY++[.agg [.str ut,.str ui,.sl ps,.int .u8 kk,.bool bb,.int .i64 nn,.str ss,.str tt,.sl ns,.sl vs]]++ls.drop dY) (ls.length+1) gW (aJ Fs)]⟩
   ·have ac4:Hj m (ls,.agg [.str ut,.str ui])=.ret (.t (.cv [.int .i64 ((dY:Nat):Int),.bool true])) [.arr (32,true) 10 false ((flat ls).map .t)] []:=by unfold Hj;rw[RY]
    have ajh:=aiZ rfl;have ac6:Fq (ls,ls.length,dY):=⟨(by first|(dsimp only;omega)|omega),hl,rfl,(by first|(dsimp only;omega)|omega)⟩;have OC:∀y∈(ls.take dY++ls.drop (dY+1)),T .aB y:=λy hy=>(List.mem_append.1 hy).elim (λh=>hl y (List.mem_of_mem_take h)) (λh=>hl y (List.mem_of_mem_drop h))
    have WT:T .ah (.sl ([.agg [.str ut,.str ui,.sl ps,.int .u8 kk,.bool bb,.int .i64 nn,.str ss,.str tt,.sl ns,.sl vs]]:List Tree)):=(.ah _ bh (eC (.aB _ _ _ _ _ _ _ _ _ _ bh bh bh e3 bh bh bh e7 bh e9) (λ_ h=>absurd h (by simp))));have ai1:=(dK WT).2;have ac7:Hg ((ls.take dY++ls.drop (dY+1)),(ls.length - 1),dY,(.agg [.str ut,.str ui,.sl ps,.int .u8 kk,.bool bb,.int .i64 nn,.str ss,.str tt,.sl ns,.sl vs])):=⟨(by first|(dsimp only;omega)|(simp;omega)),OC,(by first|rfl|(simp;omega)),(by first|(dsimp only;omega)|omega),JJ⟩;have agW:(((ls.take dY++ls.drop (dY+1)).take dY++[.agg [.str ut,.str ui,.sl ps,.int .u8 kk,.bool bb,.int .i64 nn,.str ss,.str tt,.sl ns,.sl vs]]++(ls.take dY++ls.drop (dY+1)).drop dY):List Tree).length<=4194304:=by simp;omega
    have zh:∀y∈((ls.take dY++ls.drop (dY+1)).take dY++[.agg [.str ut,.str ui,.sl ps,.int .u8 kk,.bool bb,.int .i64 nn,.str ss,.str tt,.sl ns,.sl vs]]++(ls.take dY++ls.drop (dY+1)).drop dY),T .aB y:=λy hy=>(List.mem_append.1 hy).elim (λh=>(List.mem_append.1 h).elim (λh=>OC y (List.mem_of_mem_take h)) (λh=>by rw[List.mem_singleton.1 h];exact JJ)) (λh=>OC y (List.mem_of_mem_drop h))
    have ac8:=(jK (.sl ((ls.take dY++ls.drop (dY+1)).take dY++[.agg [.str ut,.str ui,.sl ps,.int .u8 kk,.bool bb,.int .i64 nn,.str ss,.str tt,.sl ns,.sl vs]]++(ls.take dY++ls.drop (dY+1)).drop dY)) (.ah _ bh zh)).2;have agm:=fI aaR P6 ((ls.take dY++ls.drop (dY+1)),(ls.length - 1),dY,(.agg [.str ut,.str ui,.sl ps,.int .u8 kk,.bool bb,.int .i64 nn,.str ss,.str tt,.sl ns,.sl vs])) ac7 rfl rfl;have agn:=(fI aaQ P7 (ls,.agg [.str ut,.str ui]) Mj rfl rfl).trans (congrArg some ac4);have ago:=fI WS P5 (ls,ls.length,dY) ac6 rfl rfl;rcases bw (((gO (.sl ((ls.take dY++ls.drop (dY+1)).take dY++[.agg [.str ut,.str ui,.sl ps,.int .u8 kk,.bool bb,.int .i64 nn,.str ss,.str tt,.sl ns,.sl vs]]++(ls.take dY++ls.drop (dY+1)).drop dY))) != 0)) with lq|lq
    ·have Ew:=bQ lq;refine⟨⟨([],(gO (.sl ((ls.take dY++ls.drop (dY+1)).take dY++[.agg [.str ut,.str ui,.sl ps,.int .u8 kk,.bool bb,.int .i64 nn,.str ss,.str tt,.sl ns,.sl vs]]++(ls.take dY++ls.drop (dY+1)).drop dY)))),(λy hy=>by cases hy),.inr (.inr ⟨hc0,he0,dY,_,RY,.inl ⟨λh=>absurd (ac8.2.trans h) (bne_iff_ne.1 lq),Prod.ext rfl ac8.2⟩⟩)⟩,q4 ai 8934068846592 [] [oC (dM eY (x:=.sl ls) (.ah _ bh hl)),oB cW,oC (dM E9 (x:=.agg [.str ut,.str ui,.sl ps,.int .u8 kk,.bool bb,.int .i64 nn,.str ss,.str tt,.sl ns,.sl vs]) (.aB _ _ _ _ _ _ _ _ _ _ bh bh bh e3 bh bh bh e7 bh e9)),oB gh,oC (kg mT (l:=ls) ZI (by first|assumption|simp)),bO 32 10 ls,bO 32 10 ls,oC agn,bO 32 10 ls,oT,oI (dY) (by omega),bO 32 10 ls,oC ago,bO 32 10 (ls.take dY++ls.drop (dY+1)),oC (kg mT (l:=([.agg [.str ut,.str ui,.sl ps,.int .u8 kk,.bool bb,.int .i64 nn,.str ss,.str tt,.sl ns,.sl vs]]:List Tree)) WT (by first|assumption|simp)),bO 32 10 ([.agg [.str ut,.str ui,.sl ps,.int .u8 kk,.bool bb,.int .i64 nn,.str ss,.str tt,.sl ns,.sl vs]]:List Tree),bO 32 10 (ls.take dY++ls.drop (dY+1)),bO 32 10 ([.agg [.str ut,.str ui,.sl ps,.int .u8 kk,.bool bb,.int .i64 nn,.str ss,.str tt,.sl ns,.sl vs]]:List Tree),oC agm,bO 32 10 ((ls.take dY++ls.drop (dY+1)).take dY++[.agg [.str ut,.str ui,.sl ps,.int .u8 kk,.bool bb,.int .i64 nn,.str ss,.str tt,.sl ns,.sl vs]]++(ls.take dY++ls.drop (dY+1)).drop dY),oX true 10 ((ls.take dY++ls.drop (dY+1)).take dY++[.agg [.str ut,.str ui,.sl ps,.int .u8 kk,.bool bb,.int .i64 nn,.str ss,.str tt,.sl ns,.sl vs]]++(ls.take dY++ls.drop (dY+1)).drop dY) ((ls.length - 1)+1) gW (aJ zh),oC (dM eY (x:=.sl ((ls.take dY++ls.drop (dY+1)).take dY++[.agg [.str ut,.str ui,.sl ps,.int .u8 kk,.bool bb,.int .i64 nn,.str ss,.str tt,.sl ns,.sl vs]]++(ls.take dY++ls.drop (dY+1)).drop dY)) (.ah _ bh zh)),oB lq]⟩
    ·have Ew:=aM lq;refine⟨⟨(((ls.take dY++ls.drop (dY+1)).take dY++[.agg [.str ut,.str ui,.sl ps,.int .u8 kk,.bool bb,.int .i64 nn,.str ss,.str tt,.sl ns,.sl vs]]++(ls.take dY++ls.drop (dY+1)).drop dY),0),zh,.inr (.inr ⟨hc0,he0,dY,_,RY,.inr ⟨ac8.2.symm.trans (aM lq),rfl⟩⟩)⟩,q4 ai 8934068846592 [] [oC (dM eY (x:=.sl ls) (.ah _ bh hl)),oB cW,oC (dM E9 (x:=.agg [.str ut,.str ui,.sl ps,.int .u8 kk,.bool bb,.int .i64 nn,.str ss,.str tt,.sl ns,.sl vs]) (.aB _ _ _ _ _ _ _ _ _ _ bh bh bh e3 bh bh bh e7 bh e9)),oB gh,oC (kg mT (l:=ls) ZI (by first|assumption|simp)),bO 32 10 ls,bO 32 10 ls,oC agn,bO 32 10 ls,oT,oI (dY) (by omega),bO 32 10 ls,oC ago,bO 32 10 (ls.take dY++ls.drop (dY+1)),oC (kg mT (l:=([.agg [.str ut,.str ui,.sl ps,.int .u8 kk,.bool bb,.int .i64 nn,.str ss,.str tt,.sl ns,.sl vs]]:List Tree)) WT (by first|assumption|simp)),bO 32 10 ([.agg [.str ut,.str ui,.sl ps,.int .u8 kk,.bool bb,.int .i64 nn,.str ss,.str tt,.sl ns,.sl vs]]:List Tree),bO 32 10 (ls.take dY++ls.drop (dY+1)),bO 32 10 ([.agg [.str ut,.str ui,.sl ps,.int .u8 kk,.bool bb,.int .i64 nn,.str ss,.str tt,.sl ns,.sl vs]]:List Tree),oC agm,bO 32 10 ((ls.take dY++ls.drop (dY+1)).take dY++[.agg [.str ut,.str ui,.sl ps,.int .u8 kk,.bool bb,.int .i64 nn,.str ss,.str tt,.sl ns,.sl vs]]++(ls.take dY++ls.drop (dY+1)).drop dY),oX true 10 ((ls.take dY++ls.drop (dY+1)).take dY++[.agg [.str ut,.str ui,.sl ps,.int .u8 kk,.bool bb,.int .i64 nn,.str ss,.str tt,.sl ns,.sl vs]]++(ls.take dY++ls.drop (dY+1)).drop dY) ((ls.length - 1)+1) gW (aJ zh),oC (dM eY (x:=.sl ((ls.take dY++ls.drop (dY+1)).take dY++[.agg [.str ut,.str ui,.sl ps,.int .u8 kk,.bool bb,.int .i64 nn,.str ss,.str tt,.sl ns,.sl vs]]++(ls.take dY++ls.drop (dY+1)).drop dY)) (.ah _ bh zh)),oB lq,oX true 10 ((ls.take dY++ls.drop (dY+1)).take dY++[.agg [.str ut,.str ui,.sl ps,.int .u8 kk,.bool bb,.int .i64 nn,.str ss,.str tt,.sl ns,.sl vs]]++(ls.take dY++ls.drop (dY+1)).drop dY) ((ls.length - 1)+1) gW (aJ zh)]⟩
theorem agp (m:Int)(ut ui:List UInt8)(ps:List Tree)(kk:Int)(bb:Bool)(nn:Int)(ss tt:List UInt8)(ns vs:List Tree)(e0:ut.length<=4194304)(e1:ui.length<=4194304)(e2:ps.length<=4194304)(e3:∀y∈ps,T .av y)(e4:ss.length<=4194304)(e5:tt.length<=4194304)(e6:ns.length<=4194304)(e7:∀y∈ns,T .string y)(e8:vs.length<=4194304)(e9:∀y∈vs,T .aV y)(JJ:T .aB (.agg [.str ut,.str ui,.sl ps,.int .u8 kk,.bool bb,.int .i64 nn,.str ss,.str tt,.sl ns,.sl vs])):∃r:{r:List Tree×Int //(∀y∈r.1,T .aB y)/\WR m [] (.agg [.str ut,.str ui,.sl ps,.int .u8 kk,.bool bb,.int .i64 nn,.str ss,.str tt,.sl ns,.sl vs]) r},aq (cf m) 10 [.t (.sl []),.t (.agg [.str ut,.str ui,.sl ps,.int .u8 kk,.bool bb,.int .i64 nn,.str ss,.str tt,.sl ns,.sl vs])] [] (.ret (.t (.cv [.sl r.1.1,.int .i64 r.1.2])) [] []):=by
 obtain⟨gO,jK⟩:=qW m;obtain⟨E8,LY⟩:=EX m;obtain⟨ev,aC,eY,E9,mT,WU,WV⟩:∃ev,aI (cf m) ev/\Has ev 23 (xU (λx=>T .ah x) (λx=>.int .i64 (gO x)))/\Has ev 28 (xU (λx=>T .aB x) (λx=>.int .i64 (E8 x)))/\Has ev 29 ZH/\Has ev 30 (px [.t (.sl []),.t (.agg [.str ut,.str ui])] [] (.ret (.t (.cv [.int .i64 ((0:Nat):Int),.bool false])) [] []))/\Has ev 32 (px [.jS [],.t (.int .i64 ((0:Nat):Int)),.ref (.arg 0) 0 1] [.arr (32,true) 10 false ((flat [(.agg [.str ut,.str ui,.sl ps,.int .u8 kk,.bool bb,.int .i64 nn,.str ss,.str tt,.sl ns,.sl vs])]).map .t)] (.ret (.ref (.loc [17]) 0 1) [.dead] [(.loc [17],.arr (32,true) 10 false ((flat [(.agg [.str ut,.str ui,.sl ps,.int .u8 kk,.bool bb,.int .i64 nn,.str ss,.str tt,.sl ns,.sl vs])]).map .t))])):=⟨_,(aA (eD (λx h=>(jK x h).1)) (aA (eD (λx h=>(LY x h).1)) (aA (OB m) (aA (Ag (RW m e0 e1)) (aA (Ag (RX m JJ)) aN))))),aF,(au rfl aF),(au rfl (au rfl aF)),(au rfl (au rfl (au rfl aF))),(au rfl (au rfl (au rfl (au rfl aF))))⟩;refine AX.start 49 2 Tryz.func10 rfl (by decide) rfl rfl (by decide) ?_;refine AX.frames ?_;have hp1:=(jK (.sl []) (.ah _ bh (by simp))).2;rcases bw (((gO (.sl [])) != 0)) with cW|cW
 ·have mI:=bQ cW;refine⟨⟨([],(gO (.sl []))),(λy hy=>by cases hy),.inl ⟨λh=>absurd (hp1.2.trans h) (bne_iff_ne.1 cW),Prod.ext rfl hp1.2⟩⟩,q4 ai 8796093022208 [] [oC (dM eY (x:=.sl []) (.ah _ bh (by simp))),oB cW]⟩
 ·have mI:=aM cW;have yC:=(LY (.agg [.str ut,.str ui,.sl ps,.int .u8 kk,.bool bb,.int .i64 nn,.str ss,.str tt,.sl ns,.sl vs]) (.aB _ _ _ _ _ _ _ _ _ _ bh bh bh e3 bh bh bh e7 bh e9)).2;rcases bw (((E8 (.agg [.str ut,.str ui,.sl ps,.int .u8 kk,.bool bb,.int .i64 nn,.str ss,.str tt,.sl ns,.sl vs])) != 0)) with gh|gh
  ·have uH:=bQ gh;refine⟨⟨([],(E8 (.agg [.str ut,.str ui,.sl ps,.int .u8 kk,.bool bb,.int .i64 nn,.str ss,.str tt,.sl ns,.sl vs]))),(λy hy=>by cases hy),.inr (.inl ⟨hp1.2.symm.trans (aM cW),λh=>absurd (yC.2.trans h) (bne_iff_ne.1 gh),Prod.ext rfl yC.2⟩)⟩,q4 ai 8796093022208 [] [oC (dM eY (x:=.sl []) (.ah _ bh (by simp))),oB cW,oC (dM E9 (x:=.agg [.str ut,.str ui,.sl ps,.int .u8 kk,.bool bb,.int .i64 nn,.str ss,.str tt,.sl ns,.sl vs]) (.aB _ _ _ _ _ _ _ _ _ _ bh bh bh e3 bh bh bh e7 bh e9)),oB gh]⟩
  ·have uH:=aM gh;have hc0:dN m (.sl [])=0:=hp1.2.symm.trans (aM cW);have he0:CT m (.agg [.str ut,.str ui,.sl ps,.int .u8 kk,.bool bb,.int .i64 nn,.str ss,.str tt,.sl ns,.sl vs])=0:=yC.2.symm.trans (aM gh);have hf0:=P8 m e0 e1;have ac9:T .ah (.sl ([.agg [.str ut,.str ui,.sl ps,.int .u8 kk,.bool bb,.int .i64 nn,.str ss,.str tt,.sl ns,.sl vs]]:List Tree)):=(.ah _ bh (eC (.aB _ _ _ _ _ _ _ _ _ _ bh bh bh e3 bh bh bh e7 bh e9) (λ_ h=>absurd h (by simp))));have aji:=(dK ac9).2;have ajY:(([(.agg [.str ut,.str ui,.sl ps,.int .u8 kk,.bool bb,.int .i64 nn,.str ss,.str tt,.sl ns,.sl vs])]:List Tree)).length<=4194304:=by show 1<=4194304;omega
   have OD:=Fp JJ;have Rq:=(jK (.sl ([(.agg [.str ut,.str ui,.sl ps,.int .u8 kk,.bool bb,.int .i64 nn,.str ss,.str tt,.sl ns,.sl vs])]:List Tree)) (.ah _ bh OD)).2;rcases bw (((gO (.sl ([(.agg [.str ut,.str ui,.sl ps,.int .u8 kk,.bool bb,.int .i64 nn,.str ss,.str tt,.sl ns,.sl vs])]:List Tree))) != 0)) with jB|jB
   ·have wN:=bQ jB;refine⟨⟨([],(gO (.sl ([(.agg [.str ut,.str ui,.sl ps,.int .u8 kk,.bool bb,.int .i64 nn,.str ss,.str tt,.sl ns,.sl vs])]:List Tree)))),(λy hy=>by cases hy),.inr (.inr ⟨hc0,he0,0,false,hf0,.inl ⟨λh=>absurd (Rq.2.trans h) (bne_iff_ne.1 jB),Prod.ext rfl Rq.2⟩⟩)⟩,q4 ai 8796093022208 [] [oC (dM eY (x:=.sl []) (.ah _ bh (by simp))),oB cW,oC (dM E9 (x:=.agg [.str ut,.str ui,.sl ps,.int .u8 kk,.bool bb,.int .i64 nn,.str ss,.str tt,.sl ns,.sl vs]) (.aB _ _ _ _ _ _ _ _ _ _ bh bh bh e3 bh bh bh e7 bh e9)),oB gh,oC (Mf mT),oC (Cs WU),oF,oC (kg mT (l:=([.agg [.str ut,.str ui,.sl ps,.int .u8 kk,.bool bb,.int .i64 nn,.str ss,.str tt,.sl ns,.sl vs]]:List Tree)) ac9 (by first|assumption|simp)),bO 32 10 ([.agg [.str ut,.str ui,.sl ps,.int .u8 kk,.bool bb,.int .i64 nn,.str ss,.str tt,.sl ns,.sl vs]]:List Tree),bO 32 10 ([.agg [.str ut,.str ui,.sl ps,.int .u8 kk,.bool bb,.int .i64 nn,.str ss,.str tt,.sl ns,.sl vs]]:List Tree),oC (Cs WV),bO 32 10 ([(.agg [.str ut,.str ui,.sl ps,.int .u8 kk,.bool bb,.int .i64 nn,.str ss,.str tt,.sl ns,.sl vs])]:List Tree),oX true 10 ([(.agg [.str ut,.str ui,.sl ps,.int .u8 kk,.bool bb,.int .i64 nn,.str ss,.str tt,.sl ns,.sl vs])]:List Tree) 1 gW (aJ OD),oC (dM eY (x:=.sl ([(.agg [.str ut,.str ui,.sl ps,.int .u8 kk,.bool bb,.int .i64 nn,.str ss,.str tt,.sl ns,.sl vs])]:List Tree)) (.ah _ bh OD)),oB jB]⟩
   ·have wN:=aM jB;refine⟨⟨(([(.agg [.str ut,.str ui,.sl ps,.int .u8 kk,.bool bb,.int .i64 nn,.str ss,.str tt,.sl ns,.sl vs])]:List Tree),0),OD,.inr (.inr ⟨hc0,he0,0,false,hf0,.inr ⟨Rq.2.symm.trans (aM jB),rfl⟩⟩)⟩,q4 ai 8796093022208 [] [oC (dM eY (x:=.sl []) (.ah _ bh (by simp))),oB cW,oC (dM E9 (x:=.agg [.str ut,.str ui,.sl ps,.int .u8 kk,.bool bb,.int .i64 nn,.str ss,.str tt,.sl ns,.sl vs]) (.aB _ _ _ _ _ _ _ _ _ _ bh bh bh e3 bh bh bh e7 bh e9)),oB gh,oC (Mf mT),oC (Cs WU),oF,oC (kg mT (l:=([.agg [.str ut,.str ui,.sl ps,.int .u8 kk,.bool bb,.int .i64 nn,.str ss,.str tt,.sl ns,.sl vs]]:List Tree)) ac9 (by first|assumption|simp)),bO 32 10 ([.agg [.str ut,.str ui,.sl ps,.int .u8 kk,.bool bb,.int .i64 nn,.str ss,.str tt,.sl ns,.sl vs]]:List Tree),bO 32 10 ([.agg [.str ut,.str ui,.sl ps,.int .u8 kk,.bool bb,.int .i64 nn,.str ss,.str tt,.sl ns,.sl vs]]:List Tree),oC (Cs WV),bO 32 10 ([(.agg [.str ut,.str ui,.sl ps,.int .u8 kk,.bool bb,.int .i64 nn,.str ss,.str tt,.sl ns,.sl vs])]:List Tree),oX true 10 ([(.agg [.str ut,.str ui,.sl ps,.int .u8 kk,.bool bb,.int .i64 nn,.str ss,.str tt,.sl ns,.sl vs])]:List Tree) 1 gW (aJ OD),oC (dM eY (x:=.sl ([(.agg [.str ut,.str ui,.sl ps,.int .u8 kk,.bool bb,.int .i64 nn,.str ss,.str tt,.sl ns,.sl vs])]:List Tree)) (.ah _ bh OD)),oB jB,oX true 10 ([(.agg [.str ut,.str ui,.sl ps,.int .u8 kk,.bool bb,.int .i64 nn,.str ss,.str tt,.sl ns,.sl vs])]:List Tree) 1 gW (aJ OD)]⟩
theorem WW (m:Int):∃F:Tree->Tree->List Tree×Int,∀x y,(T .ah x/\T .aB y)->R2 (cf m) 10 x y (.cv [.sl (F x y).1,.int .i64 (F x y).2])/\((∀z∈(F x y).1,T .aB z)/\WR m (gR x) y (F x y)):=by
 refine xV (P:=λx y=>T .ah x/\T .aB y) (mk:=λ(r:List Tree×Int)=>.cv [.sl r.1,.int .i64 r.2]) (Post:=λx y r=>(∀z∈r.1,T .aB z)/\WR m (gR x) y r) λx y h=> ?_
 obtain⟨l,rfl,hl,hl2⟩:=T.bU h.1;have JJ:=h.2;obtain⟨ut,ui,ps,kk,bb,nn,ss,tt,ns,vs,rfl,e0,e1,e2,e3,e4,e5,e6,e7,e8,e9⟩:=T.bg h.2;by_cases hne:l=[]
 ·subst hne;exact agp m ut ui ps kk bb nn ss tt ns vs e0 e1 e2 e3 e4 e5 e6 e7 e8 e9 JJ
 ·exact agh m l hne hl hl2 ut ui ps kk bb nn ss tt ns vs e0 e1 e2 e3 e4 e5 e6 e7 e8 e9 JJ
def Hl (m:Int)(l:List Tree)(u:Tree)(r:List Tree×Int):Prop:=(dN m (.sl l)≠0/\r=([],dN m (.sl l)))\/(dN m (.sl l)=0/\(((eV m (.sl l) u).2=false/\r=([],9))\/∃(k:Nat) (e:Tree),eV m (.sl l) u=((k:Int),true)/\l[k]?=some e/\r=(l.take k++l.drop (k+1),0)))
theorem WX {m:Int}{u:Tree}{r:Tree×Int}(h:tJ m [] u r):(dN m (.sl [])≠0/\r=(jL,dN m (.sl [])))\/(dN m (.sl [])=0/\(eV m (.sl []) u).2=false/\r=(jL,9)):=by
 rcases h with h|⟨h0,h|⟨k,e,_,he,_⟩⟩
 ·exact .inl h
 ·exact .inr ⟨h0,h⟩
 ·cases he
theorem mW {p:Prop}(h:p):p:=h
theorem ada (m:Int)(ls:List Tree)(FY:ls≠ [])(ll:ls.length<=4194304)(hl:∀y∈ls,T .aB y)(a b:List UInt8)(ha:a.length<=4194304)(hb:b.length<=4194304):∃r:{r:List Tree×Int //(∀y∈r.1,T .aB y)/\Hl m ls (.agg [.str a,.str b]) r},aq (cf m) 19 [.t (.sl ls),.t (.agg [.str a,.str b])] [] (.ret (.t (.cv [.sl r.1.1,.int .i64 r.1.2])) [] []):=by
 obtain⟨sF,nR⟩:=Bz m;obtain⟨pS,tF⟩:=xM m;obtain⟨ev,aC,nS,rY,mT,WS⟩:∃ev,aI (cf m) ev/\Has ev 16 (wB (λx y=>T .ah x/\T .av y) (λx y=>.cv [(sF x y).1,.int .i64 (sF x y).2]))/\Has ev 30 (wB (λx y=>T .ah x/\T .av y) (λx y=>.cv [.int .i64 (pS x y).1,.bool (pS x y).2]))/\Has ev 29 ZH/\Has ev 31 (iK Hf Fq WM):=⟨_,(aA (ec (λx y h=>(nR x y h).1)) (aA (ec (λx y h=>(tF x y h).1)) (aA (OB m) (aA (dh (Mg m)) aN)))),aF,(au rfl aF),(au rfl (au rfl aF)),(au rfl (au rfl (au rfl aF)))⟩;refine AX.start 31 2 Tryz.func19 rfl (by decide) rfl rfl (by decide) ?_;refine AX.frames ?_;have Xu:T .ah (.sl ls)/\T .av (.agg [.str a,.str b]):=⟨(.ah _ bh hl),(.av _ _ bh bh)⟩;have hfF:tJ m ls (.agg [.str a,.str b]) (sF (.sl ls) (.agg [.str a,.str b])):=(nR _ _ Xu).2.2;rcases hfF with ⟨hc1,Gj⟩|⟨hc0,⟨hb1,Gj⟩|⟨kF,eF,hkF,adb,Gj⟩⟩
 ·refine⟨⟨([],(dN m (.sl ls))),(λy hy=>by cases hy),.inl ⟨hc1,rfl⟩⟩,q4 ai 2147483648 [] [xC 16 [.t (.sl ls),.t (.agg [.str a,.str b])] (.cv [jL,.int .i64 (dN m (.sl ls))]) ((ey nS (x:=(.sl ls)) (y:=(.agg [.str a,.str b])) Xu).trans (congrArg (λz:Tree×Int=>some (bk.ret (.t (.cv [z.1,.int .i64 z.2])) [] [])) Gj)),oB (bne_iff_ne.2 hc1)]⟩
 ·refine⟨⟨([],9),(λy hy=>by cases hy),.inr ⟨hc0,.inl ⟨hb1,rfl⟩⟩⟩,q4 ai 2147483648 [] [xC 16 [.t (.sl ls),.t (.agg [.str a,.str b])] (.cv [jL,.int .i64 9]) ((ey nS (x:=(.sl ls)) (y:=(.agg [.str a,.str b])) Xu).trans (congrArg (λz:Tree×Int=>some (bk.ret (.t (.cv [z.1,.int .i64 z.2])) [] [])) Gj)),oT]⟩
 ·have ajZ:kF<ls.length:=(List.getElem?_eq_some_iff.1 adb).1;have Xn:ls.length<=64:=((lH m (.ah _ ll hl)).zero hc0).1;obtain⟨fa,fb,fps,fk,fbb,fn,fs,ft,fns,fvs,rfl,fh0,fh1,fh2,fh3,fh4,fh5,fh6,fh7,fh8,fh9⟩:=T.bg (hl eF (kQ adb));have agq:Fq (ls,ls.length,kF):=⟨(by first|(dsimp only;omega)|omega),hl,rfl,(by first|(dsimp only;omega)|omega)⟩;have aaS:∀y∈(ls.take kF++ls.drop (kF+1)),T .aB y:=λy hy=>(List.mem_append.1 hy).elim (λh=>hl y (List.mem_of_mem_take h)) (λh=>hl y (List.mem_of_mem_drop h))
  refine⟨⟨((ls.take kF++ls.drop (kF+1)),0),aaS,.inr ⟨hc0,.inr ⟨kF,_,hkF,adb,rfl⟩⟩⟩,q4 ai 2147483648 [] [xC 16 [.t (.sl ls),.t (.agg [.str a,.str b])] (.cv [(.agg [.str fa,.str fb,.sl fps,.int .u8 fk,.bool fbb,.int .i64 fn,.str fs,.str ft,.sl fns,.sl fvs]),.int .i64 0]) ((ey nS (x:=(.sl ls)) (y:=(.agg [.str a,.str b])) Xu).trans (congrArg (λz:Tree×Int=>some (bk.ret (.t (.cv [z.1,.int .i64 z.2])) [] [])) Gj)),oF,xC 30 [.t (.sl ls),.t (.agg [.str a,.str b])] (.cv [.int .i64 ((kF:Nat):Int),.bool true]) (mW (show ev 30 [.t (.sl ls),.t (.agg [.str a,.str b])] []=some (bk.ret (.t (.cv [.int .i64 ((kF:Nat):Int),.bool true])) [] []) from(ey rY (x:=(.sl ls)) (y:=(.agg [.str a,.str b])) Xu).trans (congrArg (λz:Int×Bool=>some (bk.ret (.t (.cv [.int .i64 z.1,.bool z.2])) [] [])) ((tF _ _ Xu).2.2.trans hkF)))),oC (kg mT (l:=ls) (.ah _ ll hl) FY),bO 32 10 ls,oI (kF) (by omega),bO 32 10 ls,oC (fI WS P5 (ls,ls.length,kF) agq rfl rfl),bO 32 10 (ls.take kF++ls.drop (kF+1)),oX true 10 (ls.take kF++ls.drop (kF+1)) (ls.length - 1) gW (aJ aaS)]⟩
theorem ade (m:Int)(a b:List UInt8)(ha:a.length<=4194304)(hb:b.length<=4194304):∃r:{r:List Tree×Int //(∀y∈r.1,T .aB y)/\Hl m [] (.agg [.str a,.str b]) r},aq (cf m) 19 [.t (.sl []),.t (.agg [.str a,.str b])] [] (.ret (.t (.cv [.sl r.1.1,.int .i64 r.1.2])) [] []):=by
 obtain⟨sF,nR⟩:=Bz m;obtain⟨ev,aC,nS⟩:∃ev,aI (cf m) ev/\Has ev 16 (wB (λx y=>T .ah x/\T .av y) (λx y=>.cv [(sF x y).1,.int .i64 (sF x y).2])):=⟨_,(aA (ec (λx y h=>(nR x y h).1)) aN),aF⟩;refine AX.start 31 2 Tryz.func19 rfl (by decide) rfl rfl (by decide) ?_;refine AX.frames ?_;have Xu:T .ah (.sl [])/\T .av (.agg [.str a,.str b]):=⟨(.ah _ bh (by simp)),(.av _ _ bh bh)⟩;have hfF:=WX (m:=m) (u:=(.agg [.str a,.str b])) (r:=sF (.sl []) (.agg [.str a,.str b])) (nR _ _ Xu).2.2;rcases hfF with ⟨hc1,Gj⟩|⟨hc0,hb1,Gj⟩
 ·refine⟨⟨([],(dN m (.sl []))),(λy hy=>by cases hy),.inl ⟨hc1,rfl⟩⟩,q4 ai 2147483648 [] [xC 16 [.t (.sl []),.t (.agg [.str a,.str b])] (.cv [jL,.int .i64 (dN m (.sl []))]) ((ey nS (x:=(.sl [])) (y:=(.agg [.str a,.str b])) Xu).trans (congrArg (λz:Tree×Int=>some (bk.ret (.t (.cv [z.1,.int .i64 z.2])) [] [])) Gj)),oB (bne_iff_ne.2 hc1)]⟩
 ·refine⟨⟨([],9),(λy hy=>by cases hy),.inr ⟨hc0,.inl ⟨hb1,rfl⟩⟩⟩,q4 ai 2147483648 [] [xC 16 [.t (.sl []),.t (.agg [.str a,.str b])] (.cv [jL,.int .i64 9]) ((ey nS (x:=(.sl [])) (y:=(.agg [.str a,.str b])) Xu).trans (congrArg (λz:Tree×Int=>some (bk.ret (.t (.cv [z.1,.int .i64 z.2])) [] [])) Gj)),oT]⟩
theorem RZ (m:Int):∃F:Tree->Tree->List Tree×Int,∀x y,(T .ah x/\T .av y)->R2 (cf m) 19 x y (.cv [.sl (F x y).1,.int .i64 (F x y).2])/\((∀z∈(F x y).1,T .aB z)/\Hl m (gR x) y (F x y)):=by
 refine xV (P:=λx y=>T .ah x/\T .av y) (mk:=λ(r:List Tree×Int)=>.cv [.sl r.1,.int .i64 r.2]) (Post:=λx y r=>(∀z∈r.1,T .aB z)/\Hl m (gR x) y r) λx y h=> ?_
 obtain⟨l,rfl,hl,hl2⟩:=T.bU h.1;obtain⟨a,b,rfl,ha,hb⟩:=T.bx h.2;by_cases hne:l=[]
 ·subst hne;exact ade m a b ha hb
 ·exact ada m l hne hl hl2 a b ha hb
end
end Go.Proofs.YtnfnihgmankidaaGreatDoor.w.e
namespace Go.Proofs.YtnfnihgmankidaaGreatDoor.w.e
open Go Go.Abs Go.RowKit
set_option maxRecDepth 100000
set_option maxHeartbeats 2000000
noncomputable section
theorem JD {e:Tree}(h:T .aB e):T .av (cm e):=by
 obtain⟨a,b,ps,k,b2,n,s,t,ns,l,rfl,h0,h1,_⟩:=T.bg h;exact .av a b h0 h1
theorem WY {e:Tree}(h:T .aB e):∀y∈gT e,T .av y:=by
 obtain⟨a,b,ps,k,b2,n,s,t,ns,l,rfl,h0,h1,h2,h3,_⟩:=T.bg h;exact h3
theorem ZJ {m:Int}{l A:List Tree}(hA:T .ah (.sl A))(hl:T .ah (.sl l))(hr:nF A)(hs:l.Sublist A){u:Tree}(hu:T .av u){v:Tree}(hv:v∈iY (eV m) l u):v∈iY (eV m) A u/\T .av v:=by
 have hrl:nF l:=hr.sublist hs;by_cases hin:∃e∈l,cm e=u
 ·obtain⟨e,he,rfl⟩:=hin;obtain⟨i,hi⟩:=List.getElem?_of_mem he;obtain⟨j,hj⟩:=List.getElem?_of_mem (hs.subset he);rw[tL hl hu hrl hi] at hv;rw[tL hA hu hr hj];exact⟨hv,WY ((dK hl).2 e he) v hv⟩
 ·rw[Oo hl hu (λe he h=>hin ⟨e,he,h⟩)] at hv;cases hv
theorem ZK {m:Int}{l A:List Tree}(hA:T .ah (.sl A))(hl:T .ah (.sl l))(hr:nF A)(hs:l.Sublist A){sm:List Tree}(h0:∀u∈sm,T .av u){v:Tree}(h:vE (iY (eV m) l) sm v):vE (iY (eV m) A) sm v/\T .av v:=by
 induction h with
 |base hu=>exact⟨.base hu,h0 _ hu⟩
 |step _ hv ih=>
  obtain⟨h1,h2⟩:=ZJ hA hl hr hs ih.2 hv
  exact⟨.step ih.1 h1,h2⟩
theorem WZ (m:Int){l A:List Tree}(hA:T .ah (.sl A))(hl:T .ah (.sl l))(h0:dN m (.sl A)=0)(hs:l.Sublist A):dN m (.sl l)=0:=by
 obtain⟨h1,h2,h3⟩:=AI m hA h0;have Xn:=((lH m hA).zero h0).1;exact AN m hl (Nat.le_trans hs.length_le Xn) (λx hx=>h1 x (hs.subset hx)) (h2.sublist hs) λe he hr=>
  h3 e (hs.subset he) (ZK hA hl h2 hs (WY ((dK hl).2 e he)) hr).1
theorem BH {m:Int}{l:List Tree}{e:Tree}(hl:T .ah (.sl l))(h0:dN m (.sl l)=0)(he:e∈l){r:Tree×Int}(h:tJ m l (cm e) r):r=(e,0):=by
 obtain⟨i,hi⟩:=List.getElem?_of_mem he;have hp:=(o9 m hl (JD ((dK hl).2 e he))).here (AI m hl h0).2.1 hi;rcases h with ⟨h1,_⟩|⟨_,⟨h1,_⟩|⟨k,e',h1,h2,h3⟩⟩
 ·exact absurd h0 h1
 ·rw[hp] at h1;cases h1
 ·rw[hp] at h1;have hk:i=k:=by injection h1 with h4 _;exact Int.ofNat.inj h4
  subst hk;rw[hi] at h2;cases h2;exact h3
theorem BI {m:Int}{l:List Tree}{u:Tree}(hl:T .ah (.sl l))(hu:T .av u)(h0:dN m (.sl l)=0)(hn:∀e∈l,cm e≠u){r:Tree×Int}(h:tJ m l u r):r=(jL,9):=by
 have hp:=(o9 m hl hu).none hn;rcases h with ⟨h1,_⟩|⟨_,⟨_,h3⟩|⟨k,e',h1,h2,h3⟩⟩
 ·exact absurd h0 h1
 ·exact h3
 ·rw[h1] at hp;cases hp
theorem R4 {m:Int}{l:List Tree}{e:Tree}{i:Nat}(hl:T .ah (.sl l))(h0:dN m (.sl l)=0)(hi:l[i]?=some e){r:List Tree×Int}(h:Hl m l (cm e) r):r=(l.take i++l.drop (i+1),0):=by
 have hp:=(o9 m hl (JD ((dK hl).2 e (List.mem_of_getElem? hi)))).here (AI m hl h0).2.1 hi;rcases h with ⟨h1,_⟩|⟨_,⟨h1,_⟩|⟨k,e',h1,h2,h3⟩⟩
 ·exact absurd h0 h1
 ·rw[hp] at h1;cases h1
 ·rw[hp] at h1;have hk:i=k:=by injection h1 with h4 _;exact Int.ofNat.inj h4
  subst hk;exact h3
def uZ (l:List Tree)(k:Nat)(b:Bool):List Tree:=if b then l.take k++l.drop (k+1) else l
theorem W4 (l:List Tree)(k:Nat)(b:Bool):(uZ l k b).Sublist l:=by
 unfold uZ;split
 ·have h:(l.take k++l.drop (k+1)).Sublist (l.take k++l.drop k):=List.Sublist.append (List.Sublist.refl _) (by rw[show l.drop (k+1)=(l.drop k).drop 1 by rw[List.drop_drop]];exact List.drop_sublist _ _);rwa [List.take_append_drop] at h
 ·exact List.Sublist.refl _
theorem ZL (m:Int){l:List Tree}{e:Tree}(hl:T .ah (.sl l))(he:T .aB e){r:List Tree×Int}(h:WR m l e r)(hT:∀z∈r.1,T .aB z):(∃w:Int,w≠0/\r=([],w))\/
 ∃ A B:List Tree,r=(A,0)/\T .ah (.sl A)/\T .ah (.sl B)/\dN m (.sl l)=0/\dN m (.sl A)=0/\dN m (.sl B)=0/\(∀r,tJ m A (cm e) r->r=(e,0))/\(∀r,Hl m A (cm e) r->r=(B,0))/\(∀r,tJ m B (cm e) r->r=(jL,9))/\
  ∀u,T .av u->u≠cm e->(∃x,T .aB x/\(∀r,tJ m l u r->r=(x,0))/\∀r,tJ m B u r->r=(x,0))\/((∀r,tJ m l u r->r=(jL,9))/\∀r,tJ m B u r->r=(jL,9)):=by
 rcases h with ⟨h1,rfl⟩|⟨_,h1,rfl⟩|⟨h0,h1,k,b,hp,⟨h2,rfl⟩|⟨h2,rfl⟩⟩
 ·exact .inl ⟨_,h1,rfl⟩
 ·exact .inl ⟨_,h1,rfl⟩
 ·exact .inl ⟨_,h2,rfl⟩
 have Xn:=((lH m hl).zero h0).1
 obtain⟨kk,hk1,hk2,hk3,hk4⟩:=o9 m hl (JD he)
 rw[hp] at hk1 hk3
 have hkk:k=kk:=Int.ofNat.inj hk1
 subst hkk
 have hBs:=W4 l k b
 have aj0:(uZ l k b).length<=64:=Nat.le_trans hBs.length_le Xn
 have OE:T .ah (.sl (uZ l k b)):=.ah _ (by omega) λy hy=>(dK hl).2 y (hBs.subset hy)
 have hkB:k<=(uZ l k b).length:=by
  unfold uZ;split
  ·rename_i hb;obtain⟨x,hx,_⟩:=hk3.1 hb;have:=(List.getElem?_eq_some_iff.1 hx).1;simp only[List.length_append,List.length_take,List.length_drop];omega
  ·exact hk2
 have eA:zg l k b e=(uZ l k b).take k++[e]++(uZ l k b).drop k:=rfl
 have Sf:T .ah (.sl (zg l k b e)):=.ah _ (by
  rw[eA];simp only[List.length_append,List.length_take,List.length_drop,List.length_singleton];omega) hT
 have hAk:(zg l k b e)[k]?=some e:=by
  rw[eA,List.append_assoc,List.getElem?_append_right (by rw[List.length_take];omega),List.length_take,Nat.min_eq_left hkB,Nat.sub_self];rfl
 have hAB:(zg l k b e).take k++(zg l k b e).drop (k+1)=uZ l k b:=by
  have hlt:((uZ l k b).take k).length=k:=by rw[List.length_take,Nat.min_eq_left hkB]
  have e1:(zg l k b e).take k=(uZ l k b).take k:=by
   rw[eA,List.append_assoc];exact List.take_left' hlt
  have e2:(zg l k b e).drop (k+1)=(uZ l k b).drop k:=by
   rw[eA];exact List.drop_left' (by rw[List.length_append,hlt];rfl)
  rw[e1,e2,List.take_append_drop]
 have hBA:(uZ l k b).Sublist (zg l k b e):=by
  rw[eA];have h:=List.Sublist.append (List.sublist_append_left ((uZ l k b).take k) [e]) (List.Sublist.refl ((uZ l k b).drop k));rwa [List.take_append_drop] at h
 have hcB:=WZ m hl OE h0 hBs
 have Se:=(AI m hl h0).2.1
 have hRA:=(AI m Sf h2).2.1
 have hno:∀x∈uZ l k b,cm x≠cm e:=λx hx hxe=>by
  obtain⟨j,hj⟩:=List.getElem?_of_mem hx;rcases Nat.lt_or_ge j k with g|g
  ·have h3:(zg l k b e)[j]?=some x:=by
    rw[eA,List.append_assoc,List.getElem?_append_left (by rw[List.length_take];omega),List.getElem?_take_of_lt g];exact hj
   exact absurd (hRA.at g h3 hAk) (by rw[hxe];exact nE)
  ·have h3:(zg l k b e)[j+1]?=some x:=by
    rw[eA,List.getElem?_append_right (by simp only[List.length_append,List.length_take,List.length_singleton];omega)];simp only[List.length_append,List.length_take,List.length_singleton,Nat.min_eq_left hkB];rw[List.getElem?_drop,show k+(j+1 - (k+1))=j by omega];exact hj
   exact absurd (hRA.at (Nat.lt_succ_of_le g) hAk h3) (by rw[hxe];exact nE)
 refine .inr ⟨zg l k b e,uZ l k b,rfl,Sf,OE,h0,h2,hcB,λr hr=>BH Sf h2 (List.mem_of_getElem? hAk) hr,λr hr=>by rw[R4 Sf h2 hAk hr,hAB],λr hr=>BI OE (JD he) hcB hno hr,λu hu hne=> ?_⟩
 by_cases hin:∃x∈l,cm x=u
 ·obtain⟨x,hx,rfl⟩:=hin;have hxB:x∈uZ l k b:=by
   unfold uZ;split
   ·rename_i hb;obtain⟨y,hy,hye⟩:=hk3.1 hb;obtain⟨j,hj⟩:=List.getElem?_of_mem hx;rcases Nat.lt_trichotomy j k with g|g|g
    ·exact List.mem_append_left _ (List.mem_of_getElem? (i:=j) (by rw[List.getElem?_take_of_lt g];exact hj))
    ·subst g;rw[hj] at hy;cases hy;exact absurd hye hne
    ·exact List.mem_append_right _ (List.mem_of_getElem? (i:=j - (k+1)) (by rw[List.getElem?_drop,show k+1+(j - (k+1))=j by omega];exact hj))
   ·exact hx
  exact .inl ⟨x,(dK hl).2 x hx,λr hr=>BH hl h0 hx hr,λr hr=>BH OE hcB hxB hr⟩
 ·exact .inr ⟨λr hr=>BI hl hu h0 (λx hx h=>hin ⟨x,hx,h⟩) hr,λr hr=>BI OE hu hcB (λx hx h=>hin ⟨x,hBs.subset hx,h⟩) hr⟩
end
end Go.Proofs.YtnfnihgmankidaaGreatDoor.w.e
