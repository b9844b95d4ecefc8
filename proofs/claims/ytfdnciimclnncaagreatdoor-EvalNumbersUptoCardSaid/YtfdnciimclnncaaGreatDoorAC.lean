/- slices.Sorted(slices.Values(l)) at texts: the list in order; what lay before stays. -/
import Derived.RangeFuncBox
import Derived.RangeFuncLeaves
import Derived.Shelf.Abstract
import Derived.WalkKit
import Derived.OwnWalkIn
import Derived.TacticsInMore
import Derived.LoopNIn
import Derived.LoopIn
import Derived.Lib.RowBridge
import Derived.Shelf.SlIter.Sorted
import Derived.Shelf.SortM.Plain
import Derived.Shelf.SortM.SortNone
import Derived.Test.YtfdnciimclnncaaGreatDoorSeq
import Derived.Test.YtfdnciimclnncaaGreatDoorShelf
import Derived.Test.YtfdnciimclnncaaGreatDoorN
import Derived.Test.YtfdnciimclnncaaGreatDoorAB
import Derived.Test.YtfdnciimclnncaaGreatDoorG
import Derived.Test.YtfdnciimclnncaaGreatDoorZ
set_option linter.unusedVariables false
set_option linter.unusedSimpArgs false
namespace Go.Proofs.YtfdnciimclnncaaGreatDoor.w
open Go Go.Abs Go.RowKit Go.Maps Go.Sort Go.Shelf
attribute [local go_sem] Oper.semAt_some
def upto {α:Type}(f:Nat->α)(k:Nat):List α:=(List.range k).map f
theorem X4 {α:Type}(f:Nat->α)(k:Nat):upto f (k+1)=upto f k++[f k]:=by simp[upto,List.range_succ]
theorem RQ {α:Type}(f:Nat->α)(k:Nat):(upto f k).length=k:=by simp[upto]
theorem acj (zs:List (List UInt8)):upto (λj=>zs[j]?.getD []) zs.length=zs:=by
 apply List.ext_getElem
 ·simp[upto]
 ·intro i h1 h2;simp[upto,h2]
set_option maxRecDepth 100000 in
set_option maxHeartbeats 2000000 in
theorem agc (n:Nat)(l Bs n₀ b off len cap:Nat)(zs:List (List UInt8))(aqO:len<=4194304)(hb:b<n₀)(J:List (List UInt8)->World->Prop)
 (hY:∀pre x W,J pre W->pre.length<len->YieldAt Fence.wide (n - 1) Tryz.prog l #[encStr x] W λe W'=>e=.returned (.bool true)/\J (pre++[x]) W'/\Below n₀ W W')
 (W:World)(hBs:W.cell? ⟨Bs,0,none⟩=some (.slice (some ⟨b,off,none⟩) len cap))(hc:∀j,j<len->W.cell? ⟨b,off+j,none⟩=some (encStr (zs[j]?.getD [])))(h0:J [] W):
 CallsIn Fence.wide n Tryz.prog 146 #[.func (.yield l) #[] #[],.pointer (some ⟨Bs,0,none⟩)] W λe W'=>(∃v,e=.returned v)/\J (upto (λj=>zs[j]?.getD []) len) W':=by
 refine callsIn_of_wp Tryz.func146 rfl trivial ?_ rfl
 simp only[Tryz.ntmps146,List.size_toArray,List.length_cons,List.length_nil,Nat.reduceAdd,Nat.reduceSub,Array.replicate_succ,Array.replicate_zero,List.push_toArray,List.append_toArray,List.nil_append,List.cons_append]
 gi_wp2
 gi_loopw [7] (λi wr=>∃k:Nat,k<=len/\i=.int .i64 k/\J (upto (λj=>zs[j]?.getD []) k) wr/\Below n₀ W wr)
  (λi _=>len - (intOf i).toNat)
 case atStart=>exact⟨0,Nat.zero_le _,rfl,h0,Below.refl _ _⟩
 case round=>
  obtain⟨k,hk,rfl,hJs,Ph⟩:=hrel
  have hcx:k<len->wr.cell? ⟨b,off+k,none⟩=some (encStr (zs[k]?.getD [])):=λh=>(Ph.cell (p:=⟨b,off+k,none⟩) hb).trans (hc k h)
  by_cases hlt:k<len
  ·obtain⟨fn,tmps,assign,body,hy,hR⟩:=hY _ (zs[k]?.getD []) wr hJs (by rw[RQ];exact hlt);have as7:=hcx hlt;gi_wp2;refine⟨λh=>by simp[Fence.wide] at h,hR.mono ?_⟩;rintro e W3 ⟨rfl,hJ3,Et⟩;gi_wp2;go_roundw;case rel=>exact⟨k+1,by omega,by simp,by rw[X4];exact hJ3,Ph.trans Et⟩
   case measure=>simp[intOf];omega
  ·obtain rfl:k=len:=by omega
   gi_wp2;go_end0;exact⟨⟨_,rfl⟩,hJs⟩
set_option maxRecDepth 100000 in
set_option maxHeartbeats 1000000 in
theorem OP (n:Nat)(l Bs:Nat)(p:Option Addr)(cap:Nat)(J:List (List UInt8)->World->Prop)(W:World)(hBs:W.cell? ⟨Bs,0,none⟩=some (.slice p 0 cap))(h0:J [] W):
 CallsIn Fence.wide n Tryz.prog 146 #[.func (.yield l) #[] #[],.pointer (some ⟨Bs,0,none⟩)] W λe W'=>(∃v,e=.returned v)/\J [] W':=by
 refine callsIn_of_wp Tryz.func146 rfl trivial ?_ rfl
 simp only[Tryz.ntmps146,List.size_toArray,List.length_cons,List.length_nil,Nat.reduceAdd,Nat.reduceSub,Array.replicate_succ,Array.replicate_zero,List.push_toArray,List.append_toArray,List.nil_append,List.cons_append]
 gi_wp2
 gi_loopw [7] (λi wr=>i=.int .i64 0/\J [] wr) (λ_ _=>0)
 case atStart=>exact⟨rfl,h0⟩
 case round=>
  obtain⟨rfl,hJs⟩:=hrel
  gi_wp2
  go_end0
  exact⟨⟨_,rfl⟩,hJs⟩
def V3 (n₀:Nat)(n:Nat)(g:FuncId)(lb:Array Value)(zs:List (List UInt8))(w:World):Prop:=
 ∀(l:Nat) (J:List (List UInt8)->World->Prop) (W:World),Below w.heap.size w W->
  (∀pre x W1,J pre W1->pre.length<zs.length->YieldAt Fence.wide (n - 1) Tryz.prog l #[encStr x] W1 λe W'=>e=.returned (.bool true)/\J (pre++[x]) W'/\Below n₀ W1 W')->
  J [] W->CallsIn Fence.wide n Tryz.prog g (#[.func (.yield l) #[] #[]]++lb) W λe W'=>(∃v,e=.returned v)/\J zs W'
theorem Uw (n:Nat)(Bs:Nat)(sv:Value)(zs:List (List UInt8))(hz:zs.length<=4194304)(w:World)(hBs:Bs<w.heap.size)(hc:w.cell? ⟨Bs,0,none⟩=some sv)
 (hI:(∃p cap,sv=.slice p 0 cap/\zs=[])\/∃b off cap,sv=.slice (some ⟨b,off,none⟩) zs.length cap/\b<w.heap.size/\∀j,j<zs.length->w.cell? ⟨b,off+j,none⟩=some (encStr (zs[j]?.getD []))):
 V3 w.heap.size n 146 #[.pointer (some ⟨Bs,0,none⟩)] zs w:=λl J W hW hY h0=>by
 have hc':=(hW.cell (p:=⟨Bs,0,none⟩) hBs).trans hc
 rcases hI with ⟨p,cap,rfl,rfl⟩|⟨b,off,cap,rfl,hb,hcs⟩
 ·exact OP n l Bs p cap J W hc' h0
 ·have:=agc n l Bs w.heap.size b off zs.length cap zs hz hb J hY W hc' (λj hj=>(hW.cell (p:=⟨b,off+j,none⟩) hb).trans (hcs j hj)) h0;rw[acj] at this;exact this
theorem ack {B:Nat}{w a c:World}(h:Below B w a)(k:Below B w c)(hs:a.heap.size<=c.heap.size):Below B a c:=
 ⟨k.os.trans h.os.symm,k.tape.trans h.tape.symm,k.output.trans h.output.symm,hs,λi hi=>(k.block i hi).trans (h.block i hi).symm⟩
abbrev sr:Ren:=Tryz.sorted99_ren
set_option maxRecDepth 100000 in
set_option maxHeartbeats 2000000 in
theorem OQ (n:Nat)(hn:2<=n)(g:Nat)(lb:Array Value)(eg:∀args w,(callFunc g args).run Tryz.prog w=.ok (.enter g args) w)(zs:List (List UInt8))(hz:zs.length<=4194304)(w:World)(hseq:V3 w.heap.size (n - 1) g lb zs w):
 CallsIn Fence.wide n Tryz.prog (sr.f 11) #[.slice none 0 0,.func (.func g) #[] lb] w λe w'=>∃v,e=.returned v/\w'.ownsRow w.heap.size (sr.t 26) 1 v zs.length (zs.map encStr)/\(v=.slice none 0 0↔zs=[])/\Below w.heap.size w w':=by
 have L:SlLaysZ.n11 Tryz.prog sr:={Tryz.sorted99 with}
 have mixed:=L.mixed;have t0:=L.t0;have a0:=L.a0;have z0:=L.z0;have v0:=L.v0;have t24:=L.t24;have a24:=L.a24;have z24:=L.z24;have v24:=L.v24;have t26:=L.t26;have a26:=L.a26;have z26:=L.z26;have v26:=L.v26;have t28:=L.t28;have a28:=L.a28;have z28:=L.z28;have v28:=L.v28
 have hne:sr.t 24≠sr.t 26:=λe=>by have h:=L.t24;rw[e,L.t26] at h;cases h
 have u0:=run_underlying L.t0;have u24:=run_underlying L.t24;have u26:=run_underlying L.t26;have u28:=run_underlying L.t28
 obtain⟨_,_,FG⟩:=L.f11
 refine callsIn_of_wp_marks FG rfl trivial ?_ rfl
 simp only[SlBodyZ.n11_ntmps sr,List.size_toArray,List.length_cons,List.length_nil,Nat.reduceAdd,Nat.reduceSub,Array.replicate_succ,Array.replicate_zero,List.push_toArray,List.append_toArray,List.nil_append,List.cons_append]
 gi_wp2
 refine wpIn_rangeFunc λfn _=> ?_
 obtain⟨A,hA⟩:∃A,A=w.alloc (.cells #[.slice none 0 0] (sr.t 24)):=⟨_,rfl⟩
 obtain⟨rec,W4⟩:∃rec,rec=AnyZ.apRec sr fn (.func (.func g) #[] lb) w.heap.size A.heap.size .ready none:=⟨_,rfl⟩
 obtain⟨Z,hZ⟩:∃Z,Z=(A.alloc (.deferred (some []))).alloc (.loop rec):=⟨_,rfl⟩
 have sA:A.heap.size=w.heap.size+1:=by rw[hA];simp
 have cA:A.heap[w.heap.size]?=some (.cells #[.slice none 0 0] (sr.t 24) (0,0)):=by rw[hA];exact World.alloc_heap_new w _
 have bA:Below w.heap.size w A:=by rw[hA];exact(Below.refl _ w).alloc (Nat.le_refl _) _
 have aqP:∀k,k<A.heap.size->Z.heap[k]?=A.heap[k]?:=λk hk=>by
  rw[hZ];exact(Below.heap_alloc _ _ k (by simp;omega)).trans (Below.heap_alloc _ _ k hk)
 have bZ:Below w.heap.size w Z:=by
  rw[hZ];exact(bA.alloc bA.size _).alloc (by have:=bA.size;simp;omega) _
 have lZ:Z.heap[A.heap.size+1]?=some (.loop rec):=by
  rw[hZ];have:=World.alloc_heap_new (A.alloc (.deferred (some []))) (.loop rec);rwa [World.size_alloc] at this
 have dZ:Z.heap[A.heap.size]?=some (.deferred (some [])):=by
  rw[hZ];exact(Below.heap_alloc _ _ _ (by simp)).trans (World.alloc_heap_new A _)
 have start:AnyZ.ApAt sr w fn (.func (.func g) #[] lb) w.heap.size (A.heap.size+1) A.heap.size [] Z:=
  ⟨⟨_,(aqP w.heap.size (by omega)).trans cA,⟨rfl,.inl ⟨rfl,rfl⟩⟩,by simp⟩,by rw[lZ,W4],dZ,bZ⟩
 refine⟨A.heap.size+1,[{target:=.collected A.heap.size,args:= #[]}],Z,{target:=.fn (.func g) lb,args:= #[.func (.yield (A.heap.size+1)) #[] #[]]},Z,g,
  #[.func (.yield (A.heap.size+1)) #[] #[]]++lb,Z, ?_, ?_,λ_ _=>trivial, ?_,λ_=>by omega, ?_⟩
 ·rw[hZ,W4,hA];exact run_enterLoop_outer _ _ _ _ _
 ·simp[resolve,go_sem]
 ·simp[invoke,go_sem,eg]
 ·refine(hseq (A.heap.size+1) (AnyZ.ApAt sr w fn (.func (.func g) #[] lb) w.heap.size (A.heap.size+1) A.heap.size) Z bZ (λpre x W hJ hlt=> ?_) start).mono ?_
  ·have hy:=AnyZ.apYield L Fence.wide (n - 1 - 1) w fn trivial (.func (.func g) #[] lb) w.heap.size (A.heap.size+1) A.heap.size (by omega) (by omega) (by omega) (Nat.le_refl _) (by omega) zs.length (Nat.le_trans hz (by decide)) (by omega) pre x W hJ hlt;exact hy.mono λe W' h=>⟨h.1,h.2.1,ack hJ.below h.2.1.below h.2.2.size⟩
  ·rintro e W2 ⟨⟨r0,rfl⟩,h2⟩;obtain⟨v,hv,hrow,hnil⟩:=h2.box;have hend:=run_endLoop (P:=Tryz.prog) h2.L (by simp[AnyZ.apRec]);obtain⟨V,hV⟩:∃V,V=W2.putObj (A.heap.size+1) (.loop {AnyZ.apRec sr fn (.func (.func g) #[] lb) w.heap.size A.heap.size .ready none with state:=.exhausted}):=⟨_,rfl⟩;rw[← hV] at hend;have gV:W2.grownBy V (some (A.heap.size+1)):=by rw[hV];exact grownBy_putObj_a _ _ _
   have cV:V.heap[w.heap.size]?=some (.cells #[v] (sr.t 24) (0,0)):=by rw[hV];exact(World.putObj_heap_other (by omega)).trans hv
   have dV:V.heap[A.heap.size]?=some (.deferred (some [])):=by rw[hV];exact(World.putObj_heap_other (by omega)).trans h2.K
   have rV:=hrow.kept gV (ownsRow_ne_a hrow h2.L (λcur e=>by first|cases e|exact hne (Obj.cells.inj e).2.1));have bV:Below w.heap.size w V:=h2.below.grown gV h2.below.size (λk e=>by cases e;omega);obtain⟨bK,hf3⟩:=cell_of_box_a cV;clear hV;refine⟨none,V,hend, ?_⟩;gi_wp2;rw[← sA];refine⟨by simp,.inl ⟨_,_,rfl,run_takeDeferred dV, ?_⟩⟩;exact⟨_,results_tmp rfl _ _ _,v,rfl,rV.kept (grownBy_putObj_a _ _ _) (ownsRow_ne_a rV dV (λcur e=>by first|cases e|exact hne (Obj.cells.inj e).2.1)),hnil,bV.grown (grownBy_putObj_a _ _ _) bV.size (λk e=>by cases e;omega)⟩
set_option maxHeartbeats 1000000 in
theorem LM (n:Nat)(hn:3<=n)(g:Nat)(lb:Array Value)(eg:∀args w,(callFunc g args).run Tryz.prog w=.ok (.enter g args) w)(zs:List (List UInt8))(hz:zs.length<=4194304)(w:World)(hseq:V3 w.heap.size (n - 1 - 1) g lb zs w):
 CallsIn Fence.wide n Tryz.prog 144 #[.func (.func g) #[] lb] w λe w'=>∃v,e=.returned v/\w'.ownsRow w.heap.size (sr.t 26) 1 v zs.length (zs.map encStr)/\(v=.slice none 0 0↔zs=[])/\Below w.heap.size w w':=by
 have e11:∀args w,(callFunc 186 args).run Tryz.prog w=.ok (.enter 186 args) w:=enters_of Tryz.func186 (by kernel_rfl) rfl
 refine callsIn_of_wp Tryz.func144 rfl trivial ?_ rfl
 simp only[Tryz.ntmps144,List.size_toArray,List.length_cons,List.length_nil,Nat.reduceAdd,Nat.reduceSub,Array.replicate_succ,Array.replicate_zero,List.push_toArray,List.append_toArray,List.nil_append,List.cons_append]
 gi_wp2_with (refine⟨trivial,λh=>by simp[Fence.wide] at h, ?_⟩;refine(OQ (n - 1) (by omega) g lb eg zs hz _ hseq).mono ?_;rintro e w' ⟨v,rfl,hrow,hnil,hb⟩)
 go_ret
 exact⟨v,rfl,hrow,hnil,hb⟩
set_option maxRecDepth 100000 in
set_option maxHeartbeats 2000000 in
theorem OS (n:Nat)(hn:4<=n)(g:Nat)(lb:Array Value)(eg:∀args w,(callFunc g args).run Tryz.prog w=.ok (.enter g args) w)(zs:List (List UInt8))(hz:zs.length<=4194304)(w:World)(hseq:V3 w.heap.size (n - 1 - 1 - 1) g lb zs w):
 CallsIn Fence.wide n Tryz.prog 99 #[.func (.func g) #[] lb] w λe w'=>∃v,e=.returned v/\w'.ownsRow w.heap.size (sr.t 26) 1 v zs.length ((zs.mergeSort (λx y=>decide (x<=y))).map encStr)/\(v=.slice none 0 0↔zs=[])/\Below w.heap.size w w':=by
 have e8:∀args w,(callFunc 144 args).run Tryz.prog w=.ok (.enter 144 args) w:=enters_of Tryz.func144 (by kernel_rfl) rfl
 have e9:∀args w,(callFunc 145 args).run Tryz.prog w=.ok (.enter 145 args) w:=enters_of Tryz.func145 (by kernel_rfl) rfl
 refine callsIn_of_wp Tryz.func99 rfl trivial ?_ rfl
 simp only[Tryz.ntmps99,List.size_toArray,List.length_cons,List.length_nil,Nat.reduceAdd,Nat.reduceSub,Array.replicate_succ,Array.replicate_zero,List.push_toArray,List.append_toArray,List.nil_append,List.cons_append]
 gi_wp2_with (refine⟨trivial,λh=>by simp[Fence.wide] at h, ?_⟩;refine(LM (n - 1) (by omega) g lb eg zs hz _ hseq).mono ?_;rintro e W ⟨v,rfl,hrow,hnil,hb⟩)
 rcases hrow.2 with ⟨rfl,hzero⟩|⟨gb,cap,cur,rfl,hbase,hgb,r1,r2,r3,r4⟩
 ·have hzs:zs=[]:=List.eq_nil_of_length_eq_zero hzero;subst hzs;gi_wp2_with (refine⟨trivial,λh=>by simp[Fence.wide] at h, ?_⟩;refine(callsIn_wide.2 (AnyM.slices_Sort_string_none Tryz.sort145 none 0 W)).mono ?_;rintro e w' ⟨rfl,rfl⟩);go_ret;exact⟨.slice none 0 0,rfl,by simpa using hrow,by simp,hb⟩
 ·have hH:Holds encStr W gb 0 zs.toArray:=holds_of_block hgb (by simpa using r4);have hgl:gb<W.heap.size:=(Array.getElem?_eq_some_iff.1 hgb).1;have cS:CallsIn Fence.wide (n - 1) Tryz.prog 145 #[.slice (some ⟨gb,0,none⟩) zs.length cap] W _:=callsIn_wide.2 (AnyM.slices_Sort_string Tryz.sort145 gb 0 cap zs W hH hgl (by omega));gi_wp2_with (refine⟨trivial,λh=>by simp[Fence.wide] at h, ?_⟩;refine cS.mono ?_;rintro e w' ⟨rfl,nn,os,rfl⟩);go_ret;exact⟨_,rfl,ownsRow_sorted (by simp) hbase hgb r1 r2 r3,hnil,hb.grown (grownBy_sorted _) hb.size (λj hj=>by cases hj;exact hbase)⟩
theorem xg:∀(l:List (List UInt8)),flat (l.map .str)=l.map .str
 | []=>rfl
 |a::r=>by
  have:=xg r
  simp only[flat] at this
  simp[flat,Tree.cells,this]
def iy (zs:List (List UInt8)):List (List UInt8):=zs.mergeSort (λx y=>decide (x<=y))
theorem X5 {G:Gh}{w w':World}(hw:WF G w)(hb:Below w.heap.size w w'):Step (λ_=>False) (λ_=>False) G w G w':=by
 refine⟨.refl G,⟨λb o v hf=> ?_,hw.inj,λk d=>Nat.lt_of_lt_of_le (hw.lt k d) hb.size⟩,λ_ _ _=>⟨rfl,rfl⟩,λb hlt _=>⟨hb.block b hlt,λ_=>rfl⟩,λ_ d=>.inl d,λk d=>.inl ⟨k,d,rfl,.inl rfl⟩,hb.size,hb.os,hb.tape,hb.output⟩;obtain⟨us,ty,fr,h1,h2⟩:=hw.F b o v hf;exact⟨us,ty,fr,by rw[hb.block b (Array.getElem?_eq_some_iff.1 h1).1];exact h1,h2⟩
def Gh.newRow (G:Gh)(k0:Nm)(gb n cap:Nat):Gh:={F:=G.F,mu:=λk=>if k=k0 then gb else G.mu k,arr:=λk=>if k=k0 then some (n,1,cap) else G.arr k,dom:=λk=>k=k0\/G.dom k}
theorem RR {G:Gh}{w w':World}(hw:WF G w)(hb:Below w.heap.size w w'){k0:Nm}(hk:k0.jf=true)(hno:¬G.dom k0){gb n cap:Nat}(hg:w.heap.size<=gb)(hlt:gb<w'.heap.size):
 Step (λ_=>False) (λk=>k.jf=true) G w (Gh.newRow G k0 gb n cap) w':=by
 have hne:∀k,G.dom k->¬k=k0:=λk hd e=>hno (e▸hd)
 refine⟨⟨λb o v h=>h,λk h=>.inr h,λk hd h=> ?_,λk n e c hd h=> ?_⟩,⟨λb o v hf=> ?_,λk k' d d' ea ea' e=> ?_,λk d=> ?_⟩,λk hd _=> ?_,λb hlt _=>⟨hb.block b hlt,λo=>rfl⟩,λk d=> ?_,λk d=> ?_,hb.size,hb.os,hb.tape,hb.output⟩
 ·simp only[Gh.newRow,if_neg (hne k hd)];exact⟨h,trivial⟩
 ·simp only[Gh.newRow,if_neg (hne k hd)];exact⟨n,e,c,h,Nat.le_refl _,λ_=>⟨rfl,rfl,by first|trivial|rfl⟩,.inl rfl⟩
 ·obtain⟨us,ty,fr,h1,h2⟩:=hw.F b o v hf;exact⟨us,ty,fr,by rw[hb.block b (Array.getElem?_eq_some_iff.1 h1).1];exact h1,h2⟩
 ·simp only[Gh.newRow] at d d' e;rcases d with rfl|d<;>rcases d' with rfl|d'
  ·rfl
  ·rw[if_pos rfl,if_neg (hne k' d')] at e;have:=hw.lt k' d';omega
  ·rw[if_pos rfl,if_neg (hne k d)] at e;have:=hw.lt k d;omega
  ·rw[if_neg (hne k d),if_neg (hne k' d')] at e;exact hw.inj k k' d d' (λn c x=>ea n c (by simp only[Gh.newRow,if_neg (hne k d)];exact x)) (λn c x=>ea' n c (by simp only[Gh.newRow,if_neg (hne k' d')];exact x)) e
 ·rcases d with rfl|d
  ·simp only[Gh.newRow,if_true];exact hlt
  ·simp only[Gh.newRow,if_neg (hne k d)];exact Nat.lt_of_lt_of_le (hw.lt k d) hb.size
 ·simp only[Gh.newRow,if_neg (hne k hd),and_self]
 ·rcases d with rfl|d
  ·exact .inr hk
  ·exact .inl d
 ·rcases d with rfl|d
  ·refine .inr ?_;simp only[Gh.newRow,if_true];exact hg
  ·refine .inl ⟨k,d, ?_,.inl rfl⟩;simp only[Gh.newRow,if_neg (hne k d)]
theorem MU (m:Int)(zs:List (List UInt8))(hz:zs.length<=4194304):
 ai (cf m) 99 [.fn (.func 146) [] [.ptr (.arg 0) 0]] [.cells 23 [.t (.sl (zs.map .str))]]
  (if zs=[] then .ret (.t (.sl [])) [.cells 23 [.t (.sl (zs.map .str))]] [] else .ret (.ref (.loc [0]) 0 zs.length) [.cells 23 [.t (.sl (zs.map .str))]] [(.loc [0],.arr (9,false) 1 false (((iy zs).map .str).map .t))]):=by
 intro G w vs hw hg had hH hv
 obtain⟨x,rfl,hx⟩:=hv.only
 obtain⟨q,rfl,hp⟩:∃q,x=.func (.func 146) #[] #[q]/\VR G (.ptr (.arg 0) 0) q:=by
  cases hx with
  | fn f fs cs vs ws hl h hl' h'=>
    match vs,ws,hl,hl' with
    | [],[q],_,_=>exact⟨q,rfl,h' 0 _ _ rfl rfl⟩
 obtain⟨hd,ho⟩:=hH (.arg 0) _ rfl
 obtain⟨ha,us,ty,fr,hh,_,HS,_⟩:=ho
 obtain rfl:q=.pointer (some ⟨G.mu (.arg 0),0,none⟩):=by cases hp;rfl
 obtain⟨sv,us',e,hsv,hr⟩:=HS.j5
 have hcell:w.cell? ⟨G.mu (.arg 0),0,none⟩=some sv:=by
  unfold World.cell?;simp only[hh];have:us[0]?=some sv:=by rw[← Array.getElem?_toList,e];rfl
  simpa using this
 have hI :(∃p cap,sv=.slice p 0 cap/\zs=[])\/∃b off cap,sv=.slice (some ⟨b,off,none⟩) zs.length cap/\b<w.heap.size/\∀j,j<zs.length->w.cell? ⟨b,off+j,none⟩=some (encStr (zs[j]?.getD [])):=by
  cases hsv with|t _ _ hsv=>
  generalize hz':zs.map Tree.str=l at hsv;cases hsv with
  |Es a cap=>exact .inl ⟨a,cap,rfl,by simpa using hz'⟩
  | sl cg es b o cap vals hne hc hu hF WJ=>
    subst hz'
    refine .inr ⟨b,o,cap,by simp, ?_,λj hj=> ?_⟩
    · cases zs with
      |nil=>simp at hne
      | cons z zs=>
        have h0:=hF 0 (.str z) (by rw[xg];rfl)
        obtain⟨_,_,_,h1,_⟩:=hw.F _ _ _ h0
        exact(Array.getElem?_eq_some_iff.1 h1).1
    · have hj':(flat (zs.map Tree.str))[j]?=some (.str zs[j]):=by rw[xg];simp[hj]
      have h1:=hF j _ hj'
      have h2:=WJ j _ hj'
      obtain⟨c0,t0,f0,h3,h4⟩:=hw.F _ _ _ h1
      generalize vals j=vj at h2 h4
      cases h2
      unfold World.cell?
      simp only[h3]
      simpa [hj,encStr] using h4
 have anx:=Uw 3 (G.mu (.arg 0)) sv zs hz w (hw.lt _ hd) hcell hI
 have aqQ:∀args w,(callFunc 146 args).run Tryz.prog w=.ok (.enter 146 args) w:=enters_of Tryz.func146 (by kernel_rfl) rfl
 have aqR:∀args w,(callFunc 99 args).run Tryz.prog w=.ok (.enter 99 args) w:=enters_of Tryz.func99 (by kernel_rfl) rfl
 refine .inl ⟨aqR _ _,Calls.mono (callsIn_wide.1 (OS 6 (by omega) _ _ aqQ zs hz w anx)) ?_⟩
 rintro e w' ⟨v,rfl,hrow,hnil,hb⟩
 by_cases hz0:zs=[]
 ·rw[if_pos hz0];obtain rfl:=hnil.2 hz0;have hst:=X5 hw hb;refine⟨_,G,rfl,hst.mono (λ_ _ h=>h.elim) (λ_ h=>h.elim),rfl,λi o ho=> ?_,λ_ _ h=>by simp at h,.t _ _ (.Es none 0)⟩;obtain⟨d,PN⟩:=jv hH i o ho;exact⟨d,hst.keeps hw d (λh=>h) PN⟩
 ·rw[ if_neg hz0];rcases hrow.2 with ⟨_,hzero⟩|⟨gb,cap,cur,rfl,hbase,hgb,r1,r2,r3,r4⟩
  ·exact absurd (List.eq_nil_of_length_eq_zero hzero) hz0
  ·have hst:=RR (n:=zs.length) (cap:=cap) hw hb (k0:=.loc [0]) rfl (had.2 [0]) hbase (Array.getElem?_eq_some_iff.1 hgb).1;have aqS:∀o,G.F gb o=none:=λo=>by
    cases hf:G.F gb o with
    |none=>rfl
    | some v=>
      obtain⟨us,t',f',h1,_⟩:=hw.F _ _ _ hf
      have:=(Array.getElem?_eq_some_iff.1 h1).1
      omega
   have hlen:(iy zs).length=zs.length:=by simp[iy]
   refine⟨_,Gh.newRow G (.loc [0]) gb zs.length cap,rfl,hst.mono (λ_ _ h=>h.elim) (λ_ h=>h),rfl,λi o ho=> ?_,λk o h=> ?_, ?_⟩
   ·obtain⟨d,PN⟩:=jv hH i o ho;exact⟨.inr d,hst.keeps hw d (λh=>h) PN⟩
   ·simp only[List.mem_singleton,Prod.mk.injEq] at h;obtain⟨rfl,rfl⟩:=h;refine⟨rfl,.inl rfl,by decide,cap,cur,_,(0,0), ?_, ?_,⟨λo _ h=>by simp at h,rfl⟩,r3, ?_, ?_,λo _=> ?_⟩
    ·simp[Gh.newRow,hlen]
    ·simp only[Gh.newRow,if_true];exact hgb
    ·simp[hlen];omega
    ·have e4:cur.toList.take zs.length=(iy zs).map encStr:=by simpa [iy] using r4
     have:cur.toList.take (((iy zs).map Tree.str).map TV.t).length=(iy zs).map encStr:=by simpa [hlen] using e4
     rw[this];refine⟨by simp,λj c u hc hu=> ?_⟩;simp only[List.getElem?_map,Option.map_eq_some_iff] at hc hu;obtain⟨_,⟨s,hs,rfl⟩,rfl⟩:=hc;obtain⟨s',hs',rfl⟩:=hu;rw[hs] at hs';cases hs';exact .t _ _ (.str s)
    ·simp only[Gh.newRow,if_true];exact aqS o
   ·refine .ref _ 0 zs.length zs.length 1 cap _ (.inl rfl) (by simp[Gh.newRow]) (by omega) ⟨_,_,rfl⟩ λ_=>⟨_,rfl,λ_=>by simp[Gh.newRow]⟩
theorem Ux (m:Int)(zs:List (List UInt8))(hz:zs.length<=4194304)(hne:zs≠ []):
 ∃r:Nat,r<=zs.length/\(zs.length=1->r=1)/\ai (cf m) 125 [.ref (.arg 0) 0 zs.length] [.arr (9,false) 1 false ((zs.map .str).map .t)] (.ret (.ref (.arg 0) 0 r) [.dead] []):=by
 have hle:(Lib.compact zs).length<=zs.length:=Lib.compact_length_le zs
 have h1:zs.length=1->(Lib.compact zs).length=1:=λh=>by
  rw[Lib.compact_all zs λj hj=>by
   obtain rfl:j=0:=by omega
   rfl]
  exact h
 refine⟨(Lib.compact zs).length,hle,h1, ?_⟩
 intro G w vs hw hg had hH hv
 obtain⟨x,rfl,hx⟩:=hv.only
 obtain⟨hd,ho⟩:=hH (.arg 0) _ rfl
 obtain⟨_,cap,us,ty,fr,ha,hh,⟨tG,_⟩,hsz,hcl,HS,hF⟩:=ho
 have hn:((zs.map Tree.str).map TV.t).length=zs.length:=by simp
 rw[hn] at ha hcl
 have hpos:0<zs.length:=by cases zs with|nil=>exact absurd rfl hne|cons=>simp
 obtain rfl:x=.slice (some ⟨G.mu (.arg 0),0,none⟩) zs.length cap:=by
  cases hx with
  | ref k off len n cg cap' v hd' Cy hle' ho' Bu=>
    rw[ha] at Cy;cases Cy
    obtain⟨a,rfl,h2⟩:=Bu (by omega)
    have:=h2 (by omega)
    subst this;rfl
 have hH':Holds encStr w (G.mu (.arg 0)) 0 zs.toArray:=λj hj=>by
  have hj':j<zs.length:=by simpa using hj
  have hju:j<us.size:=by omega
  refine⟨?_,by rw[Nat.zero_add];exact ni hh tG hju⟩;have h1:=HS.2 j (.t (.str zs[j])) us[j] (by simp[hj']) (by rw[hn,List.getElem?_take_of_lt hj',Array.getElem?_toList];simp[hju]);have h2:us[j]=encStr zs[j]:=by
   generalize us[j]=v at h1;cases h1 with|t _ _ h=>cases h;rfl
  simp only[World.cell?,hh,Nat.zero_add];simp[hju,hj',h2]
 have ajW:∀args w,(callFunc 125 args).run Tryz.prog w=.ok (.enter 125 args) w:=enters_of Tryz.func125 (by kernel_rfl) rfl
 refine .inl ⟨ajW _ _,Calls.mono (Tryz.slices_Compact_string (G.mu (.arg 0)) 0 cap zs w hH' (by omega) (by omega)) ?_⟩
 rintro e w' ⟨rfl,q,rfl⟩
 have gB:w.grownBy (putRow encStr (Sort.ahead w q) (G.mu (.arg 0)) 0 (Lib.compact zs++List.replicate (zs.length - (Lib.compact zs).length) []).toArray) (some (G.mu (.arg 0))):=by
  have:=grownBy_sorted (w:=w) (g:=G.mu (.arg 0)) (n:=q) (os:= #[]) (Lib.compact zs++List.replicate (zs.length - (Lib.compact zs).length) []).toArray;rwa [grow_empty] at this
 refine⟨_,G,rfl,⟨.refl G,⟨λb o v hf=> ?_,hw.inj,λk d=>Nat.lt_of_lt_of_le (hw.lt k d) gB.size⟩,λ_ _ h=>absurd trivial h,λb hlt hn=>⟨gB.block b hlt λe=>hn _ trivial hd (Gh.lG ha (by decide)) (Option.some.inj e).symm,λ_=>rfl⟩,λ_ d=>.inl d,λk d=>.inl ⟨k,d,rfl,.inl rfl⟩,gB.size,gB.os,gB.tape,gB.output⟩,rfl,λi o ho=> ?_,λ_ _ h=>by simp at h, ?_⟩
 ·obtain⟨us',t',f',h1,h2⟩:=hw.F b o v hf;have hb:b≠G.mu (.arg 0):=λe=>by
   subst e;rw[hF o (.inl rfl)] at hf;cases hf
  exact⟨us',t',f',by rw[gB.block b (Array.getElem?_eq_some_iff.1 h1).1 λe=>hb (Option.some.inj e)];exact h1,h2⟩
 ·match i,ho with
  |0,ho=>simp at ho;subst ho;exact⟨hd,trivial⟩
 ·refine .ref _ 0 _ zs.length 1 cap _ hd ha (by omega) ⟨_,_,rfl⟩ λ_=>⟨_,rfl,λ_=>rfl⟩
end Go.Proofs.YtfdnciimclnncaaGreatDoor.w
namespace Go.Proofs.YtfdnciimclnncaaGreatDoor.w.e
open Go Go.Abs
set_option maxRecDepth 100000
set_option maxHeartbeats 2000000
noncomputable section
open Go.Abs.Ty
theorem V4 {l:List Tree}(h:∀y∈l,T .string y):∃zs:List (List UInt8),l=zs.map .str/\∀z∈zs,z.length<=4194304:=by
 induction l with
 |nil=>exact⟨[],rfl,λ_ h=>by cases h⟩
 |cons a r ih=>
  obtain⟨zs,rfl,hb⟩:=ih λy hy=>h y (List.mem_cons_of_mem _ hy)
  obtain⟨s,rfl,hs⟩:=T.bF (h a List.mem_cons_self)
  exact⟨s::zs,rfl,λz hz=>(List.mem_cons.1 hz).elim (λe=>e▸hs) (hb z)⟩
theorem KP (m:Int):ai (cf m) 99 [.fn (.func 146) [] [.ptr (.arg 0) 0]] [.cells 23 [.t (.sl [])]] (.ret (.t (.sl [])) [.cells 23 [.t (.sl [])]] []):=MU m [] (by decide)
theorem GY (m:Int)(zs:List (List UInt8))(hz:zs.length<=4194304)(hne:zs≠ []):ai (cf m) 99 [.fn (.func 146) [] [.ptr (.arg 0) 0]] [.cells 23 [.t (.sl (zs.map Tree.str))]]
 (.ret (.ref (.loc [0]) 0 zs.length) [.cells 23 [.t (.sl (zs.map Tree.str))]] [(.loc [0],.arr (9,false) 1 false ((flat ((iy zs).map Tree.str)).map .t))]):=by
 have h:=MU m zs hz
 rw[if_neg hne] at h
 rw[xg]
 exact h
theorem OT (m:Int)(zs:List (List UInt8))(hz:zs.length<=4194304)(hne:zs≠ []):
 ∃r:Nat,ai (cf m) 125 [.ref (.arg 0) 0 zs.length] [.arr (9,false) 1 false ((flat ((iy zs).map Tree.str)).map .t)] (.ret (.ref (.arg 0) 0 r) [.dead] []):=by
 have hl:(iy zs).length=zs.length:=by simp[iy]
 obtain⟨r,_,h1,h⟩:=Ux m (iy zs) (by omega) (λe=>hne (by rw[e] at hl;exact List.eq_nil_of_length_eq_zero hl.symm))
 rw[hl] at h
 rw[xg]
 exact⟨r,h⟩
theorem RS (m:Int):ai (cf m) 125 [.t (.sl [])] [] (.ret (.t (.sl [])) [] []):=by
 intro G w vs hw hg had hH hv;obtain⟨x,rfl,hx⟩:=hv.only;have ajW:∀args w,(callFunc 125 args).run Tryz.prog w=.ok (.enter 125 args) w:=enters_of Tryz.func125 (by kernel_rfl) rfl;have hx':∃a cap,x=.slice a 0 cap:=by
  cases hx with|t _ _ hx=>
  generalize hz':([]:List Tree)=l at hx;cases hx with
  |Es a cap=>exact⟨a,cap,rfl⟩
  |sl cg es b o cap vals hne hc hu hF WJ=>exact absurd hz'.symm hne
 obtain⟨a,cap,rfl⟩:=hx';refine .inl ⟨ajW _ _,Calls.mono (Tryz.slices_Compact_string_empty a cap w) ?_⟩;rintro e w' ⟨rfl,rfl⟩;exact⟨_,G,rfl,Step.refl hw _ _,rfl,λi o ho=>by simp at ho,λ_ _ h=>by simp at h,hx⟩
theorem V5 (m:Int):∃F:Tree->Bool,∀x,(T .string x)->R1 (cf m) 78 x (.bool (F x))/\(True):=by
 refine BI (P:=λx=>T .string x) (mk:=λ(r:Bool)=>.bool r) (Post:=λx r=>True) λx hx=> ?_
 show ∃r:{r:Bool // True},ai (cf m) 78 [.t x] [] (.ret (.t (.bool r.1)) [] []);have bw:=hx;obtain⟨v_1,rfl,cL⟩:=T.bF bw;obtain⟨Dj,TP⟩:=xX m;obtain⟨ev,aK,Fk⟩:∃ev,aD (cf m) ev/\Has ev 41 (mY (λx=>PS x) (λx=>.bool (Dj x))):=⟨_,(aq (bT (λx h=>(TP x h))) aF),au⟩;refine AX.start 14 1 Tryz.func78 rfl (by decide) rfl rfl (by decide) ?_;refine AX.frames ?_;rcases aM ((!(v_1==[]))) with hg2|hg2
 ·have abh:=ne_of_beq_false (wI hg2);rcases aM (decide (((v_1.length:Nat):Int)<=64)) with hg3|hg3
  ·have Fm:=of_decide_eq_true hg3;refine⟨⟨(Dj (.str v_1)), ?_⟩,kf ah (rq 4 (oB hg2) ([oB hg3,oB hg3,oC (cO Fk (x:=.str v_1) ⟨_,rfl⟩),oB hg3]))⟩;trivial
  ·have Fm:=of_decide_eq_false hg3;refine⟨⟨false, ?_⟩,kf ah (rq 4 (oB hg2) ([oB hg3,oB hg3,oB hg3]))⟩;trivial
 ·have abh:=eq_of_beq (pO hg2);refine⟨⟨false, ?_⟩,kf ah (rq 4 (oB hg2) ([oF,oF,oF]))⟩;trivial
theorem agd (m:Int):∃F:Tree->Bool,∀x,(T .string x)->R1 (cf m) 124 x (.bool (F x))/\(True):=by
 refine BI (P:=λx=>T .string x) (mk:=λ(r:Bool)=>.bool r) (Post:=λx r=>True) λx hx=> ?_
 show ∃r:{r:Bool // True},ai (cf m) 124 [.t x] [] (.ret (.t (.bool r.1)) [] []);have bw:=hx;obtain⟨v_1,rfl,cL⟩:=T.bF bw;obtain⟨X6,ajX⟩:=V5 m;obtain⟨ev,aK,AY⟩:∃ev,aD (cf m) ev/\Has ev 78 (mY (λx=>T .string x) (λx=>.bool (X6 x))):=⟨_,(aq (bT (λx h=>(ajX x h).1)) aF),au⟩;refine AX.start 6 1 Tryz.func124 rfl (by decide) rfl rfl (by decide) ?_;refine AX.frames ?_;refine⟨⟨(!(X6 (.str v_1))), ?_⟩,kf ah [oC (cO AY (x:=.str v_1) bw)]⟩;trivial
theorem X7 (m:Int):∃F:Tree->Tree->Int,∀x y,(T .cB x/\y=.fn (.func 124))->R2 (cf m) 126 x y (.int .i64 (F x y))/\(True):=by
 refine tO (P:=λx y=>T .cB x/\y=.fn (.func 124)) (mk:=λ(r:Int)=>.int .i64 r) (Post:=λx y r=>True) λx y hx=> ?_
 obtain⟨hx,hy⟩:=hx;show ∃r:{r:Int // True},ai (cf m) 126 [.t x,.t y] [] (.ret (.t (.int .i64 r.1)) [] []);have bw:=hx;obtain⟨v_1,rfl,cL,cF⟩:=T.mF bw;subst hy;obtain⟨anz,aqT⟩:=agd m;obtain⟨ev,aK,aqU⟩:∃ev,aD (cf m) ev/\Has ev 124 (mY (λx=>T .string x) (λx=>.bool (anz x))):=⟨_,(aq (bT (λx h=>(aqT x h).1)) aF),au⟩;refine AX.start 19 2 Tryz.func126 rfl (by decide) rfl rfl (by decide) ?_;refine AX.frames ?_;refine kl (α:=Nat) ah 0 [] 19 0 [] [] [0,1,7,8] (λx=>⟨eD 19 [(0,.t (.sl v_1)),(1,.t (.fn (.func 124))),(7,.t (.int .i64 ((v_1.length:Nat):Int))),(8,.t (.int .i64 ((x:Nat):Int)))],[],0⟩) (λx=>(x<=v_1.length)) (λx=>v_1.length - x) 0 (j6 (Tryz.f126.body.getD .skip) 2) [] (by show(0<=v_1.length);first|trivial|omega|(refine⟨?_, ?_⟩<;>first|omega|exact SM.nil)|simp) (λx hok=> ?_);obtain⟨i_2,zB⟩:∃y,y=x:=⟨x,rfl⟩;subst zB;replace hok:(i_2<=v_1.length):=hok;have Ia:=hok;rcases aM (decide (((i_2:Nat):Int)<((v_1.length:Nat):Int))) with bK|bK
 ·have mH:=of_decide_eq_true bK;obtain⟨e4,uP⟩:=dr v_1 i_2;have qh:=(cF e4 (fW uP));obtain⟨v_5,rfl,xY⟩:=T.bF qh;have anA:=cO aqU (x:=.str v_5) qh;rcases aM ((anz (.str v_5))) with lT|lT
  ·refine kx ah [oB bK,oE uP,oC anA,oB lT] ?_;refine⟨⟨((i_2:Nat):Int), ?_⟩,kf ah []⟩;trivial
  ·exact⟨.inl ⟨i_2+1,⟨(by show(i_2+1)<=v_1.length;omega),(by show(v_1.length - (i_2+1))<(v_1.length - i_2);omega)⟩⟩,kr ah 19 0 [] [0,1,7,8] [oB bK,oE uP,oC anA,oB lT,oI (i_2) (by omega)]⟩
 ·have mH:=of_decide_eq_false bK;refine kx ah [oB bK] ?_;refine⟨⟨-1, ?_⟩,kf ah []⟩;trivial
theorem MV (m:Int):∃F:Tree->Tree->Bool,∀x y,(T .cB x/\y=.fn (.func 124))->R2 (cf m) 79 x y (.bool (F x y))/\(True):=by
 refine tO (P:=λx y=>T .cB x/\y=.fn (.func 124)) (mk:=λ(r:Bool)=>.bool r) (Post:=λx y r=>True) λx y hx=> ?_
 obtain⟨hx,hy⟩:=hx;show ∃r:{r:Bool // True},ai (cf m) 79 [.t x,.t y] [] (.ret (.t (.bool r.1)) [] []);have bw:=hx;obtain⟨v_1,rfl,cL,cF⟩:=T.mF bw;subst hy;obtain⟨acm,ajY⟩:=X7 m;obtain⟨ev,aK,ajZ⟩:∃ev,aD (cf m) ev/\Has ev 126 (rM (λx y=>T .cB x/\y=.fn (.func 124)) (λx y=>.int .i64 (acm x y))):=⟨_,(aq (dA (λx y h=>(ajY x y h).1)) aF),au⟩;refine AX.start 9 2 Tryz.func79 rfl (by decide) rfl rfl (by decide) ?_;refine AX.frames ?_;refine⟨⟨decide ((acm (.sl v_1) (.fn (.func 124)))>=0), ?_⟩,kf ah [oC (eL ajZ (x:=.sl v_1) (y:=.fn (.func 124)) ⟨bw,rfl⟩)]⟩;trivial
theorem AL (m:Int)(L:List Tree):ai (cf m) 100 [.t (.sl L)] [] (.ret (.fn (.func 146) [] [.ptr (.loc [0]) 0]) [] [(.loc [0],.cells 23 [.t (.sl L)])]):=by
 obtain⟨ev,aK⟩:∃ev,aD (cf m) ev:=⟨_,aF⟩;refine ai.gO ?_;refine AX.start 4 1 Tryz.func100 rfl (by decide) rfl rfl (by decide) ?_;refine AX.frames ?_;exact⟨(),kf ah []⟩
theorem Uy (m:Int):∃r:Bool,ai (cf m) 77 [.t (.sl ([]:List Tree))] [] (.ret (.t (.bool r)) [] []):=by
 have hl:([]:List Tree).length<=4194304:=by simp
 have hl2:∀y∈([]:List Tree),T .string y:=by intro y hy;cases hy
 obtain⟨OU,Uz⟩:=MV m;obtain⟨ev,aK,e_vals,zY,OV,acn⟩:∃ev,aD (cf m) ev/\Has ev 100 (px [.t (.sl ([]:List Tree))] [] (.ret (.fn (.func 146) [] [.ptr (.loc [0]) 0]) [] [(.loc [0],.cells 23 [.t (.sl ([]:List Tree))])]))/\Has ev 99 (px [.fn (.func 146) [] [.ptr (.arg 0) 0]] [.cells 23 [.t (.sl ([]:List Tree))]] (.ret (.t (.sl [])) [.cells 23 [.t (.sl ([]:List Tree))]] []))/\Has ev 79 (rM (λx y=>T .cB x/\y=.fn (.func 124)) (λx y=>.bool (OU x y)))/\Has ev 125 (px [.t (.sl [])] [] (.ret (.t (.sl [])) [] [])):=⟨_,(aq (fT (AL m _)) (aq (fT (KP m)) (aq (dA (λx y h=>(Uz x y h).1)) (aq (fT (RS m)) aF)))),au,(az rfl au),(az rfl (az rfl au)),(az rfl (az rfl (az rfl au)))⟩;refine AX.start 18 1 Tryz.func77 rfl (by decide) rfl rfl (by decide) ?_;refine AX.frames ?_;rcases aM ((!(OU (.sl ([]:List Tree)) (.fn (.func 124))))) with hg1|hg1
 ·exact⟨(((([]:List Tree).length:Nat):Int)==((([]:List Tree).length:Nat):Int)),kf ah ([oC (jo e_vals),oC (jo zY),oC (eL OV (x:=.sl ([]:List Tree)) (y:=.fn (.func 124)) ⟨(.cB _ cc hl2),rfl⟩),oB hg1,oB hg1,oC (jo acn)]++rq 5 (oB hg1) ([]))⟩
 ·exact⟨false,kf ah ([oC (jo e_vals),oC (jo zY),oC (eL OV (x:=.sl ([]:List Tree)) (y:=.fn (.func 124)) ⟨(.cB _ cc hl2),rfl⟩)]++rq 7 (oB hg1) ([]))⟩
theorem RT (m:Int)(zs:List (List UInt8))(hz:zs.length<=4194304)(hne:zs≠ [])(hb:∀z∈zs,z.length<=4194304):∃r:Bool,ai (cf m) 77 [.t (.sl (zs.map Tree.str))] [] (.ret (.t (.bool r)) [] []):=by
 have hl:(zs.map Tree.str).length<=4194304:=by simp;omega
 have hl2:∀y∈(zs.map Tree.str),T .string y:=by intro y hy;obtain⟨s,hs,rfl⟩:=List.mem_map.1 hy;exact .string s (hb s hs)
 obtain⟨OU,Uz⟩:=MV m;obtain⟨rc,hrc⟩:=OT m zs hz hne;obtain⟨ev,aK,e_vals,zY,OV,acn⟩:∃ev,aD (cf m) ev/\Has ev 100 (px [.t (.sl (zs.map Tree.str))] [] (.ret (.fn (.func 146) [] [.ptr (.loc [0]) 0]) [] [(.loc [0],.cells 23 [.t (.sl (zs.map Tree.str))])]))/\Has ev 99 (px [.fn (.func 146) [] [.ptr (.arg 0) 0]] [.cells 23 [.t (.sl (zs.map Tree.str))]] (.ret (.ref (.loc [0]) 0 zs.length) [.cells 23 [.t (.sl (zs.map Tree.str))]] [(.loc [0],.arr (9,false) 1 false ((flat ((iy zs).map Tree.str)).map .t))]))/\Has ev 79 (rM (λx y=>T .cB x/\y=.fn (.func 124)) (λx y=>.bool (OU x y)))/\Has ev 125 (px [.ref (.arg 0) 0 zs.length] [.arr (9,false) 1 false ((flat ((iy zs).map Tree.str)).map .t)] (.ret (.ref (.arg 0) 0 rc) [.dead] [])):=⟨_,(aq (fT (AL m _)) (aq (fT (GY m zs hz hne)) (aq (dA (λx y h=>(Uz x y h).1)) (aq (fT hrc) aF)))),au,(az rfl au),(az rfl (az rfl au)),(az rfl (az rfl (az rfl au)))⟩;refine AX.start 18 1 Tryz.func77 rfl (by decide) rfl rfl (by decide) ?_;refine AX.frames ?_;refine kAt (f:=0) (n:=3000) (once:=[]) (k:=18) (T:=1) (S:=[.loc [3,0]]) (ks:=[.loc [3,0]]) (live:=[0,2,3]) ah aK (Tryz.f77.body.getD .skip) 2 rfl (⟨eD 18 [(0,.t (.sl (zs.map Tree.str))),(2,.t (.bool false)),(3,.ref (.loc [0]) 0 zs.length)],[(.loc [0],.arr (9,false) 1 false ((flat ((iy zs).map Tree.str)).map .t))],1⟩) [oC (jo e_vals),oC (jo zY),oN (o:=.arr (9,false) 1 false ((flat ((iy zs).map Tree.str)).map .t)) (λ_=>kY),oN (o:=.arr (9,false) 1 false ((flat ((iy zs).map Tree.str)).map .t)) (λ_=>kY)] (by kernel_rfl) ?_;refine AX.region ?_;refine aO.go (f:=0) aK (aJ rfl) ?_;refine aO.go (f:=0) aK (iB (rh2 rfl rfl) (eL OV ⟨(.cB _ cc hl2),rfl⟩)) ?_;refine aO.go (f:=0) aK (Mi rfl) ?_;refine aO.go (f:=0) aK (aJ rfl) ?_;refine aO.split 10 rfl (λhg1=> ?_) (λhg1=> ?_)
 ·refine aO.yes (f:=0) aK rfl rfl rfl (fI hg1) (aJ rfl) ?_;refine aO.aiy (S:=[.loc [0]]) aK rfl rfl rfl (fI hg1) (zj rfl) (by decide) rfl (ZY rfl) (jo acn) rfl rfl rfl ?_;refine aO.yes (f:=0) aK rfl rfl rfl (fI hg1) (NM rfl qf rfl) ?_;refine aO.yes (f:=0) aK rfl rfl rfl (fI hg1) (aJ rfl) ?_;refine aO.yes (f:=0) aK rfl rfl rfl (fI hg1) (Jt rfl qf rfl) ?_;refine aO.yes (f:=0) aK rfl rfl rfl (fI hg1) (pI rfl rfl) ?_;refine aO.go (f:=0) aK (bY rfl hg1 rfl rfl) ?_;refine aO.go (f:=0) aK (aL rfl) ?_;refine aO.nil ?_;exact⟨(((rc:Nat):Int)==(((zs.map Tree.str).length:Nat):Int)),kf ah []⟩
 ·refine aO.no rfl rfl rfl (fJ hg1) ?_;refine aO.no rfl rfl rfl (fJ hg1) ?_;refine aO.no rfl rfl rfl (fJ hg1) ?_;refine aO.no rfl rfl rfl (fJ hg1) ?_;refine aO.no rfl rfl rfl (fJ hg1) ?_;refine aO.no rfl rfl rfl (fJ hg1) ?_;refine aO.go (f:=0) aK (gh rfl hg1 rfl rfl) ?_;refine aO.go (f:=0) aK (aL rfl) ?_;refine aO.nil ?_;exact⟨false,kf ah []⟩
theorem RU (m:Int):∃f:Tree->Bool,∀x,T .cB x->ai (cf m) 77 [.t x] [] (.ret (.t (.bool (f x))) [] []):=bJ (P:=T .cB) (Q:=λx (r:Bool)=>ai (cf m) 77 [.t x] [] (.ret (.t (.bool r)) [] [])) λx hx=>by
 obtain⟨l,rfl,hl,h2⟩:=T.mF hx;obtain⟨zs,rfl,hb⟩:=V4 h2;by_cases h:zs=[]
 ·subst h;exact Uy m
 ·exact RT m zs (by simpa using hl) h hb
end
end Go.Proofs.YtfdnciimclnncaaGreatDoor.w.e
namespace Go.Proofs.YtfdnciimclnncaaGreatDoor.w.e
open Go Go.Abs
set_option maxRecDepth 100000
set_option maxHeartbeats 2000000
noncomputable section
theorem aco (m:Int):∃F:Tree->Tree->Bool,∀x y,(T .cB x/\T .string y)->R2 (cf m) 76 x y (.bool (F x y))/\(True):=by
 refine tO (P:=λx y=>T .cB x/\T .string y) (mk:=λ(r:Bool)=>.bool r) (Post:=λx y r=>True) λx y hx=> ?_
 obtain⟨hx,hy⟩:=hx;show ∃r:{r:Bool // True},ai (cf m) 76 [.t x,.t y] [] (.ret (.t (.bool r.1)) [] []);have bw:=hx;obtain⟨v_1,rfl,cL,cF⟩:=T.mF bw;have dB:=hy;obtain⟨v_2,rfl,gx⟩:=T.bF dB;obtain⟨RM,abX⟩:=RL m;obtain⟨ev,aK,MM⟩:∃ev,aD (cf m) ev/\Has ev 101 (rM (λx y=>T .cB x/\T .string y) (λx y=>.int .i64 (RM x y))):=⟨_,(aq (dA (λx y h=>(abX x y h).1)) aF),au⟩;refine AX.start 9 2 Tryz.func76 rfl (by decide) rfl rfl (by decide) ?_;refine AX.frames ?_;refine⟨⟨decide ((RM (.sl v_1) (.str v_2))>=0), ?_⟩,kf ah [oC (eL MM (x:=.sl v_1) (y:=.str v_2) ⟨bw,dB⟩)]⟩;trivial
def DY (op:Int)(nn nk:Nat):Prop:=(1<=op/\op<30)/\(op=7->nn=nk)/\(op=14->nk=3)/\(8<=op->op<=13->nk=1)/\(15<=op->nk=2)/\(op=6->nk<=16)
def Bk:Tree->Prop
 |.agg [.int _ op,_,_,_,.sl ns,.sl ks]=>DY op ns.length ks.length
 |_=>False
theorem X8        (m:Int):∃F:Tree->(Int×Int×List UInt8×List UInt8×List Tree×List Tree)×Bool,∀x,(T .aG x)->R1 (cf m) 39 x (.bU [(bf ((F x).1.1) ((F x).1.2.1) ((F x).1.2.2.1) ((F x).1.2.2.2.1) ((F x).1.2.2.2.2.1) ((F x).1.2.2.2.2.2)),.bool (F x).2])/\((F x).2=true->Bk x):=by
 refine BI (P:=λx=>T .aG x) (mk:=λ(r:(Int×Int×List UInt8×List UInt8×List Tree×List Tree)×Bool)=>.bU [(bf r.1.1 r.1.2.1 r.1.2.2.1 r.1.2.2.2.1 r.1.2.2.2.2.1 r.1.2.2.2.2.2),.bool r.2]) (Post:=λx r=>r.2=true->Bk x) λx hx=> ?_
 show ∃r:{r:(Int×Int×List UInt8×List UInt8×List Tree×List Tree)×Bool // r.2=true->Bk x},ai (cf m) 39 [.t x] [] (.ret (.t (.bU [(bf r.1.1.1 r.1.1.2.1 r.1.1.2.2.1 r.1.1.2.2.2.1 r.1.1.2.2.2.2.1 r.1.1.2.2.2.2.2),.bool r.1.2])) [] []);have bw:=hx;obtain⟨bX,n_1,s_1,dH,aU,bN,rfl,cL,cF,fQ,dX,fk,eR,jq⟩:=T.bE bw;obtain⟨Dj,TP⟩:=xX m;obtain⟨zG,Ol⟩:=Di m;obtain⟨ahL,anB⟩:=aco m;obtain⟨RV,acp⟩:=RU m;obtain⟨X6,ajX⟩:=V5 m;obtain⟨aaE,aiV⟩:=Vu m;obtain⟨ev,aK,Fk,Fp,acq,KQ,AY,aiW⟩:∃ev,aD (cf m) ev/\Has ev 41 (mY (λx=>PS x) (λx=>.bool (Dj x)))/\Has ev 22 (mY (λx=>T .aI x) (λx=>.int .i64 (zG x)))/\Has ev 76 (rM (λx y=>T .cB x/\T .string y) (λx y=>.bool (ahL x y)))/\Has ev 77 (mY (λx=>T .cB x) (λx=>.bool (RV x)))/\Has ev 78 (mY (λx=>T .string x) (λx=>.bool (X6 x)))/\Has ev 40 (mY (λx=>PS x) (λx=>.bool (aaE x))):=⟨_,(aq (bT (λx h=>(TP x h))) (aq (bT (λx h=>(Ol x h).1)) (aq (dA (λx y h=>(anB x y h).1)) (aq (bT (λx h=>(acp x h))) (aq (bT (λx h=>(ajX x h).1)) (aq (bT (λx h=>(aiV x h))) aF)))))),au,(az rfl au),(az rfl (az rfl au)),(az rfl (az rfl (az rfl au))),(az rfl (az rfl (az rfl (az rfl au)))),(az rfl (az rfl (az rfl (az rfl (az rfl au)))))⟩;refine AX.start 149 1 Tryz.func39 rfl (by decide) rfl rfl (by decide) ?_;refine AX.frames ?_;rcases aM ((bX==0)) with cq|cq
 ·have jP:=eq_of_beq cq;refine⟨⟨((bX,0,[],[],[],[]),false), ?_⟩,kf ah ([oB cq]++rq 10 oF ([]))⟩;exactλh=>absurd (show false=true from h) (by decide)
 ·have jP:=ne_of_beq_false cq;rcases aM ((bX==1)) with bK|bK
  ·have mH:=eq_of_beq bK;rcases aM ((n_1==0)) with hg4|hg4
   ·have OG:=eq_of_beq hg4;rcases aM (decide (bX<30)) with nO|nO
    ·have J1:=of_decide_eq_true nO;refine⟨⟨((bX,n_1,[],[],[],[]),(((bN.length:Nat):Int)==0)), ?_⟩,kf ah ([oB cq,oB bK]++rq 4 (oB hg4) (rq 4 oT (rq 6 (oB nO) ([]))))⟩;exact by
      intro h;have h:=eq_of_beq (show(((bN.length:Nat):Int)==0)=true from h);exact⟨⟨by omega,by omega⟩,by omega,by omega,by omega,by omega,by omega⟩
    ·have J1:=of_decide_eq_false nO;refine⟨⟨((bX,n_1,[],[],[],[]),false), ?_⟩,kf ah ([oB cq,oB bK]++rq 4 (oB hg4) (rq 4 oT (rq 6 (oB nO) ([]))))⟩;exactλh=>absurd (show false=true from h) (by decide)
   ·have OG:=ne_of_beq_false hg4;rcases aM ((n_1==1)) with qL|qL
    ·have ajA:=eq_of_beq qL;rcases aM (decide (bX<30)) with SB|SB
     ·have aqV:=of_decide_eq_true SB;refine⟨⟨((bX,n_1,[],[],[],[]),(((bN.length:Nat):Int)==0)), ?_⟩,kf ah ([oB cq,oB bK]++rq 4 (oB hg4) (rq 4 (oB qL) (rq 6 (oB SB) ([]))))⟩;exact by
       intro h;have h:=eq_of_beq (show(((bN.length:Nat):Int)==0)=true from h);exact⟨⟨by omega,by omega⟩,by omega,by omega,by omega,by omega,by omega⟩
     ·have aqV:=of_decide_eq_false SB;refine⟨⟨((bX,n_1,[],[],[],[]),false), ?_⟩,kf ah ([oB cq,oB bK]++rq 4 (oB hg4) (rq 4 (oB qL) (rq 6 (oB SB) ([]))))⟩;exactλh=>absurd (show false=true from h) (by decide)
    ·have ajA:=ne_of_beq_false qL;refine⟨⟨((bX,n_1,[],[],[],[]),false), ?_⟩,kf ah ([oB cq,oB bK]++rq 4 (oB hg4) (rq 4 (oB qL) (rq 6 oF ([]))))⟩;exactλh=>absurd (show false=true from h) (by decide)
  ·have mH:=ne_of_beq_false bK;rcases aM ((bX==2)) with js|js
   ·have BV:=eq_of_beq js;rcases aM (decide (n_1>=0)) with SE|SE
    ·have ajK:=of_decide_eq_true SE;rcases aM (decide (bX<30)) with gQ|gQ
     ·have Ra:=of_decide_eq_true gQ;refine⟨⟨((bX,n_1,[],[],[],[]),(((bN.length:Nat):Int)==0)), ?_⟩,kf ah ([oB cq,oB bK,oB js]++rq 4 (oB SE) (rq 6 (oB gQ) ([])))⟩;exact by
       intro h;have h:=eq_of_beq (show(((bN.length:Nat):Int)==0)=true from h);exact⟨⟨by omega,by omega⟩,by omega,by omega,by omega,by omega,by omega⟩
     ·have Ra:=of_decide_eq_false gQ;refine⟨⟨((bX,n_1,[],[],[],[]),false), ?_⟩,kf ah ([oB cq,oB bK,oB js]++rq 4 (oB SE) (rq 6 (oB gQ) ([])))⟩;exactλh=>absurd (show false=true from h) (by decide)
    ·have ajK:=of_decide_eq_false SE;refine⟨⟨((bX,n_1,[],[],[],[]),false), ?_⟩,kf ah ([oB cq,oB bK,oB js]++rq 4 (oB SE) (rq 6 oF ([])))⟩;exactλh=>absurd (show false=true from h) (by decide)
   ·have BV:=ne_of_beq_false js;have X9:=cO Fk (x:=.str s_1) ⟨_,rfl⟩;rcases aM ((bX==3)) with iF|iF
    ·have aaR:=eq_of_beq iF;rcases aM (decide (((s_1.length:Nat):Int)<=256)) with cE|cE
     ·have KC:=of_decide_eq_true cE;rcases aM ((Dj (.str s_1))) with iZ|iZ
      ·rcases aM (decide (bX<30)) with lu|lu
       ·have J3:=of_decide_eq_true lu;refine⟨⟨((bX,0,s_1,[],[],[]),(((bN.length:Nat):Int)==(IntKind.wrap .i64 (IntKind.wrap .u8 (bX.tdiv 11))))), ?_⟩,kf ah ([oB cq,oB bK,oB js,oB iF,oB iF,oZ,oZ,oB cE,oB cE,oB cE,oC X9,oB cE]++rq 4 (oB iZ) (rq 6 (oB lu) ([])))⟩;exact by
         intro h;have h:=eq_of_beq (show(((bN.length:Nat):Int)==(IntKind.wrap .i64 (IntKind.wrap .u8 (bX.tdiv 11))))=true from h);clear h;exact⟨⟨by omega,by omega⟩,by omega,by omega,by omega,by omega,by omega⟩
       ·have J3:=of_decide_eq_false lu;refine⟨⟨((bX,0,s_1,[],[],[]),false), ?_⟩,kf ah ([oB cq,oB bK,oB js,oB iF,oB iF,oZ,oZ,oB cE,oB cE,oB cE,oC X9,oB cE]++rq 4 (oB iZ) (rq 6 (oB lu) ([])))⟩;exactλh=>absurd (show false=true from h) (by decide)
      ·refine⟨⟨((bX,0,s_1,[],[],[]),false), ?_⟩,kf ah ([oB cq,oB bK,oB js,oB iF,oB iF,oZ,oZ,oB cE,oB cE,oB cE,oC X9,oB cE]++rq 4 (oB iZ) (rq 6 oF ([])))⟩;exactλh=>absurd (show false=true from h) (by decide)
     ·have KC:=of_decide_eq_false cE;refine⟨⟨((bX,0,s_1,[],[],[]),false), ?_⟩,kf ah ([oB cq,oB bK,oB js,oB iF,oB iF,oZ,oZ]++rq 4 (oB cE) (rq 10 oF ([])))⟩;exactλh=>absurd (show false=true from h) (by decide)
    ·have aaR:=ne_of_beq_false iF;rcases aM ((bX==11)) with eU|eU
     ·have Kw:=eq_of_beq eU;rcases aM (decide (((s_1.length:Nat):Int)<=256)) with iW|iW
      ·have Rc:=of_decide_eq_true iW;rcases aM ((Dj (.str s_1))) with sQ|sQ
       ·rcases aM (decide (bX<30)) with sS|sS
        ·have aaV:=of_decide_eq_true sS;refine⟨⟨((bX,0,s_1,[],[],[]),(((bN.length:Nat):Int)==(IntKind.wrap .i64 (IntKind.wrap .u8 (bX.tdiv 11))))), ?_⟩,kf ah ([oB cq,oB bK,oB js,oB iF,oB eU,oZ,oZ,oB iW,oB iW,oB iW,oC X9,oB iW]++rq 4 (oB sQ) (rq 6 (oB sS) ([])))⟩;exact by
          intro h;have h:=eq_of_beq (show(((bN.length:Nat):Int)==(IntKind.wrap .i64 (IntKind.wrap .u8 (bX.tdiv 11))))=true from h);have h:((bN.length:Nat):Int)=1:=h.trans (by rw[eq_of_beq eU];decide);exact⟨⟨by omega,by omega⟩,by omega,by omega,by omega,by omega,by omega⟩
        ·have aaV:=of_decide_eq_false sS;refine⟨⟨((bX,0,s_1,[],[],[]),false), ?_⟩,kf ah ([oB cq,oB bK,oB js,oB iF,oB eU,oZ,oZ,oB iW,oB iW,oB iW,oC X9,oB iW]++rq 4 (oB sQ) (rq 6 (oB sS) ([])))⟩;exactλh=>absurd (show false=true from h) (by decide)
       ·refine⟨⟨((bX,0,s_1,[],[],[]),false), ?_⟩,kf ah ([oB cq,oB bK,oB js,oB iF,oB eU,oZ,oZ,oB iW,oB iW,oB iW,oC X9,oB iW]++rq 4 (oB sQ) (rq 6 oF ([])))⟩;exactλh=>absurd (show false=true from h) (by decide)
      ·have Rc:=of_decide_eq_false iW;refine⟨⟨((bX,0,s_1,[],[],[]),false), ?_⟩,kf ah ([oB cq,oB bK,oB js,oB iF,oB eU,oZ,oZ]++rq 4 (oB iW) (rq 10 oF ([])))⟩;exactλh=>absurd (show false=true from h) (by decide)
     ·have Kw:=ne_of_beq_false eU;rcases aM ((bX==4)) with jw|jw
      ·have anC:=eq_of_beq jw;rcases aM (((zG (.agg [.str dH,.str s_1]))==0)) with xZ|xZ
       ·have anD:=eq_of_beq xZ;rcases aM (decide (bX<30)) with acr|acr
        ·have anE:=of_decide_eq_true acr;refine⟨⟨((bX,0,s_1,dH,[],[]),(((bN.length:Nat):Int)==0)), ?_⟩,kf ah ([oB cq,oB bK,oB js,oB iF,oB eU,oB jw,oC (cO Fp (x:=.agg [.str dH,.str s_1]) (.aI _ _ cc cc))]++rq 4 (oB xZ) (rq 6 (oB acr) ([])))⟩;exact by
          intro h;have h:=eq_of_beq (show(((bN.length:Nat):Int)==0)=true from h);exact⟨⟨by omega,by omega⟩,by omega,by omega,by omega,by omega,by omega⟩
        ·have anE:=of_decide_eq_false acr;refine⟨⟨((bX,0,s_1,dH,[],[]),false), ?_⟩,kf ah ([oB cq,oB bK,oB js,oB iF,oB eU,oB jw,oC (cO Fp (x:=.agg [.str dH,.str s_1]) (.aI _ _ cc cc))]++rq 4 (oB xZ) (rq 6 (oB acr) ([])))⟩;exactλh=>absurd (show false=true from h) (by decide)
       ·have anD:=ne_of_beq_false xZ;refine⟨⟨((bX,0,s_1,dH,[],[]),false), ?_⟩,kf ah ([oB cq,oB bK,oB js,oB iF,oB eU,oB jw,oC (cO Fp (x:=.agg [.str dH,.str s_1]) (.aI _ _ cc cc))]++rq 4 (oB xZ) (rq 6 oF ([])))⟩;exactλh=>absurd (show false=true from h) (by decide)
      ·have anC:=ne_of_beq_false jw;rcases aM ((bX==5)) with lD|lD
       ·have acs:=eq_of_beq lD;rcases aM ((ahL (.sl [.str [112,114,105,110,99,105,112,97,108],.str [97,99,116,105,111,110],.str [114,101,115,111,117,114,99,101],.str [99,111,110,116,101,120,116]]) (.str s_1))) with age|age
        ·rcases aM (decide (bX<30)) with acu|acu
         ·have anF:=of_decide_eq_true acu;refine⟨⟨((bX,0,s_1,[],[],[]),(((bN.length:Nat):Int)==0)), ?_⟩,kf ah ([oB cq,oB bK,oB js,oB iF,oB eU,oB jw,oB lD,oC (eL acq (x:=.sl [.str [112,114,105,110,99,105,112,97,108],.str [97,99,116,105,111,110],.str [114,101,115,111,117,114,99,101],.str [99,111,110,116,101,120,116]]) (y:=.str s_1) ⟨(.cB _ cc (bD (.string _ cc) (bD (.string _ cc) (bD (.string _ cc) (bD (.string _ cc) (λ_ h=>absurd h (by simp))))))),(.string _ cc)⟩)]++rq 4 (oB age) (rq 6 (oB acu) ([])))⟩;exact by
           intro h;have h:=eq_of_beq (show(((bN.length:Nat):Int)==0)=true from h);exact⟨⟨by omega,by omega⟩,by omega,by omega,by omega,by omega,by omega⟩
         ·have anF:=of_decide_eq_false acu;refine⟨⟨((bX,0,s_1,[],[],[]),false), ?_⟩,kf ah ([oB cq,oB bK,oB js,oB iF,oB eU,oB jw,oB lD,oC (eL acq (x:=.sl [.str [112,114,105,110,99,105,112,97,108],.str [97,99,116,105,111,110],.str [114,101,115,111,117,114,99,101],.str [99,111,110,116,101,120,116]]) (y:=.str s_1) ⟨(.cB _ cc (bD (.string _ cc) (bD (.string _ cc) (bD (.string _ cc) (bD (.string _ cc) (λ_ h=>absurd h (by simp))))))),(.string _ cc)⟩)]++rq 4 (oB age) (rq 6 (oB acu) ([])))⟩;exactλh=>absurd (show false=true from h) (by decide)
        ·refine⟨⟨((bX,0,s_1,[],[],[]),false), ?_⟩,kf ah ([oB cq,oB bK,oB js,oB iF,oB eU,oB jw,oB lD,oC (eL acq (x:=.sl [.str [112,114,105,110,99,105,112,97,108],.str [97,99,116,105,111,110],.str [114,101,115,111,117,114,99,101],.str [99,111,110,116,101,120,116]]) (y:=.str s_1) ⟨(.cB _ cc (bD (.string _ cc) (bD (.string _ cc) (bD (.string _ cc) (bD (.string _ cc) (λ_ h=>absurd h (by simp))))))),(.string _ cc)⟩)]++rq 4 (oB age) (rq 6 oF ([])))⟩;exactλh=>absurd (show false=true from h) (by decide)
       ·have acs:=ne_of_beq_false lD;rcases aM ((bX==6)) with qj|qj
        ·have anG:=eq_of_beq qj;rcases aM (decide (((bN.length:Nat):Int)<=16)) with Ya|Ya
         ·have anH:=of_decide_eq_true Ya;rcases aM (decide (bX<30)) with BX|BX
          ·have anI:=of_decide_eq_true BX;refine⟨⟨((bX,0,[],[],[],[]),(((bN.length:Nat):Int)==((bN.length:Nat):Int))), ?_⟩,kf ah ([oB cq,oB bK,oB js,oB iF,oB eU,oB jw,oB lD,oB qj]++rq 4 (oB Ya) (rq 6 (oB BX) ([])))⟩;exact by
            intro h;have h:=eq_of_beq (show(((bN.length:Nat):Int)==((bN.length:Nat):Int))=true from h);exact⟨⟨by omega,by omega⟩,by omega,by omega,by omega,by omega,by omega⟩
          ·have anI:=of_decide_eq_false BX;refine⟨⟨((bX,0,[],[],[],[]),false), ?_⟩,kf ah ([oB cq,oB bK,oB js,oB iF,oB eU,oB jw,oB lD,oB qj]++rq 4 (oB Ya) (rq 6 (oB BX) ([])))⟩;exactλh=>absurd (show false=true from h) (by decide)
         ·have anH:=of_decide_eq_false Ya;refine⟨⟨((bX,0,[],[],[],[]),false), ?_⟩,kf ah ([oB cq,oB bK,oB js,oB iF,oB eU,oB jw,oB lD,oB qj]++rq 4 (oB Ya) (rq 6 oF ([])))⟩;exactλh=>absurd (show false=true from h) (by decide)
        ·have anG:=ne_of_beq_false qj;rcases aM ((bX==7)) with su|su
         ·have anJ:=eq_of_beq su;rcases aM (decide (((bN.length:Nat):Int)<=16)) with RW|RW
          ·have anK:=of_decide_eq_true RW;rcases aM ((((aU.length:Nat):Int)==((bN.length:Nat):Int))) with jO|jO
           ·have anL:=eq_of_beq jO;rcases aM ((RV (.sl aU))) with agf|agf
            ·rcases aM (decide (bX<30)) with acv|acv
             ·have anM:=of_decide_eq_true acv;refine⟨⟨((bX,0,[],[],aU,[]),(((bN.length:Nat):Int)==((bN.length:Nat):Int))), ?_⟩,kf ah ([oB cq,oB bK,oB js,oB iF,oB eU,oB jw,oB lD,oB qj,oB su]++rq 8 (oB RW) ([oB jO,oB jO,oB jO,oC (cO KQ (x:=.sl aU) (.cB _ cc fk)),oB jO]++rq 4 (oB agf) (rq 6 (oB acv) ([]))))⟩;exact by
               intro h;have h:=eq_of_beq (show(((bN.length:Nat):Int)==((bN.length:Nat):Int))=true from h);exact⟨⟨by omega,by omega⟩,by omega,by omega,by omega,by omega,by omega⟩
             ·have anM:=of_decide_eq_false acv;refine⟨⟨((bX,0,[],[],aU,[]),false), ?_⟩,kf ah ([oB cq,oB bK,oB js,oB iF,oB eU,oB jw,oB lD,oB qj,oB su]++rq 8 (oB RW) ([oB jO,oB jO,oB jO,oC (cO KQ (x:=.sl aU) (.cB _ cc fk)),oB jO]++rq 4 (oB agf) (rq 6 (oB acv) ([]))))⟩;exactλh=>absurd (show false=true from h) (by decide)
            ·refine⟨⟨((bX,0,[],[],aU,[]),false), ?_⟩,kf ah ([oB cq,oB bK,oB js,oB iF,oB eU,oB jw,oB lD,oB qj,oB su]++rq 8 (oB RW) ([oB jO,oB jO,oB jO,oC (cO KQ (x:=.sl aU) (.cB _ cc fk)),oB jO]++rq 4 (oB agf) (rq 6 oF ([]))))⟩;exactλh=>absurd (show false=true from h) (by decide)
           ·have anL:=ne_of_beq_false jO;refine⟨⟨((bX,0,[],[],aU,[]),false), ?_⟩,kf ah ([oB cq,oB bK,oB js,oB iF,oB eU,oB jw,oB lD,oB qj,oB su]++rq 8 (oB RW) (rq 4 (oB jO) (rq 10 oF ([]))))⟩;exactλh=>absurd (show false=true from h) (by decide)
          ·have anK:=of_decide_eq_false RW;refine⟨⟨((bX,0,[],[],aU,[]),false), ?_⟩,kf ah ([oB cq,oB bK,oB js,oB iF,oB eU,oB jw,oB lD,oB qj,oB su]++rq 8 (oB RW) (rq 14 oF ([])))⟩;exactλh=>absurd (show false=true from h) (by decide)
         ·have anJ:=ne_of_beq_false su;rcases aM ((bX==8)) with uE|uE
          ·have anN:=eq_of_beq uE;rcases aM ((X6 (.str s_1))) with Fs|Fs
           ·rcases aM (decide (bX<30)) with vT|vT
            ·have aaX:=of_decide_eq_true vT;refine⟨⟨((bX,0,s_1,[],[],[]),(((bN.length:Nat):Int)==1)), ?_⟩,kf ah ([oB cq,oB bK,oB js,oB iF,oB eU,oB jw,oB lD,oB qj,oB su,oB uE,oB uE,oC (cO AY (x:=.str s_1) (.string _ cc))]++rq 4 (oB Fs) (rq 6 (oB vT) ([])))⟩;exact by
              intro h;have h:=eq_of_beq (show(((bN.length:Nat):Int)==1)=true from h);exact⟨⟨by omega,by omega⟩,by omega,by omega,by omega,by omega,by omega⟩
            ·have aaX:=of_decide_eq_false vT;refine⟨⟨((bX,0,s_1,[],[],[]),false), ?_⟩,kf ah ([oB cq,oB bK,oB js,oB iF,oB eU,oB jw,oB lD,oB qj,oB su,oB uE,oB uE,oC (cO AY (x:=.str s_1) (.string _ cc))]++rq 4 (oB Fs) (rq 6 (oB vT) ([])))⟩;exactλh=>absurd (show false=true from h) (by decide)
           ·refine⟨⟨((bX,0,s_1,[],[],[]),false), ?_⟩,kf ah ([oB cq,oB bK,oB js,oB iF,oB eU,oB jw,oB lD,oB qj,oB su,oB uE,oB uE,oC (cO AY (x:=.str s_1) (.string _ cc))]++rq 4 (oB Fs) (rq 6 oF ([])))⟩;exactλh=>absurd (show false=true from h) (by decide)
          ·have anN:=ne_of_beq_false uE;rcases aM ((bX==9)) with zZ|zZ
           ·have anO:=eq_of_beq zZ;rcases aM ((X6 (.str s_1))) with AR|AR
            ·rcases aM (decide (bX<30)) with acw|acw
             ·have anP:=of_decide_eq_true acw;refine⟨⟨((bX,0,s_1,[],[],[]),(((bN.length:Nat):Int)==1)), ?_⟩,kf ah ([oB cq,oB bK,oB js,oB iF,oB eU,oB jw,oB lD,oB qj,oB su,oB uE,oB zZ,oC (cO AY (x:=.str s_1) (.string _ cc))]++rq 4 (oB AR) (rq 6 (oB acw) ([])))⟩;exact by
               intro h;have h:=eq_of_beq (show(((bN.length:Nat):Int)==1)=true from h);exact⟨⟨by omega,by omega⟩,by omega,by omega,by omega,by omega,by omega⟩
             ·have anP:=of_decide_eq_false acw;refine⟨⟨((bX,0,s_1,[],[],[]),false), ?_⟩,kf ah ([oB cq,oB bK,oB js,oB iF,oB eU,oB jw,oB lD,oB qj,oB su,oB uE,oB zZ,oC (cO AY (x:=.str s_1) (.string _ cc))]++rq 4 (oB AR) (rq 6 (oB acw) ([])))⟩;exactλh=>absurd (show false=true from h) (by decide)
            ·refine⟨⟨((bX,0,s_1,[],[],[]),false), ?_⟩,kf ah ([oB cq,oB bK,oB js,oB iF,oB eU,oB jw,oB lD,oB qj,oB su,oB uE,oB zZ,oC (cO AY (x:=.str s_1) (.string _ cc))]++rq 4 (oB AR) (rq 6 oF ([])))⟩;exactλh=>absurd (show false=true from h) (by decide)
           ·have anO:=ne_of_beq_false zZ;rcases aM ((bX==10)) with DZ|DZ
            ·have anQ:=eq_of_beq DZ;have aj0:=cO aiW (x:=.str dH) ⟨_,rfl⟩;rcases aM ((aaE (.str dH))) with agh|agh
             ·rcases aM (decide (bX<30)) with acy|acy
              ·have anR:=of_decide_eq_true acy;refine⟨⟨((bX,0,[],dH,[],[]),(((bN.length:Nat):Int)==1)), ?_⟩,kf ah ([oB cq,oB bK,oB js,oB iF,oB eU,oB jw,oB lD,oB qj,oB su,oB uE,oB zZ,oB DZ,oC aj0]++rq 4 (oB agh) (rq 6 (oB acy) ([])))⟩;exact by
                intro h;have h:=eq_of_beq (show(((bN.length:Nat):Int)==1)=true from h);exact⟨⟨by omega,by omega⟩,by omega,by omega,by omega,by omega,by omega⟩
              ·have anR:=of_decide_eq_false acy;refine⟨⟨((bX,0,[],dH,[],[]),false), ?_⟩,kf ah ([oB cq,oB bK,oB js,oB iF,oB eU,oB jw,oB lD,oB qj,oB su,oB uE,oB zZ,oB DZ,oC aj0]++rq 4 (oB agh) (rq 6 (oB acy) ([])))⟩;exactλh=>absurd (show false=true from h) (by decide)
             ·refine⟨⟨((bX,0,[],dH,[],[]),false), ?_⟩,kf ah ([oB cq,oB bK,oB js,oB iF,oB eU,oB jw,oB lD,oB qj,oB su,oB uE,oB zZ,oB DZ,oC aj0]++rq 4 (oB agh) (rq 6 oF ([])))⟩;exactλh=>absurd (show false=true from h) (by decide)
            ·have anQ:=ne_of_beq_false DZ;rcases aM ((bX==12)) with F1|F1
             ·have anS:=eq_of_beq F1;rcases aM (decide (bX<30)) with rY|rY
              ·have anT:=of_decide_eq_true rY;refine⟨⟨((bX,0,[],[],[],[]),(((bN.length:Nat):Int)==1)), ?_⟩,kf ah ([oB cq,oB bK,oB js,oB iF,oB eU,oB jw,oB lD,oB qj,oB su,oB uE,oB zZ,oB DZ,oB F1,oB F1]++rq 4 oT (rq 6 (oB rY) ([])))⟩;exact by
                intro h;have h:=eq_of_beq (show(((bN.length:Nat):Int)==1)=true from h);exact⟨⟨by omega,by omega⟩,by omega,by omega,by omega,by omega,by omega⟩
              ·have anT:=of_decide_eq_false rY;refine⟨⟨((bX,0,[],[],[],[]),false), ?_⟩,kf ah ([oB cq,oB bK,oB js,oB iF,oB eU,oB jw,oB lD,oB qj,oB su,oB uE,oB zZ,oB DZ,oB F1,oB F1]++rq 4 oT (rq 6 (oB rY) ([])))⟩;exactλh=>absurd (show false=true from h) (by decide)
             ·have anS:=ne_of_beq_false F1;rcases aM ((bX==13)) with OW|OW
              ·have anU:=eq_of_beq OW;rcases aM (decide (bX<30)) with iq|iq
               ·have aaY:=of_decide_eq_true iq;refine⟨⟨((bX,0,[],[],[],[]),(((bN.length:Nat):Int)==1)), ?_⟩,kf ah ([oB cq,oB bK,oB js,oB iF,oB eU,oB jw,oB lD,oB qj,oB su,oB uE,oB zZ,oB DZ,oB F1,oB OW]++rq 4 oT (rq 6 (oB iq) ([])))⟩;exact by
                 intro h;have h:=eq_of_beq (show(((bN.length:Nat):Int)==1)=true from h);exact⟨⟨by omega,by omega⟩,by omega,by omega,by omega,by omega,by omega⟩
               ·have aaY:=of_decide_eq_false iq;refine⟨⟨((bX,0,[],[],[],[]),false), ?_⟩,kf ah ([oB cq,oB bK,oB js,oB iF,oB eU,oB jw,oB lD,oB qj,oB su,oB uE,oB zZ,oB DZ,oB F1,oB OW]++rq 4 oT (rq 6 (oB iq) ([])))⟩;exactλh=>absurd (show false=true from h) (by decide)
              ·have anU:=ne_of_beq_false OW;rcases aM ((bX==14)) with UA|UA
               ·have anV:=eq_of_beq UA;rcases aM (decide (bX<30)) with zI|zI
                ·have aaZ:=of_decide_eq_true zI;refine⟨⟨((bX,0,[],[],[],[]),(((bN.length:Nat):Int)==3)), ?_⟩,kf ah ([oB cq,oB bK,oB js,oB iF,oB eU,oB jw,oB lD,oB qj,oB su,oB uE,oB zZ,oB DZ,oB F1,oB OW,oB UA]++rq 4 oT (rq 6 (oB zI) ([])))⟩;exact by
                  intro h;have h:=eq_of_beq (show(((bN.length:Nat):Int)==3)=true from h);exact⟨⟨by omega,by omega⟩,by omega,by omega,by omega,by omega,by omega⟩
                ·have aaZ:=of_decide_eq_false zI;refine⟨⟨((bX,0,[],[],[],[]),false), ?_⟩,kf ah ([oB cq,oB bK,oB js,oB iF,oB eU,oB jw,oB lD,oB qj,oB su,oB uE,oB zZ,oB DZ,oB F1,oB OW,oB UA]++rq 4 oT (rq 6 (oB zI) ([])))⟩;exactλh=>absurd (show false=true from h) (by decide)
               ·have anV:=ne_of_beq_false UA;rcases aM (decide (bX<30)) with acz|acz
                ·have anW:=of_decide_eq_true acz;refine⟨⟨((bX,0,[],[],[],[]),(((bN.length:Nat):Int)==2)), ?_⟩,kf ah ([oB cq,oB bK,oB js,oB iF,oB eU,oB jw,oB lD,oB qj,oB su,oB uE,oB zZ,oB DZ,oB F1,oB OW,oB UA]++rq 4 oT (rq 6 (oB acz) ([])))⟩;exact by
                  intro h;have h:=eq_of_beq (show(((bN.length:Nat):Int)==2)=true from h);exact⟨⟨by omega,by omega⟩,by omega,by omega,by omega,by omega,by omega⟩
                ·have anW:=of_decide_eq_false acz;refine⟨⟨((bX,0,[],[],[],[]),false), ?_⟩,kf ah ([oB cq,oB bK,oB js,oB iF,oB eU,oB jw,oB lD,oB qj,oB su,oB uE,oB zZ,oB DZ,oB F1,oB OW,oB UA]++rq 4 oT (rq 6 (oB acz) ([])))⟩;exactλh=>absurd (show false=true from h) (by decide)
end
end Go.Proofs.YtfdnciimclnncaaGreatDoor.w.e
namespace Go.Proofs.YtfdnciimclnncaaGreatDoor.w.e
open Go Go.Abs
set_option maxRecDepth 100000
set_option maxHeartbeats 2000000
noncomputable section
open Go.Abs.Ty
theorem mK {m:Int}{g:FuncId}{args:List TV}{bu:List aP}{r:bh}(h:A7 (live.cfg m) (live.Qn m) 300 g args bu=some r):ai (cf m) g args bu r:=by
 rw[CZ] at h;exactλG w vs hw hg ha hh hv=>CO (live.ah m) (live.NW m) 300 g args bu _ h G w vs hw hg ha hh hv
def aC (op:Int)(ks:List Tree):Tree:=(bf op 0 [] [] [] ks)
def p7 (op:Int)(ks:List Tree):Prop:=(op,ks.length)∈[((12:Int),1),(13,1),(15,2),(16,2),(17,2),(18,2),(19,2),(20,2),(24,2),(25,2)]
theorem KR (m:Int)(op:Int)(ks:List Tree)(h:p7 op ks):R1 (cf m) 39 (aC op ks) (.bU [aC op [],.bool true])/\Bk (aC op ks):=by
 have one:∀{n:Nat},ks.length=n->n=1->∃a,ks=[a]:=λh1 h2=>List.length_eq_one_iff.1 (h1.trans h2)
 have two:∀{n:Nat},ks.length=n->n=2->∃a b,ks=[a,b]:=λh1 h2=>by
  rw[h2] at h1;match ks,h1 with
  | [a,b],_=>exact⟨a,b,rfl⟩
 simp only[p7,List.mem_cons,Prod.mk.injEq,List.not_mem_nil,or_false] at h;rcases h with ⟨rfl,h⟩|⟨rfl,h⟩|⟨rfl,h⟩|⟨rfl,h⟩|⟨rfl,h⟩|⟨rfl,h⟩|⟨rfl,h⟩|⟨rfl,h⟩|⟨rfl,h⟩|⟨rfl,h⟩
 ·obtain⟨a,rfl⟩:=one h rfl;exact⟨mK (by kernel_rfl),by simp[Bk,aC,DY]⟩
 ·obtain⟨a,rfl⟩:=one h rfl;exact⟨mK (by kernel_rfl),by simp[Bk,aC,DY]⟩
 all_goals (obtain⟨a,b,rfl⟩:=two h rfl;exact⟨mK (by kernel_rfl),by simp[Bk,aC,DY]⟩)
theorem Cd (m:Int):∃F:Tree->(Int×Int×List UInt8×List UInt8×List Tree×List Tree)×Bool,(∀x,T .aG x->R1 (cf m) 39 x (.bU [(bf ((F x).1.1) ((F x).1.2.1) ((F x).1.2.2.1) ((F x).1.2.2.2.1) ((F x).1.2.2.2.2.1) ((F x).1.2.2.2.2.2)),.bool (F x).2])/\((F x).2=true->Bk x))/\∀op ks,p7 op ks->F (aC op ks)=((op,0,[],[],[],[]),true):=by
 classical
 obtain⟨F,hF⟩:=X8 m;refine⟨λx=>if ∃op ks,p7 op ks/\x=aC op ks then((fu x,0,[],[],[],[]),true) else F x,λx hx=> ?_,λop ks h=>if_pos ⟨op,ks,h,rfl⟩⟩;by_cases h:∃op ks,p7 op ks/\x=aC op ks
 ·simp only[if_pos h];obtain⟨op,ks,h,rfl⟩:=h;exact⟨(KR m op ks h).1,λ_=>(KR m op ks h).2⟩
 ·simp only[if_neg h];exact hF x hx
def gX (m:Int):Tree->(Int×Int×List UInt8×List UInt8×List Tree×List Tree)×Bool:=(Cd m).choose
theorem KS (m:Int):∀x,T .aG x->R1 (cf m) 39 x (.bU [(bf ((gX m x).1.1) ((gX m x).1.2.1) ((gX m x).1.2.2.1) ((gX m x).1.2.2.2.1) ((gX m x).1.2.2.2.2.1) ((gX m x).1.2.2.2.2.2)),.bool (gX m x).2])/\((gX m x).2=true->Bk x):=(Cd m).choose_spec.1
theorem agi (m:Int):∀x,T .aG x->R1 (cf m) 39 x (.bU [(bf ((gX m x).1.1) ((gX m x).1.2.1) ((gX m x).1.2.2.1) ((gX m x).1.2.2.2.1) ((gX m x).1.2.2.2.2.1) ((gX m x).1.2.2.2.2.2)),.bool (gX m x).2]):=λx h=>(KS m x h).1
def p9 (m:Int):Tree->Bool
 |.agg [.int k op,.int k2 n,.str s,.str t,.sl ns,.sl ks]=>(gX m (.agg [.int k op,.int k2 n,.str s,.str t,.sl ns,.sl ks])).2&&((gX m (.agg [.int k op,.int k2 n,.str s,.str t,.sl ns,.sl ks])).1.2.1==n)&&((gX m (.agg [.int k op,.int k2 n,.str s,.str t,.sl ns,.sl ks])).1.2.2.1==s)&&((gX m (.agg [.int k op,.int k2 n,.str s,.str t,.sl ns,.sl ks])).1.2.2.2.1==t)&&(((((gX m (.agg [.int k op,.int k2 n,.str s,.str t,.sl ns,.sl ks])).1.2.2.2.2.1.length:Nat):Int)==((ns.length:Nat):Int)))
 |_=>false
theorem F2 {m:Int}{op:Int}{ks:List Tree}(h:p7 op ks):p9 m (aC op ks)=true:=by
 have e:=(Cd m).choose_spec.2 op ks h;show((gX m (aC op ks)).2&&((gX m (aC op ks)).1.2.1==0)&&((gX m (aC op ks)).1.2.2.1==[])&&((gX m (aC op ks)).1.2.2.2.1==[])&&(((((gX m (aC op ks)).1.2.2.2.2.1.length:Nat):Int)==((([]:List Tree).length:Nat):Int))))=true;rw[show gX m (aC op ks)=((op,0,[],[],[],[]),true) from e];rfl
theorem acA {m:Int}{x:Tree}(hx:T .aG x)(h:p9 m x=true):Bk x:=by
 have hx0:=hx;obtain⟨op,n,s,t,ns,ks,rfl,_⟩:=T.bE hx;simp only[p9,Bool.and_eq_true] at h;exact(KS m _ hx0).2 h.1.1.1.1
inductive Rt:Tree->Prop
 |mk (op n:Int) (s t:List UInt8) (names kids:List Tree) (h:DY op names.length kids.length) (hk:∀k∈kids,Rt k):Rt (bf op n s t names kids)
theorem agj (m:Int)(op n:Int)(s t:List UInt8)(ns ks:List Tree)(ln:ns.length<=4194304)(h00:0<=op)(WR:s.length<=4194304)(htb:t.length<=4194304)(Yr:∀y∈ns,T .string y)(lk:ks.length<=4194304)(hks:∀y∈ks,T .aG y)(fS:Tree->Int×Int×Bool)(hS:∀y∈ks,ai (cf m) 21 [.t y] [] (.ret (.t (.bU [.int .i64 (fS y).1,.int .i64 (fS y).2.1,.bool (fS y).2.2])) [] [])):ai (cf m) 21 [.t (bf op n s t ns ks)] [] (.ret (.t (.bU [.int .i64 (yJ (p9 m) fS (bf op n s t ns ks)).1,.int .i64 (yJ (p9 m) fS (bf op n s t ns ks)).2.1,.bool (yJ (p9 m) fS (bf op n s t ns ks)).2.2])) [] []):=by
 have hx:T .aG (bf op n s t ns ks):=.aG _ _ _ _ _ _ h00 WR htb ln Yr lk hks;obtain⟨ev,aK,KT,e_self⟩:∃ev,aD (cf m) ev/\Has ev 39 (mY (λx=>T .aG x) (λx=>.bU [(bf (((gX m) x).1.1) (((gX m) x).1.2.1) (((gX m) x).1.2.2.1) (((gX m) x).1.2.2.2.1) (((gX m) x).1.2.2.2.2.1) (((gX m) x).1.2.2.2.2.2)),.bool ((gX m) x).2]))/\Has ev 21 (mY (λy=>y∈ks) λy=>.bU [.int .i64 (fS y).1,.int .i64 (fS y).2.1,.bool (fS y).2.2]):=⟨_,(aq (bT (λx h=>agi m x h)) (aq (bT hS) aF)),au,(az rfl au)⟩;refine ai.gO ?_;have aj1:=KS m;refine AX.start 76 1 Tryz.func21 rfl (by decide) rfl rfl (by decide) ?_;refine AX.frames ?_;have hp1:=(aj1 (bf op n s t ns ks) hx).2;rcases aM ((gX m (bf op n s t ns ks)).2) with hg2|hg2
 ·rcases aM (((gX m (bf op n s t ns ks)).1.2.1==n)) with hg3|hg3
  ·have Fm:=eq_of_beq hg3;rcases aM (((gX m (bf op n s t ns ks)).1.2.2.1==s)) with hg4|hg4
   ·have OG:=eq_of_beq hg4;rcases aM (((gX m (bf op n s t ns ks)).1.2.2.2.1==t)) with nO|nO
    ·have J1:=eq_of_beq nO;have hE:p9 m (bf op n s t ns ks)=(((((gX m (bf op n s t ns ks)).1.2.2.2.2.1).length:Nat):Int)==((ns.length:Nat):Int)):=by
      show(_&&_&&_&&_&&_)=_;simp only[hg2,hg3,hg4,nO,Bool.and_true,Bool.true_and,Bool.false_and,Bool.and_false]
     refine kl (α:=Nat×Int×Int×Bool) ah 0 [] 76 0 [] [] [2,3,4,48,49,50] (λx=>⟨eD 76 [(2,.t (.int .i64 x.2.1)),(3,.t (.int .i64 x.2.2.1)),(4,.t (.bool x.2.2.2)),(48,.t (.sl ks)),(49,.t (.int .i64 ((ks.length:Nat):Int))),(50,.t (.int .i64 ((x.1:Nat):Int)))],[],0⟩) (λx=>(x.1<=ks.length)/\(x.2.1=(ks.take x.1).foldl (λa k=>max a (fS k).1) 0)/\(x.2.2.1=(ks.take x.1).foldl (λa k=>IntKind.wrap .i64 (a+(fS k).2.1)) 0)/\(x.2.2.2=(ks.take x.1).foldl (λo k=>o&&(fS k).2.2) (p9 m (bf op n s t ns ks)))) (λx=>ks.length - x.1) (⟨0,0,0,(((((gX m (bf op n s t ns ks)).1.2.2.2.2.1).length:Nat):Int)==((ns.length:Nat):Int))⟩) (j6 (Tryz.f21.body.getD .skip) 4) ([oC (cO KT (x:=(bf op n s t ns ks)) hx)]++rq 6 (oB hg2) (rq 6 (oB hg3) (rq 6 (oB hg4) (rq 8 (oB nO) ([]))))) ⟨Nat.zero_le _,rfl,rfl,hE.symm⟩ (λx hok=> ?_);obtain⟨RX,Yb,agk,aj2⟩:=x;replace hok:(RX<=ks.length)/\(Yb=(ks.take RX).foldl (λa k=>max a (fS k).1) 0)/\(agk=(ks.take RX).foldl (λa k=>IntKind.wrap .i64 (a+(fS k).2.1)) 0)/\(aj2=(ks.take RX).foldl (λo k=>o&&(fS k).2.2) (p9 m (bf op n s t ns ks))):=hok;obtain⟨apG,Ip,Iq,Ir⟩:=hok;rcases aM (decide (((RX:Nat):Int)<((ks.length:Nat):Int))) with gi|gi
     ·have mR:=of_decide_eq_true gi;obtain⟨e8,SC⟩:=dr ks RX;have XQ:=(hks e8 (fW SC));obtain⟨RY,n_9,s_9,KO,p5,z6,rfl,abv,abw,ajP,ajQ,ajR,ajS,aqW⟩:=T.bE XQ;have anX:=cO e_self (x:=(bf RY n_9 s_9 KO p5 z6)) (fW SC);rcases aM (aj2) with gQ|gQ
      ·exact⟨.inl ⟨⟨RX+1,(max Yb ((fS (bf RY n_9 s_9 KO p5 z6)).1)),(IntKind.wrap .i64 (agk+(fS (bf RY n_9 s_9 KO p5 z6)).2.1)),(fS (bf RY n_9 s_9 KO p5 z6)).2.2⟩,⟨⟨(by show(RX+1)<=ks.length;omega),((cQ SC).trans (by rw[← Ip])).symm,((cQ SC).trans (by rw[← Iq])).symm,((cQ SC).trans (by rw[← Ir];simp only[gQ,Bool.true_and,Bool.false_and,Bool.and_true])).symm⟩,(by show(ks.length - (RX+1))<(ks.length - RX);omega)⟩⟩,kr ah 76 0 [] [2,3,4,48,49,50] [oB gi,oE SC,oC anX,oG .i64 Yb ((fS (bf RY n_9 s_9 KO p5 z6)).1),oZ,oB gQ,oB gQ,oI (RX) (by omega)]⟩
      ·exact⟨.inl ⟨⟨RX+1,(max Yb ((fS (bf RY n_9 s_9 KO p5 z6)).1)),(IntKind.wrap .i64 (agk+(fS (bf RY n_9 s_9 KO p5 z6)).2.1)),false⟩,⟨⟨(by show(RX+1)<=ks.length;omega),((cQ SC).trans (by rw[← Ip])).symm,((cQ SC).trans (by rw[← Iq])).symm,((cQ SC).trans (by rw[← Ir];simp only[gQ,Bool.true_and,Bool.false_and,Bool.and_true])).symm⟩,(by show(ks.length - (RX+1))<(ks.length - RX);omega)⟩⟩,kr ah 76 0 [] [2,3,4,48,49,50] [oB gi,oE SC,oC anX,oG .i64 Yb ((fS (bf RY n_9 s_9 KO p5 z6)).1),oZ,oB gQ,oB gQ,oI (RX) (by omega)]⟩
     ·have mR:=of_decide_eq_false gi;refine kx ah [oB gi] ?_;have hres:yJ (p9 m) fS (bf op n s t ns ks)=((IntKind.wrap .i64 (Yb+1)),(IntKind.wrap .i64 (agk+1)),aj2):=by
       have hi:ks.take RX=ks:=List.take_of_length_le (by omega);rw[hi] at Ip Iq Ir;unfold yJ;rw[show iD (bf op n s t ns ks)=ks from rfl,← Ip,← Iq,← Ir];try rfl
      show ∃_:Unit,KE (cf m) (q8 (cf m) _ 0 (.ret (.t (.bU [.int .i64 (yJ (p9 m) fS (bf op n s t ns ks)).1,.int .i64 (yJ (p9 m) fS (bf op n s t ns ks)).2.1,.bool (yJ (p9 m) fS (bf op n s t ns ks)).2.2])) [] [])) _ _ _;rw[hres];exact⟨(),kf ah [oZ,oZ]⟩
    ·have J1:=ne_of_beq_false nO;have hE:p9 m (bf op n s t ns ks)=false:=by
      show(_&&_&&_&&_&&_)=_;simp only[hg2,hg3,hg4,nO,Bool.and_true,Bool.true_and,Bool.false_and,Bool.and_false]
     refine kl (α:=Nat×Int×Int×Bool) ah 0 [] 76 0 [] [] [2,3,4,48,49,50] (λx=>⟨eD 76 [(2,.t (.int .i64 x.2.1)),(3,.t (.int .i64 x.2.2.1)),(4,.t (.bool x.2.2.2)),(48,.t (.sl ks)),(49,.t (.int .i64 ((ks.length:Nat):Int))),(50,.t (.int .i64 ((x.1:Nat):Int)))],[],0⟩) (λx=>(x.1<=ks.length)/\(x.2.1=(ks.take x.1).foldl (λa k=>max a (fS k).1) 0)/\(x.2.2.1=(ks.take x.1).foldl (λa k=>IntKind.wrap .i64 (a+(fS k).2.1)) 0)/\(x.2.2.2=(ks.take x.1).foldl (λo k=>o&&(fS k).2.2) (p9 m (bf op n s t ns ks)))) (λx=>ks.length - x.1) (⟨0,0,0,false⟩) (j6 (Tryz.f21.body.getD .skip) 4) ([oC (cO KT (x:=(bf op n s t ns ks)) hx)]++rq 6 (oB hg2) (rq 6 (oB hg3) (rq 6 (oB hg4) (rq 8 (oB nO) ([]))))) ⟨Nat.zero_le _,rfl,rfl,hE.symm⟩ (λx hok=> ?_);obtain⟨rH,MW,V6,acB⟩:=x;replace hok:(rH<=ks.length)/\(MW=(ks.take rH).foldl (λa k=>max a (fS k).1) 0)/\(V6=(ks.take rH).foldl (λa k=>IntKind.wrap .i64 (a+(fS k).2.1)) 0)/\(acB=(ks.take rH).foldl (λo k=>o&&(fS k).2.2) (p9 m (bf op n s t ns ks))):=hok;obtain⟨J4,D1,D2,D3⟩:=hok;rcases aM (decide (((rH:Nat):Int)<((ks.length:Nat):Int))) with zT|zT
     ·have abI:=of_decide_eq_true zT;obtain⟨e13,uv⟩:=dr ks rH;have MH:=(hks e13 (fW uv));obtain⟨GZ,KU,KV,z7,mL,vE,rfl,VU,VV,VW,DP,VX,VY,afv⟩:=T.bE MH;have anY:=cO e_self (x:=(bf GZ KU KV z7 mL vE)) (fW uv);rcases aM (acB) with kj|kj
      ·exact⟨.inl ⟨⟨rH+1,(max MW ((fS (bf GZ KU KV z7 mL vE)).1)),(IntKind.wrap .i64 (V6+(fS (bf GZ KU KV z7 mL vE)).2.1)),(fS (bf GZ KU KV z7 mL vE)).2.2⟩,⟨⟨(by show(rH+1)<=ks.length;omega),((cQ uv).trans (by rw[← D1])).symm,((cQ uv).trans (by rw[← D2])).symm,((cQ uv).trans (by rw[← D3];simp only[kj,Bool.true_and,Bool.false_and,Bool.and_true])).symm⟩,(by show(ks.length - (rH+1))<(ks.length - rH);omega)⟩⟩,kr ah 76 0 [] [2,3,4,48,49,50] [oB zT,oE uv,oC anY,oG .i64 MW ((fS (bf GZ KU KV z7 mL vE)).1),oZ,oB kj,oB kj,oI (rH) (by omega)]⟩
      ·exact⟨.inl ⟨⟨rH+1,(max MW ((fS (bf GZ KU KV z7 mL vE)).1)),(IntKind.wrap .i64 (V6+(fS (bf GZ KU KV z7 mL vE)).2.1)),false⟩,⟨⟨(by show(rH+1)<=ks.length;omega),((cQ uv).trans (by rw[← D1])).symm,((cQ uv).trans (by rw[← D2])).symm,((cQ uv).trans (by rw[← D3];simp only[kj,Bool.true_and,Bool.false_and,Bool.and_true])).symm⟩,(by show(ks.length - (rH+1))<(ks.length - rH);omega)⟩⟩,kr ah 76 0 [] [2,3,4,48,49,50] [oB zT,oE uv,oC anY,oG .i64 MW ((fS (bf GZ KU KV z7 mL vE)).1),oZ,oB kj,oB kj,oI (rH) (by omega)]⟩
     ·have abI:=of_decide_eq_false zT;refine kx ah [oB zT] ?_;have hres:yJ (p9 m) fS (bf op n s t ns ks)=((IntKind.wrap .i64 (MW+1)),(IntKind.wrap .i64 (V6+1)),acB):=by
       have hi:ks.take rH=ks:=List.take_of_length_le (by omega);rw[hi] at D1 D2 D3;unfold yJ;rw[show iD (bf op n s t ns ks)=ks from rfl,← D1,← D2,← D3];try rfl
      show ∃_:Unit,KE (cf m) (q8 (cf m) _ 0 (.ret (.t (.bU [.int .i64 (yJ (p9 m) fS (bf op n s t ns ks)).1,.int .i64 (yJ (p9 m) fS (bf op n s t ns ks)).2.1,.bool (yJ (p9 m) fS (bf op n s t ns ks)).2.2])) [] [])) _ _ _;rw[hres];exact⟨(),kf ah [oZ,oZ]⟩
   ·have OG:=ne_of_beq_false hg4;have hE:p9 m (bf op n s t ns ks)=false:=by
     show(_&&_&&_&&_&&_)=_;simp only[hg2,hg3,hg4,Bool.and_true,Bool.true_and,Bool.false_and,Bool.and_false]
    refine kl (α:=Nat×Int×Int×Bool) ah 0 [] 76 0 [] [] [2,3,4,48,49,50] (λx=>⟨eD 76 [(2,.t (.int .i64 x.2.1)),(3,.t (.int .i64 x.2.2.1)),(4,.t (.bool x.2.2.2)),(48,.t (.sl ks)),(49,.t (.int .i64 ((ks.length:Nat):Int))),(50,.t (.int .i64 ((x.1:Nat):Int)))],[],0⟩) (λx=>(x.1<=ks.length)/\(x.2.1=(ks.take x.1).foldl (λa k=>max a (fS k).1) 0)/\(x.2.2.1=(ks.take x.1).foldl (λa k=>IntKind.wrap .i64 (a+(fS k).2.1)) 0)/\(x.2.2.2=(ks.take x.1).foldl (λo k=>o&&(fS k).2.2) (p9 m (bf op n s t ns ks)))) (λx=>ks.length - x.1) (⟨0,0,0,false⟩) (j6 (Tryz.f21.body.getD .skip) 4) ([oC (cO KT (x:=(bf op n s t ns ks)) hx)]++rq 6 (oB hg2) (rq 6 (oB hg3) (rq 6 (oB hg4) (rq 8 oF ([]))))) ⟨Nat.zero_le _,rfl,rfl,hE.symm⟩ (λx hok=> ?_);obtain⟨rK,MX,V7,acC⟩:=x;replace hok:(rK<=ks.length)/\(MX=(ks.take rK).foldl (λa k=>max a (fS k).1) 0)/\(V7=(ks.take rK).foldl (λa k=>IntKind.wrap .i64 (a+(fS k).2.1)) 0)/\(acC=(ks.take rK).foldl (λo k=>o&&(fS k).2.2) (p9 m (bf op n s t ns ks))):=hok;obtain⟨acD,rL,D4,D5⟩:=hok;rcases aM (decide (((rK:Nat):Int)<((ks.length:Nat):Int))) with ot|ot
    ·have Kf:=of_decide_eq_true ot;obtain⟨e18,D6⟩:=dr ks rK;have acE:=(hks e18 (fW D6));obtain⟨G5,HE,HF,yE,lF,vF,rfl,agl,agm,agn,ago,agp,agq,apH⟩:=T.bE acE;have anZ:=cO e_self (x:=(bf G5 HE HF yE lF vF)) (fW D6);rcases aM (acC) with xZ|xZ
     ·exact⟨.inl ⟨⟨rK+1,(max MX ((fS (bf G5 HE HF yE lF vF)).1)),(IntKind.wrap .i64 (V7+(fS (bf G5 HE HF yE lF vF)).2.1)),(fS (bf G5 HE HF yE lF vF)).2.2⟩,⟨⟨(by show(rK+1)<=ks.length;omega),((cQ D6).trans (by rw[← rL])).symm,((cQ D6).trans (by rw[← D4])).symm,((cQ D6).trans (by rw[← D5];simp only[xZ,Bool.true_and,Bool.false_and,Bool.and_true])).symm⟩,(by show(ks.length - (rK+1))<(ks.length - rK);omega)⟩⟩,kr ah 76 0 [] [2,3,4,48,49,50] [oB ot,oE D6,oC anZ,oG .i64 MX ((fS (bf G5 HE HF yE lF vF)).1),oZ,oB xZ,oB xZ,oI (rK) (by omega)]⟩
     ·exact⟨.inl ⟨⟨rK+1,(max MX ((fS (bf G5 HE HF yE lF vF)).1)),(IntKind.wrap .i64 (V7+(fS (bf G5 HE HF yE lF vF)).2.1)),false⟩,⟨⟨(by show(rK+1)<=ks.length;omega),((cQ D6).trans (by rw[← rL])).symm,((cQ D6).trans (by rw[← D4])).symm,((cQ D6).trans (by rw[← D5];simp only[xZ,Bool.true_and,Bool.false_and,Bool.and_true])).symm⟩,(by show(ks.length - (rK+1))<(ks.length - rK);omega)⟩⟩,kr ah 76 0 [] [2,3,4,48,49,50] [oB ot,oE D6,oC anZ,oG .i64 MX ((fS (bf G5 HE HF yE lF vF)).1),oZ,oB xZ,oB xZ,oI (rK) (by omega)]⟩
    ·have Kf:=of_decide_eq_false ot;refine kx ah [oB ot] ?_;have hres:yJ (p9 m) fS (bf op n s t ns ks)=((IntKind.wrap .i64 (MX+1)),(IntKind.wrap .i64 (V7+1)),acC):=by
      have hi:ks.take rK=ks:=List.take_of_length_le (by omega);rw[hi] at rL D4 D5;unfold yJ;rw[show iD (bf op n s t ns ks)=ks from rfl,← rL,← D4,← D5];try rfl
     show ∃_:Unit,KE (cf m) (q8 (cf m) _ 0 (.ret (.t (.bU [.int .i64 (yJ (p9 m) fS (bf op n s t ns ks)).1,.int .i64 (yJ (p9 m) fS (bf op n s t ns ks)).2.1,.bool (yJ (p9 m) fS (bf op n s t ns ks)).2.2])) [] [])) _ _ _;rw[hres];exact⟨(),kf ah [oZ,oZ]⟩
  ·have Fm:=ne_of_beq_false hg3;have hE:p9 m (bf op n s t ns ks)=false:=by
    show(_&&_&&_&&_&&_)=_;simp only[hg2,hg3,Bool.and_true,Bool.true_and,Bool.false_and,Bool.and_false]
   refine kl (α:=Nat×Int×Int×Bool) ah 0 [] 76 0 [] [] [2,3,4,48,49,50] (λx=>⟨eD 76 [(2,.t (.int .i64 x.2.1)),(3,.t (.int .i64 x.2.2.1)),(4,.t (.bool x.2.2.2)),(48,.t (.sl ks)),(49,.t (.int .i64 ((ks.length:Nat):Int))),(50,.t (.int .i64 ((x.1:Nat):Int)))],[],0⟩) (λx=>(x.1<=ks.length)/\(x.2.1=(ks.take x.1).foldl (λa k=>max a (fS k).1) 0)/\(x.2.2.1=(ks.take x.1).foldl (λa k=>IntKind.wrap .i64 (a+(fS k).2.1)) 0)/\(x.2.2.2=(ks.take x.1).foldl (λo k=>o&&(fS k).2.2) (p9 m (bf op n s t ns ks)))) (λx=>ks.length - x.1) (⟨0,0,0,false⟩) (j6 (Tryz.f21.body.getD .skip) 4) ([oC (cO KT (x:=(bf op n s t ns ks)) hx)]++rq 6 (oB hg2) (rq 6 (oB hg3) (rq 14 oF ([])))) ⟨Nat.zero_le _,rfl,rfl,hE.symm⟩ (λx hok=> ?_);obtain⟨z8,MY,V8,acF⟩:=x;replace hok:(z8<=ks.length)/\(MY=(ks.take z8).foldl (λa k=>max a (fS k).1) 0)/\(V8=(ks.take z8).foldl (λa k=>IntKind.wrap .i64 (a+(fS k).2.1)) 0)/\(acF=(ks.take z8).foldl (λo k=>o&&(fS k).2.2) (p9 m (bf op n s t ns ks))):=hok;obtain⟨an0,D7,D8,D9⟩:=hok;rcases aM (decide (((z8:Nat):Int)<((ks.length:Nat):Int))) with lD|lD
   ·have acs:=of_decide_eq_true lD;obtain⟨e23,oq⟩:=dr ks z8;have Vx:=(hks e23 (fW oq));obtain⟨G6,fU,fV,dI,bl,vG,rfl,aeL,aeM,aeN,aeO,aeP,aeQ,apI⟩:=T.bE Vx;have an1:=cO e_self (x:=(bf G6 fU fV dI bl vG)) (fW oq);rcases aM (acF) with qO|qO
    ·exact⟨.inl ⟨⟨z8+1,(max MY ((fS (bf G6 fU fV dI bl vG)).1)),(IntKind.wrap .i64 (V8+(fS (bf G6 fU fV dI bl vG)).2.1)),(fS (bf G6 fU fV dI bl vG)).2.2⟩,⟨⟨(by show(z8+1)<=ks.length;omega),((cQ oq).trans (by rw[← D7])).symm,((cQ oq).trans (by rw[← D8])).symm,((cQ oq).trans (by rw[← D9];simp only[qO,Bool.true_and,Bool.false_and,Bool.and_true])).symm⟩,(by show(ks.length - (z8+1))<(ks.length - z8);omega)⟩⟩,kr ah 76 0 [] [2,3,4,48,49,50] [oB lD,oE oq,oC an1,oG .i64 MY ((fS (bf G6 fU fV dI bl vG)).1),oZ,oB qO,oB qO,oI (z8) (by omega)]⟩
    ·exact⟨.inl ⟨⟨z8+1,(max MY ((fS (bf G6 fU fV dI bl vG)).1)),(IntKind.wrap .i64 (V8+(fS (bf G6 fU fV dI bl vG)).2.1)),false⟩,⟨⟨(by show(z8+1)<=ks.length;omega),((cQ oq).trans (by rw[← D7])).symm,((cQ oq).trans (by rw[← D8])).symm,((cQ oq).trans (by rw[← D9];simp only[qO,Bool.true_and,Bool.false_and,Bool.and_true])).symm⟩,(by show(ks.length - (z8+1))<(ks.length - z8);omega)⟩⟩,kr ah 76 0 [] [2,3,4,48,49,50] [oB lD,oE oq,oC an1,oG .i64 MY ((fS (bf G6 fU fV dI bl vG)).1),oZ,oB qO,oB qO,oI (z8) (by omega)]⟩
   ·have acs:=of_decide_eq_false lD;refine kx ah [oB lD] ?_;have hres:yJ (p9 m) fS (bf op n s t ns ks)=((IntKind.wrap .i64 (MY+1)),(IntKind.wrap .i64 (V8+1)),acF):=by
     have hi:ks.take z8=ks:=List.take_of_length_le (by omega);rw[hi] at D7 D8 D9;unfold yJ;rw[show iD (bf op n s t ns ks)=ks from rfl,← D7,← D8,← D9];try rfl
    show ∃_:Unit,KE (cf m) (q8 (cf m) _ 0 (.ret (.t (.bU [.int .i64 (yJ (p9 m) fS (bf op n s t ns ks)).1,.int .i64 (yJ (p9 m) fS (bf op n s t ns ks)).2.1,.bool (yJ (p9 m) fS (bf op n s t ns ks)).2.2])) [] [])) _ _ _;rw[hres];exact⟨(),kf ah [oZ,oZ]⟩
 ·have hE:p9 m (bf op n s t ns ks)=false:=by
   show(_&&_&&_&&_&&_)=_;simp only[hg2,Bool.and_true,Bool.true_and,Bool.false_and,Bool.and_false]
  refine kl (α:=Nat×Int×Int×Bool) ah 0 [] 76 0 [] [] [2,3,4,48,49,50] (λx=>⟨eD 76 [(2,.t (.int .i64 x.2.1)),(3,.t (.int .i64 x.2.2.1)),(4,.t (.bool x.2.2.2)),(48,.t (.sl ks)),(49,.t (.int .i64 ((ks.length:Nat):Int))),(50,.t (.int .i64 ((x.1:Nat):Int)))],[],0⟩) (λx=>(x.1<=ks.length)/\(x.2.1=(ks.take x.1).foldl (λa k=>max a (fS k).1) 0)/\(x.2.2.1=(ks.take x.1).foldl (λa k=>IntKind.wrap .i64 (a+(fS k).2.1)) 0)/\(x.2.2.2=(ks.take x.1).foldl (λo k=>o&&(fS k).2.2) (p9 m (bf op n s t ns ks)))) (λx=>ks.length - x.1) (⟨0,0,0,false⟩) (j6 (Tryz.f21.body.getD .skip) 4) ([oC (cO KT (x:=(bf op n s t ns ks)) hx)]++rq 6 (oB hg2) (rq 20 oF ([]))) ⟨Nat.zero_le _,rfl,rfl,hE.symm⟩ (λx hok=> ?_);obtain⟨Aa,MZ,V9,acG⟩:=x;replace hok:(Aa<=ks.length)/\(MZ=(ks.take Aa).foldl (λa k=>max a (fS k).1) 0)/\(V9=(ks.take Aa).foldl (λa k=>IntKind.wrap .i64 (a+(fS k).2.1)) 0)/\(acG=(ks.take Aa).foldl (λo k=>o&&(fS k).2.2) (p9 m (bf op n s t ns ks))):=hok;obtain⟨an2,Ea,Eb,Ec⟩:=hok;rcases aM (decide (((Aa:Nat):Int)<((ks.length:Nat):Int))) with Yc|Yc
  ·have an3:=of_decide_eq_true Yc;obtain⟨e28,Fq⟩:=dr ks Aa;have Vy:=(hks e28 (fW Fq));obtain⟨G7,J6,J7,zH,mJ,vH,rfl,aeR,aeS,aeT,aeU,aeV,aeW,apJ⟩:=T.bE Vy;have an4:=cO e_self (x:=(bf G7 J6 J7 zH mJ vH)) (fW Fq);rcases aM (acG) with jO|jO
   ·exact⟨.inl ⟨⟨Aa+1,(max MZ ((fS (bf G7 J6 J7 zH mJ vH)).1)),(IntKind.wrap .i64 (V9+(fS (bf G7 J6 J7 zH mJ vH)).2.1)),(fS (bf G7 J6 J7 zH mJ vH)).2.2⟩,⟨⟨(by show(Aa+1)<=ks.length;omega),((cQ Fq).trans (by rw[← Ea])).symm,((cQ Fq).trans (by rw[← Eb])).symm,((cQ Fq).trans (by rw[← Ec];simp only[jO,Bool.true_and,Bool.false_and,Bool.and_true])).symm⟩,(by show(ks.length - (Aa+1))<(ks.length - Aa);omega)⟩⟩,kr ah 76 0 [] [2,3,4,48,49,50] [oB Yc,oE Fq,oC an4,oG .i64 MZ ((fS (bf G7 J6 J7 zH mJ vH)).1),oZ,oB jO,oB jO,oI (Aa) (by omega)]⟩
   ·exact⟨.inl ⟨⟨Aa+1,(max MZ ((fS (bf G7 J6 J7 zH mJ vH)).1)),(IntKind.wrap .i64 (V9+(fS (bf G7 J6 J7 zH mJ vH)).2.1)),false⟩,⟨⟨(by show(Aa+1)<=ks.length;omega),((cQ Fq).trans (by rw[← Ea])).symm,((cQ Fq).trans (by rw[← Eb])).symm,((cQ Fq).trans (by rw[← Ec];simp only[jO,Bool.true_and,Bool.false_and,Bool.and_true])).symm⟩,(by show(ks.length - (Aa+1))<(ks.length - Aa);omega)⟩⟩,kr ah 76 0 [] [2,3,4,48,49,50] [oB Yc,oE Fq,oC an4,oG .i64 MZ ((fS (bf G7 J6 J7 zH mJ vH)).1),oZ,oB jO,oB jO,oI (Aa) (by omega)]⟩
  ·have an3:=of_decide_eq_false Yc;refine kx ah [oB Yc] ?_;have hres:yJ (p9 m) fS (bf op n s t ns ks)=((IntKind.wrap .i64 (MZ+1)),(IntKind.wrap .i64 (V9+1)),acG):=by
    have hi:ks.take Aa=ks:=List.take_of_length_le (by omega);rw[hi] at Ea Eb Ec;unfold yJ;rw[show iD (bf op n s t ns ks)=ks from rfl,← Ea,← Eb,← Ec];try rfl
   show ∃_:Unit,KE (cf m) (q8 (cf m) _ 0 (.ret (.t (.bU [.int .i64 (yJ (p9 m) fS (bf op n s t ns ks)).1,.int .i64 (yJ (p9 m) fS (bf op n s t ns ks)).2.1,.bool (yJ (p9 m) fS (bf op n s t ns ks)).2.2])) [] [])) _ _ _;rw[hres];exact⟨(),kf ah [oZ,oZ]⟩
theorem Yd (m:Int):∃F:Tree->Int×Int×Bool,∀x,T .aG x->ai (cf m) 21 [.t x] [] (.ret (.t (.bU [.int .i64 (F x).1,.int .i64 (F x).2.1,.bool (F x).2.2])) [] [])/\((F x).2.2=true->Rt x)/\∃n,Dx n x/\F x=Ck (p9 m) n x:=by
 have key:∀(k:K) (x:Tree),T k x->k=.aG->∃r:Int×Int×Bool,ai (cf m) 21 [.t x] [] (.ret (.t (.bU [.int .i64 r.1,.int .i64 r.2.1,.bool r.2.2])) [] [])/\(r.2.2=true->Rt x)/\∃n,Dx n x/\r=Ck (p9 m) n x:=by
  intro k x h;induction h with
  | aG op n s t_ names kids h00 WR htb h0 h1 h2 h3 ih1 ih3=>
   intro _
   obtain⟨fS,hS⟩:=bJ (P:=λy=>y∈kids) (Q:=λy (r:Int×Int×Bool)=>ai (cf m) 21 [.t y] [] (.ret (.t (.bU [.int .i64 r.1,.int .i64 r.2.1,.bool r.2.2])) [] [])/\(r.2.2=true->Rt y)/\∃n,Dx n y/\r=Ck (p9 m) n y) λy hy=>ih3 y hy rfl
   obtain⟨d,hd⟩:=alC (l:=kids) λy hy=>by obtain⟨n,h,_⟩:=(hS y hy).2.2;exact⟨n,h⟩
   have e:yJ (p9 m) fS (bf op n s t_ names kids)=Ck (p9 m) (d+1) (bf op n s t_ names kids):=Md λy hy=>by
    obtain⟨k,h,e⟩:=(hS y hy).2.2
    rw[e];exact BB _ _ _ h (hd y hy)
   refine⟨_,agj m op n s t_ names kids h0 h00 WR htb h1 h2 h3 fS (λy hy=>(hS y hy).1),λh=> ?_,d+1,hd,e⟩
   obtain⟨h4,h5⟩:=Jn.1 h
   exact Rt.mk op n s t_ names kids (acA (.aG op n s t_ names kids h00 WR htb h0 h1 h2 h3) h4) λy hy=>(hS y hy).2.1 (h5 y hy)
  |_=>intro hk;cases hk
 exact bJ λx hx=>key _ x hx rfl
theorem yh (m:Int):∃F:Tree->Int,∀x,(T .aG x)->R1 (cf m) 8 x (.int .i64 (F x))/\(((F x)=0->Rt x)/\∃n,Dx n x/\(F x)=E7 (Ck (p9 m) n x)):=by
 refine BI (P:=λx=>T .aG x) (mk:=λ(r:Int)=>.int .i64 r) (Post:=λx r=>(r=0->Rt x)/\∃n,Dx n x/\r=E7 (Ck (p9 m) n x)) λx hx=> ?_
 show ∃r:{r:Int //(r=0->Rt x)/\∃n,Dx n x/\r=E7 (Ck (p9 m) n x)},ai (cf m) 8 [.t x] [] (.ret (.t (.int .i64 r.1)) [] []);have bw:=hx;obtain⟨bX,n_1,s_1,dH,aU,bN,rfl,cL,cF,fQ,dX,fk,eR,jq⟩:=T.bE bw;obtain⟨F3,h_size⟩:=Yd m;obtain⟨ev,aK,aj3⟩:∃ev,aD (cf m) ev/\Has ev 21 (mY (λx=>T .aG x) (λx=>.bU [.int .i64 (F3 x).1,.int .i64 (F3 x).2.1,.bool (F3 x).2.2])):=⟨_,(aq (bT (λx h=>(h_size x h).1)) aF),au⟩;refine AX.start 21 1 Tryz.func8 rfl (by decide) rfl rfl (by decide) ?_;refine AX.frames ?_;have hp2:=(h_size (bf bX n_1 s_1 dH aU bN) bw).2;have agr:=cO aj3 (x:=(bf bX n_1 s_1 dH aU bN)) bw;rcases aM ((!(F3 (bf bX n_1 s_1 dH aU bN)).2.2)) with bK|bK
 ·refine⟨⟨5, ?_⟩,kf ah [oC agr,oB bK]⟩;exact⟨λh=>absurd h (by decide),by
   obtain⟨_,n,hn,e⟩:=hp2;refine⟨n,hn, ?_⟩;rw[← e];unfold E7;rw[if_pos (wI bK)]⟩
 ·rcases aM (decide ((F3 (bf bX n_1 s_1 dH aU bN)).1>16)) with gP|gP
  ·have tT:=of_decide_eq_true gP;refine⟨⟨4, ?_⟩,kf ah [oC agr,oB bK,oB gP]⟩;exact⟨λh=>absurd h (by decide),by
    obtain⟨_,n,hn,e⟩:=hp2;refine⟨n,hn, ?_⟩;rw[← e];unfold E7;rw[if_neg (by rw[(pO bK)];decide)];rw[if_pos (of_decide_eq_true gP)]⟩
  ·have tT:=of_decide_eq_false gP;rcases aM (decide ((F3 (bf bX n_1 s_1 dH aU bN)).2.1>128)) with jm|jm
   ·have BW:=of_decide_eq_true jm;refine⟨⟨2, ?_⟩,kf ah [oC agr,oB bK,oB gP,oB jm]⟩;exact⟨λh=>absurd h (by decide),by
     obtain⟨_,n,hn,e⟩:=hp2;refine⟨n,hn, ?_⟩;rw[← e];unfold E7;rw[if_neg (by rw[(pO bK)];decide)];rw[if_neg (of_decide_eq_false gP)];rw[if_pos (of_decide_eq_true jm)]⟩
   ·have BW:=of_decide_eq_false jm;refine⟨⟨0, ?_⟩,kf ah [oC agr,oB bK,oB gP,oB jm]⟩;exact⟨λ_=>hp2.1 (pO bK),by
     obtain⟨_,n,hn,e⟩:=hp2;refine⟨n,hn, ?_⟩;rw[← e];unfold E7;rw[if_neg (by rw[(pO bK)];decide)];rw[if_neg (of_decide_eq_false gP)];rw[if_neg (of_decide_eq_false jm)]⟩
end
end Go.Proofs.YtfdnciimclnncaaGreatDoor.w.e
namespace Go.Proofs.YtfdnciimclnncaaGreatDoor.w.e
open Go Go.Abs
set_option maxRecDepth 100000
set_option maxHeartbeats 2000000
noncomputable section
theorem acH {a b:List UInt8}(h:a.length+b.length<=4611686018427387904):SI .add a b=some (.t (.str (a++b))):=if_pos h
def sO:Tree->List UInt8
 |.str s=>s
 |_=>[]
theorem F4 (m:Int):∃F:Tree->Tree->Int,∀x y,(T .string x/\T .string y)->R2 (cf m) 75 x y (.int .i64 (F x y))/\∀j:Nat,F x y=(j:Int)->j+(sO y).length<=(sO x).length:=by
 refine⟨λx y=>Lib.index (sO x) (sO y),λx y h=> ?_⟩;obtain⟨s,rfl,hs⟩:=T.bF h.1;obtain⟨p,rfl,hp⟩:=T.bF h.2;refine⟨?_,λj hj=> ?_⟩
 ·have hx:rz (cf m) 75 wD:=Gw (C:=cf m) (gm:=2) (m:=m) rfl live.ZN (λs sub m w h1 h2=>Tryz.stringslite_Index s sub m w h1 h2);exact hx pF aF _ _ _ (by show(if s.length<4294967281 then _ else _)=_;rw[if_pos (by omega)];rfl)
 ·have hj:Lib.index (sO (.str s)) (sO (.str p))=(j:Int):=hj;have h1:=Lib.index_room (sO (.str s)) (sO (.str p)) (by rw[hj];omega);rw[hj] at h1;omega
noncomputable def ixF (m:Int):Tree->Tree->Int:=(F4 m).choose
theorem aj4 (m:Int):∀x y,(T .string x/\T .string y)->R2 (cf m) 75 x y (.int .i64 (ixF m x y)):=λx y h=>((F4 m).choose_spec x y h).1
theorem an5 (m:Int){x y:Tree}(hx:T .string x)(hy:T .string y){j:Nat}(h:ixF m x y=(j:Int)):j+(sO y).length<=(sO x).length:=((F4 m).choose_spec x y ⟨hx,hy⟩).2 j h
def SL (n:Nat)(l:List Tree):Prop:=∀y∈l,∃z,y=.str z/\z.length<=n
theorem SL.RZ {n:Nat}{l:List Tree}(h:SL n l):eP false 1 l:=λy hy=>by
 obtain⟨z,rfl,_⟩:=h y hy;exact⟨rfl,rfl,rfl⟩
theorem SL.set {n n' i:Nat}{l:List Tree}{z:List UInt8}(h:SL n l)(hn:n<=n')(hz:z.length<=n'):SL n' (l.set i (.str z)):=λy hy=>by
 rcases List.mem_or_eq_of_mem_set hy with hy|rfl
 ·obtain⟨z,e,hz⟩:=h y hy;exact⟨z,e,by omega⟩
 ·exact⟨z,rfl,hz⟩
theorem SL.snoc {n n':Nat}{l:List Tree}{z:List UInt8}(h:SL n l)(hn:n<=n')(hz:z.length<=n'):SL n' (l++[.str z]):=λy hy=>by
 rcases List.mem_append.1 hy with hy|hy
 ·obtain⟨z,e,hz⟩:=h y hy;exact⟨z,e,by omega⟩
 ·exact⟨z,List.mem_singleton.1 hy,hz⟩
theorem acI {a b:Nat}(h:b<=a)(ha:a<9223372036854775807):TV.t (.int .i64 (IntKind.i64.wrap ((a:Int) - (b:Int))))=.t (.int .i64 ((a - b:Nat):Int)):=by
 rw[wrap64 (by omega) (by omega)];congr 2;omega
theorem aj5 (m:Int)(s p:List UInt8)(hs:s.length<=4194304)(hp:p.length<=4194304):R2 (cf m) 38 (.str s) (.str p) (.int .i64 (ixF m (.str s) (.str p))):=by
 obtain⟨ev,aK,aj6⟩:∃ev,aD (cf m) ev/\Has ev 75 (rM (λx y=>T .string x/\T .string y) (λx y=>.int .i64 (ixF m x y))):=⟨_,(aq (dA (λx y h=>aj4 m x y h)) aF),au⟩;refine ai.gO ?_;refine AX.start 8 2 Tryz.func38 rfl (by decide) rfl rfl (by decide) ?_;refine AX.frames ?_;exact⟨(),kf ah [oC (eL aj6 (x:=.str s) (y:=.str p) ⟨(.string _ cc),(.string _ cc)⟩)]⟩
theorem ags (m:Int):∀x y,(T .string x/\T .string y)->R2 (cf m) 38 x y (.int .i64 (ixF m x y)):=λx y h=>by
 obtain⟨s,rfl,hs⟩:=T.bF h.1;obtain⟨p,rfl,hp⟩:=T.bF h.2;exact aj5 m s p hs hp
theorem acJ (m:Int):∃F:Tree->Tree->Bool,∀x y,(T .string x/\T .string y)->R2 (cf m) 73 x y (.bool (F x y))/\((F x y)=true->(sO y).length<=(sO x).length):=by
 refine tO (P:=λx y=>T .string x/\T .string y) (mk:=λ(r:Bool)=>.bool r) (Post:=λx y r=>r=true->(sO y).length<=(sO x).length) λx y hx=> ?_
 obtain⟨hx,hy⟩:=hx;show ∃r:{r:Bool // r=true->(sO y).length<=(sO x).length},ai (cf m) 73 [.t x,.t y] [] (.ret (.t (.bool r.1)) [] []);have bw:=hx;obtain⟨v_1,rfl,cL⟩:=T.bF bw;have dB:=hy;obtain⟨v_2,rfl,gx⟩:=T.bF dB;obtain⟨ev,aK⟩:∃ev,aD (cf m) ev:=⟨_,aF⟩;refine AX.start 18 2 Tryz.func73 rfl (by decide) rfl rfl (by decide) ?_;refine AX.frames ?_;rcases aM (decide (((v_1.length:Nat):Int)>=((v_2.length:Nat):Int))) with hg3|hg3
 ·have Fm:=of_decide_eq_true hg3;refine⟨⟨(((v_1.take v_2.length).drop 0)==v_2), ?_⟩,kf ah (rq 4 (oB hg3) ([oR 0 v_2.length cT,oR v_2.length v_1.length cT,oB hg3,oB hg3,oB hg3]))⟩;intro h;simp only[sO];first|omega|exact absurd h (by decide)
 ·have Fm:=of_decide_eq_false hg3;refine⟨⟨false, ?_⟩,kf ah (rq 7 (oB hg3) ([]))⟩;intro h;simp only[sO];first|omega|exact absurd h (by decide)
theorem agt (m:Int):∃F:Tree->Tree->Bool,∀x y,(T .string x/\T .string y)->R2 (cf m) 36 x y (.bool (F x y))/\((F x y)=true->(sO y).length<=(sO x).length):=by
 refine tO (P:=λx y=>T .string x/\T .string y) (mk:=λ(r:Bool)=>.bool r) (Post:=λx y r=>r=true->(sO y).length<=(sO x).length) λx y hx=> ?_
 obtain⟨hx,hy⟩:=hx;show ∃r:{r:Bool // r=true->(sO y).length<=(sO x).length},ai (cf m) 36 [.t x,.t y] [] (.ret (.t (.bool r.1)) [] []);have bw:=hx;obtain⟨v_1,rfl,cL⟩:=T.bF bw;have dB:=hy;obtain⟨v_2,rfl,gx⟩:=T.bF dB;obtain⟨ahM,ahN⟩:=acJ m;obtain⟨ev,aK,an6⟩:∃ev,aD (cf m) ev/\Has ev 73 (rM (λx y=>T .string x/\T .string y) (λx y=>.bool (ahM x y))):=⟨_,(aq (dA (λx y h=>(ahN x y h).1)) aF),au⟩;refine AX.start 8 2 Tryz.func36 rfl (by decide) rfl rfl (by decide) ?_;refine AX.frames ?_;have Sy:=(ahN (.str v_1) (.str v_2) ⟨bw,dB⟩).2;refine⟨⟨(ahM (.str v_1) (.str v_2)), ?_⟩,kf ah [oC (eL an6 (x:=.str v_1) (y:=.str v_2) ⟨bw,dB⟩)]⟩;exact Sy
theorem acK (m:Int):∃F:Tree->Tree->Bool,∀x y,(T .string x/\T .string y)->R2 (cf m) 74 x y (.bool (F x y))/\(True):=by
 refine tO (P:=λx y=>T .string x/\T .string y) (mk:=λ(r:Bool)=>.bool r) (Post:=λx y r=>True) λx y hx=> ?_
 obtain⟨hx,hy⟩:=hx;show ∃r:{r:Bool // True},ai (cf m) 74 [.t x,.t y] [] (.ret (.t (.bool r.1)) [] []);have bw:=hx;obtain⟨v_1,rfl,cL⟩:=T.bF bw;have dB:=hy;obtain⟨v_2,rfl,gx⟩:=T.bF dB;obtain⟨ev,aK⟩:∃ev,aD (cf m) ev:=⟨_,aF⟩;refine AX.start 21 2 Tryz.func74 rfl (by decide) rfl rfl (by decide) ?_;refine AX.frames ?_;rcases aM (decide (((v_1.length:Nat):Int)>=((v_2.length:Nat):Int))) with hg3|hg3
 ·have Fm:=of_decide_eq_true hg3;refine⟨⟨(((v_1.take v_1.length).drop (v_1.length - v_2.length))==v_2), ?_⟩,kf ah (rq 6 (oB hg3) ([oV (acI (a:=v_1.length) (b:=v_2.length) (by omega) (by omega)),oB hg3,oR (v_1.length - v_2.length) v_1.length cT,oR v_1.length v_1.length cT,oB hg3,oB hg3,oB hg3]))⟩;trivial
 ·have Fm:=of_decide_eq_false hg3;refine⟨⟨false, ?_⟩,kf ah (rq 10 (oB hg3) ([]))⟩;trivial
theorem agu (m:Int):∃F:Tree->Tree->Bool,∀x y,(T .string x/\T .string y)->R2 (cf m) 37 x y (.bool (F x y))/\(True):=by
 refine tO (P:=λx y=>T .string x/\T .string y) (mk:=λ(r:Bool)=>.bool r) (Post:=λx y r=>True) λx y hx=> ?_
 obtain⟨hx,hy⟩:=hx;show ∃r:{r:Bool // True},ai (cf m) 37 [.t x,.t y] [] (.ret (.t (.bool r.1)) [] []);have bw:=hx;obtain⟨v_1,rfl,cL⟩:=T.bF bw;have dB:=hy;obtain⟨v_2,rfl,gx⟩:=T.bF dB;obtain⟨ahO,an7⟩:=acK m;obtain⟨ev,aK,an8⟩:∃ev,aD (cf m) ev/\Has ev 74 (rM (λx y=>T .string x/\T .string y) (λx y=>.bool (ahO x y))):=⟨_,(aq (dA (λx y h=>(an7 x y h).1)) aF),au⟩;refine AX.start 8 2 Tryz.func37 rfl (by decide) rfl rfl (by decide) ?_;refine AX.frames ?_;refine⟨⟨(ahO (.str v_1) (.str v_2)), ?_⟩,kf ah [oC (eL an8 (x:=.str v_1) (y:=.str v_2) ⟨bw,dB⟩)]⟩;trivial
theorem agv (m:Int)(s p:List UInt8)(hs:s.length<=4194304)(hp:p.length<=4194304):∃r:Bool,R2 (cf m) 20 (.str s) (.str p) (.bool r):=by
 obtain⟨aj7,aj8⟩:=agt m;obtain⟨an9,aqX⟩:=agu m;obtain⟨ev,aK,Ye,aoa,ahP⟩:∃ev,aD (cf m) ev/\Has ev 36 (rM (λx y=>T .string x/\T .string y) (λx y=>.bool (aj7 x y)))/\Has ev 37 (rM (λx y=>T .string x/\T .string y) (λx y=>.bool (an9 x y)))/\Has ev 38 (rM (λx y=>T .string x/\T .string y) (λx y=>.int .i64 (ixF m x y))):=⟨_,(aq (dA (λx y h=>(aj8 x y h).1)) (aq (dA (λx y h=>(aqX x y h).1)) (aq (dA (λx y h=>ags m x y h)) aF))),au,(az rfl au),(az rfl (az rfl au))⟩;refine AX.start 121 2 Tryz.func20 rfl (by decide) rfl rfl (by decide) ?_;refine AX.frames ?_;refine kl (α:=Nat×List Tree×Nat) ah 8192 [] 121 1 [.loc [1]] [.loc [1]] [0,1,5,6] (λx=>⟨eD 121 [(0,.t (.str s)),(1,.t (.str p)),(5,.ref (.loc [0]) 0 x.2.2),(6,.t (.int .i64 ((x.1:Nat):Int)))],[(.loc [0],.arr (9,false) 1 false ((flat x.2.1).map .t))],1⟩) (λx=>(x.1<=p.length)/\(SL x.1 x.2.1)/\(x.2.2=x.2.1.length)/\(1<=x.2.2/\x.2.2<=x.1+1)) (λx=>p.length - x.1) (⟨0,[.str []],1⟩) (j6 (Tryz.f20.body.getD .skip) 3) [oN (o:=.arr (9,false) 1 false ((flat [.str []]).map .t)) (λ_=>kY)] ⟨Nat.zero_le _,(λy hy=>⟨[],List.mem_singleton.1 hy,Nat.zero_le _⟩),rfl,(by decide),(by decide)⟩ (λx hok=> ?_);obtain⟨jJ,dW,je⟩:=x;replace hok:(jJ<=p.length)/\(SL jJ dW)/\(je=dW.length)/\(1<=je/\je<=jJ+1):=hok;obtain⟨cM,bO,fM,gT⟩:=hok;rcases aM (decide (((jJ:Nat):Int)<((p.length:Nat):Int))) with cq|cq
 ·have jP:=of_decide_eq_true cq;have Sy:=(aj8 (.str ((p.take p.length).drop jJ)) (.str [92,42]) ⟨(.string _ cc),(.string _ cc)⟩).2;rcases aM ((aj7 (.str ((p.take p.length).drop jJ)) (.str [92,42]))) with gP|gP
  ·have aob:=Sy gP;simp only[sO,List.length_drop,List.length_take,List.length_cons,List.length_nil] at aob;obtain⟨e5,kA⟩:=dr dW (je - 1);obtain⟨z_6,rfl,as8⟩:=(bO e5 (fW kA));exact⟨.inl ⟨⟨jJ+1+1,(dW.set (je - 1) (.str (z_6++[42]))),je⟩,⟨⟨(by show(jJ+1+1)<=p.length;first|omega|(simp only[List.length_append,List.length_cons,List.length_nil,List.length_singleton] at*;omega)|(simp;done)|(simp;omega)),(SL.set bO (by omega) (by first|omega|(simp only[List.length_append,List.length_cons,List.length_nil,List.length_take,List.length_drop,List.length_set]<;>omega))),(by first|omega|(simp only[List.length_append,List.length_cons,List.length_nil,List.length_take,List.length_drop,List.length_set]<;>omega)),(by first|omega|(simp;omega))⟩,(by show(p.length - (jJ+1+1))<(p.length - jJ);omega)⟩⟩,vS ah 8192 [] 121 1 [.loc [0]] [.loc [0]] [0,1,5,6] [oB cq,oR jJ p.length cT,oR p.length p.length cT,oC (eL Ye (x:=.str ((p.take p.length).drop jJ)) (y:=.str [92,42]) ⟨(.string _ cc),(.string _ cc)⟩),oB gP,oS (je) (by omega) (by omega),oX false 1 dW je cT (SL.RZ bO),oR ((je - 1)+1) je cT,oQ dW,oO (nZ (i:=je - 1) (j:=0) (eP.lens (SL.RZ bO)) kA rfl),oO (show SI .add z_6 [42]=some (.t (.str (z_6++[42]))) from acH (by first|omega|(simp only[List.length_append,List.length_cons,List.length_nil,List.length_take,List.length_drop,List.length_set]<;>omega))),oX false 1 dW je cT (SL.RZ bO),oR ((je - 1)+1) je cT,oQ dW,oR _ _ (zx (j:=0) (m:=1) (eP.lens (SL.RZ bO)) kA (by decide)),oK (wJ (j:=0) (e':=.str (z_6++[42])) (vs:=[.str (z_6++[42])]) (eP.lens (SL.RZ bO)) kA (by first|decide|simp) rfl),oI (jJ) (by omega),oI (jJ+1) (by omega),oN (o:=.arr (9,false) 1 false ((flat (dW.set (je - 1) (.str (z_6++[42])))).map .t)) (λ_=>kY)]⟩
  ·obtain⟨c7,gi⟩:∃b,p[jJ]?=some b:=⟨_,List.getElem?_eq_getElem (by first|omega|(simp;omega))⟩;rcases aM ((((c7.toNat:Nat):Int)==42)) with js|js
   ·have BV:=eq_of_beq js;exact⟨.inl ⟨⟨jJ+1,dW++([.str []]:List Tree),(dW++([.str []]:List Tree)).length⟩,⟨⟨(by show(jJ+1)<=p.length;first|omega|(simp only[List.length_append,List.length_cons,List.length_nil,List.length_singleton] at*;omega)|(simp;done)|(simp;omega)),(SL.snoc bO (by omega) (by first|omega|(simp only[List.length_append,List.length_cons,List.length_nil,List.length_take,List.length_drop,List.length_set]<;>omega))),(by first|omega|(simp only[List.length_append,List.length_cons,List.length_nil,List.length_take,List.length_drop,List.length_set]<;>omega)),(by first|omega|(simp;omega))⟩,(by show(p.length - (jJ+1))<(p.length - jJ);omega)⟩⟩,vS ah 8192 [] 121 1 [.loc [0]] [.loc [0]] [0,1,5,6] [oB cq,oR jJ p.length cT,oR p.length p.length cT,oC (eL Ye (x:=.str ((p.take p.length).drop jJ)) (y:=.str [92,42]) ⟨(.string _ cc),(.string _ cc)⟩),oB gP,oY gi,oB js,oU false 1 ([.str []]:List Tree) (eP.cons ⟨rfl,rfl,rfl⟩ eP.nil) (by simp),oX false 1 dW je cT (SL.RZ bO),oA ((je+([.str []]:List Tree).length) *16) cT,oI (jJ) (by omega),oN (o:=.arr (9,false) 1 false ((flat (dW++([.str []]:List Tree))).map .t)) (λ_=>kY)]⟩
   ·have BV:=ne_of_beq_false js;obtain⟨e9,ME⟩:=dr dW (je - 1);obtain⟨Yf,rfl,asM⟩:=(bO e9 (fW ME));exact⟨.inl ⟨⟨jJ+1,(dW.set (je - 1) (.str (Yf++((p.take (jJ+1)).drop jJ)))),je⟩,⟨⟨(by show(jJ+1)<=p.length;first|omega|(simp only[List.length_append,List.length_cons,List.length_nil,List.length_singleton] at*;omega)|(simp;done)|(simp;omega)),(SL.set bO (by omega) (by first|omega|(simp only[List.length_append,List.length_cons,List.length_nil,List.length_take,List.length_drop,List.length_set]<;>omega))),(by first|omega|(simp only[List.length_append,List.length_cons,List.length_nil,List.length_take,List.length_drop,List.length_set]<;>omega)),(by first|omega|(simp;omega))⟩,(by show(p.length - (jJ+1))<(p.length - jJ);omega)⟩⟩,vS ah 8192 [] 121 1 [.loc [0]] [.loc [0]] [0,1,5,6] [oB cq,oR jJ p.length cT,oR p.length p.length cT,oC (eL Ye (x:=.str ((p.take p.length).drop jJ)) (y:=.str [92,42]) ⟨(.string _ cc),(.string _ cc)⟩),oB gP,oY gi,oB js,oS (je) (by omega) (by omega),oX false 1 dW je cT (SL.RZ bO),oR ((je - 1)+1) je cT,oQ dW,oO (nZ (i:=je - 1) (j:=0) (eP.lens (SL.RZ bO)) ME rfl),oI (jJ) (by omega),oR jJ (jJ+1) cT,oR (jJ+1) p.length cT,oO (show SI .add Yf ((p.take (jJ+1)).drop jJ)=some (.t (.str (Yf++((p.take (jJ+1)).drop jJ)))) from acH (by first|omega|(simp only[List.length_append,List.length_cons,List.length_nil,List.length_take,List.length_drop,List.length_set]<;>omega))),oX false 1 dW je cT (SL.RZ bO),oR ((je - 1)+1) je cT,oQ dW,oR _ _ (zx (j:=0) (m:=1) (eP.lens (SL.RZ bO)) ME (by decide)),oK (wJ (j:=0) (e':=.str (Yf++((p.take (jJ+1)).drop jJ))) (vs:=[.str (Yf++((p.take (jJ+1)).drop jJ))]) (eP.lens (SL.RZ bO)) ME (by first|decide|simp) rfl),oI (jJ) (by omega),oN (o:=.arr (9,false) 1 false ((flat (dW.set (je - 1) (.str (Yf++((p.take (jJ+1)).drop jJ))))).map .t)) (λ_=>kY)]⟩
 ·have jP:=of_decide_eq_false cq;refine Fi ah 8192 [] [oB cq] ?_;obtain⟨e11,Yg⟩:=dr dW 0;obtain⟨Ed,rfl,asN⟩:=(bO e11 (fW Yg));obtain⟨e13,uv⟩:=dr dW (je - 1);obtain⟨F5,rfl,asO⟩:=(bO e13 (fW uv));refine kAt (f:=8192) (n:=3000) (once:=[]) (k:=121) (T:=1) (S:=[.loc [0]]) (ks:=[.loc [0]]) (live:=[0,5,7,8,16]) ah aK (Tryz.f20.body.getD .skip) 12 rfl (⟨eD 121 [(0,.t (.str s)),(5,.ref (.loc [0]) 0 je),(7,.t (.str Ed)),(8,.t (.str F5)),(16,.t (.bool (decide (((jJ:Nat):Int)<((p.length:Nat):Int)))))],[(.loc [0],.arr (9,false) 1 false ((flat dW).map .t))],1⟩) [oX false 1 dW je cT (SL.RZ bO),oR (0+1) je cT,oQ dW,oO (nZ (i:=0) (j:=0) (eP.lens (SL.RZ bO)) Yg rfl),oS (je) (by omega) (by omega),oX false 1 dW je cT (SL.RZ bO),oR ((je - 1)+1) je cT,oQ dW,oO (nZ (i:=je - 1) (j:=0) (eP.lens (SL.RZ bO)) uv rfl),oN (o:=.arr (9,false) 1 false ((flat dW).map .t)) (λ_=>kY)] (by kernel_rfl) ?_;refine AX.re (Re.sF (m:=1) 5 rfl (Qe rfl (SL.RZ bO) (by decide) fM rfl)) ?_;refine AX.region ?_;refine aO.go (f:=0) aK (aJ rfl) ?_;refine aO.go (f:=0) aK (Jt rfl qf rfl) ?_;refine aO.go (f:=0) aK (pI rfl rfl) ?_;refine aO.nil ?_;rcases aM ((((dW.length:Nat):Int)==1)) with eU|eU
  ·have Kw:=eq_of_beq eU;exact⟨(s==Ed),qH ah 8192 [] [oB eU]⟩
  ·have Kw:=ne_of_beq_false eU;rcases aM (decide (((s.length:Nat):Int)<((Ed.length+F5.length:Nat):Int))) with iW|iW
   ·have Rc:=of_decide_eq_true iW;exact⟨false,qH ah 8192 [] ([oB eU,H8 Ed.length F5.length (by first|omega|(simp;omega))]++rq 5 (oB iW) (rq 6 oT ([])))⟩
   ·have Rc:=of_decide_eq_false iW;have as9:=(aj8 (.str s) (.str Ed) ⟨(.string _ cc),(.string _ cc)⟩).2;rcases aM ((!(aj7 (.str s) (.str Ed)))) with sS|sS
    ·exact⟨false,qH ah 8192 [] ([oB eU,H8 Ed.length F5.length (by first|omega|(simp;omega)),oB iW,oB iW,oB iW,oC (eL Ye (x:=.str s) (y:=.str Ed) ⟨(.string _ cc),(.string _ cc)⟩),oB iW,oB iW]++rq 5 (oB sS) ([oT]))⟩
    ·rcases aM ((!(an9 (.str s) (.str F5)))) with jw|jw
     ·exact⟨false,qH ah 8192 [] [oB eU,H8 Ed.length F5.length (by first|omega|(simp;omega)),oB iW,oB iW,oB iW,oC (eL Ye (x:=.str s) (y:=.str Ed) ⟨(.string _ cc),(.string _ cc)⟩),oB iW,oB iW,oB sS,oB sS,oB sS,oC (eL aoa (x:=.str s) (y:=.str F5) ⟨(.string _ cc),(.string _ cc)⟩),oB sS,oB sS,oB jw]⟩
     ·have hll:((dW.take (dW.length - 1)).drop 1).length<=dW.length:=by simp only[List.length_drop,List.length_take]<;>omega
      refine kl (α:=Nat×List UInt8) ah 8192 [] 121 0 [] [] [0,103,104,105] (λx=>⟨eD 121 [(0,.t (.str x.2)),(103,.t (.sl ((dW.take (dW.length - 1)).drop 1))),(104,.t (.int .i64 ((((dW.take (dW.length - 1)).drop 1).length:Nat):Int))),(105,.t (.int .i64 ((x.1:Nat):Int)))],[],0⟩) (λx=>(x.1<=((dW.take (dW.length - 1)).drop 1).length)/\(x.2.length<=4194304)) (λx=>((dW.take (dW.length - 1)).drop 1).length - x.1) (⟨0,((s.take (s.length - F5.length)).drop Ed.length)⟩) (j6 (Tryz.f20.body.getD .skip) 18) [oB eU,H8 Ed.length F5.length (by first|omega|(simp;omega)),oB iW,oB iW,oB iW,oC (eL Ye (x:=.str s) (y:=.str Ed) ⟨(.string _ cc),(.string _ cc)⟩),oB iW,oB iW,oB sS,oB sS,oB sS,oC (eL aoa (x:=.str s) (y:=.str F5) ⟨(.string _ cc),(.string _ cc)⟩),oB sS,oB sS,oB jw,oV (acI (a:=s.length) (b:=F5.length) (by omega) (by omega)),oR Ed.length (s.length - F5.length) cT,oR (s.length - F5.length) s.length cT,oS (dW.length) (by omega) (by omega),oP (Vn (SL.RZ bO)),oR 1 (dW.length - 1) cT,oR (dW.length - 1) dW.length cT] ⟨Nat.zero_le _,(by first|omega|(simp only[List.length_append,List.length_cons,List.length_nil,List.length_take,List.length_drop,List.length_set]<;>omega))⟩ (λx hok=> ?_);obtain⟨R4,yF⟩:=x;replace hok:(R4<=((dW.take (dW.length - 1)).drop 1).length)/\(yF.length<=4194304):=hok;obtain⟨aoc,aod⟩:=hok;rcases aM (decide (((R4:Nat):Int)<((((dW.take (dW.length - 1)).drop 1).length:Nat):Int))) with Hy|Hy
      ·have aaW:=of_decide_eq_true Hy;obtain⟨e22,aj9⟩:=dr ((dW.take (dW.length - 1)).drop 1) R4;obtain⟨OX,rfl,asP⟩:=((λy hy=>bO y (List.mem_of_mem_take (List.mem_of_mem_drop hy))) e22 (fW aj9));rcases V2 (ixF m (.str yF) (.str OX)) with ⟨OY,Wa⟩|⟨OY,Wa⟩
       ·have asQ:OY+OX.length<=yF.length:=an5 m (.string _ cc) (.string _ cc) Wa;exact⟨.inl ⟨⟨R4+1,((yF.take yF.length).drop (OY+OX.length))⟩,⟨⟨(by show(R4+1)<=((dW.take (dW.length - 1)).drop 1).length;omega),(by first|omega|(simp only[List.length_append,List.length_cons,List.length_nil,List.length_take,List.length_drop,List.length_set]<;>omega))⟩,(by show(((dW.take (dW.length - 1)).drop 1).length - (R4+1))<(((dW.take (dW.length - 1)).drop 1).length - R4);omega)⟩⟩,vS ah 8192 [] 121 0 [] [] [0,103,104,105] [oB Hy,oE aj9,wg 38 [.t (.str yF),.t (.str OX)] (.int .i64 ((OY:Nat):Int)) ((eL ahP (x:=(.str yF)) (y:=(.str OX)) ⟨(.string _ cc),(.string _ cc)⟩).trans (congrArg (λz=>some (bh.ret (.t (.int .i64 z)) [] [])) Wa)),oB (show(decide (((OY:Nat):Int)<0))=false from decide_eq_false (by omega)),H8 OY OX.length (by first|omega|(simp;omega)),oR (OY+OX.length) yF.length cT,oR yF.length yF.length cT,oI (R4) (by omega)]⟩
       ·refine Fi ah 8192 [] [oB Hy,oE aj9,wg 38 [.t (.str yF),.t (.str OX)] (.int .i64 (Int.negSucc OY)) ((eL ahP (x:=(.str yF)) (y:=(.str OX)) ⟨(.string _ cc),(.string _ cc)⟩).trans (congrArg (λz=>some (bh.ret (.t (.int .i64 z)) [] [])) Wa)),oB (decide_eq_true (Int.negSucc_lt_zero OY))] ?_;exact⟨false,qH ah 8192 [] []⟩
      ·have aaW:=of_decide_eq_false Hy;refine Fi ah 8192 [] [oB Hy] ?_;exact⟨true,qH ah 8192 [] []⟩
theorem Yh (m:Int):∃F:Tree->Tree->Bool,∀x y,T .string x/\T .string y->R2 (cf m) 20 x y (.bool (F x y)):=zA Tree.bool λx y h=>by
 obtain⟨s,rfl,hs⟩:=T.bF h.1;obtain⟨p,rfl,hp⟩:=T.bF h.2;exact agv m s p hs hp
theorem acL (m:Int)(q:Sc)(e:Tree)(l:List Tree)(h0:T .aG e)(h1:l.length<=4194304)(h2:∀y∈l,T .av y)(h3:1<=l.length):∃r:{r:Tree ⊕ Int //((∀v,r=.inl v->T .av v))/\∀w,r=.inr w->w≠0},ai (cf m) 60 [.ptr (.arg 0) 0,.t e,.t (.sl l)] [.cells 63 (aV q)] (aN (r.1) [.cells 63 (aV q)]):=by
 have bw:=h0;obtain⟨bX,n_1,s_1,dH,aU,bN,rfl,cL,cF,fQ,dX,fk,eR,jq⟩:=T.bE bw;obtain⟨KW,aka⟩:=Yh m;obtain⟨ev,aK,bC,akb,l6⟩:∃ev,aD (cf m) ev/\Has ev 52 sH/\Has ev 20 (rM (λx y=>T .string x/\T .string y) (λx y=>.bool (KW x y)))/\Has ev 94 (mY (λx=>∃b,x=.bool b) Bh):=⟨_,(aq (jY m) (aq (dA (λx y h=>(aka x y h))) (aq (bT λx h=>by obtain⟨b,rfl⟩:=h;exact qY m b) aF))),au,(az rfl au),(az rfl (az rfl au))⟩;refine AX.start 16 3 Tryz.func60 rfl (by decide) rfl rfl (by decide) ?_;refine AX.frames ?_;obtain⟨e2,jB⟩:=dr l 0;have jd:=(h2 e2 (fW jB));obtain⟨aZ,eS,jx,iu,dn,bq,bH,rfl,r9,sg,uw,ux,uy,uz⟩:=T.aB jd;rcases aM ((aZ==2)) with nS|nS
 ·have Ca:=eq_of_beq nS;refine⟨⟨.inl (aA 0 (KW (.str iu) (.str s_1)) 0 [] [] [] []),⟨((λv hv=>by cases hv;exact(iR _))),λw hw=>(by cases hw)⟩⟩,kf ah [oE jB,oC (show ev 52 [.t (aA aZ eS jx iu dn bq bH),.t (.int .u8 2)] []=some (aN (.inl (aA aZ eS jx iu dn bq bH)) []) from bC _ _ _ (by show some (aN (cond ((aZ==2)) _ _) [])=_;rw[nS];rfl)),oC (eL akb (x:=.str iu) (y:=.str s_1) ⟨(.string _ cc),(.string _ cc)⟩),wg 94 [.t (.bool (KW (.str iu) (.str s_1)))] (aA 0 (KW (.str iu) (.str s_1)) 0 [] [] [] []) (cO l6 (x:=.bool (KW (.str iu) (.str s_1))) ⟨_,rfl⟩)]⟩
 ·have Ca:=ne_of_beq_false nS;refine⟨⟨.inr (7),⟨((λv hv=>by cases hv)),λw hw=>Sum.inr.inj hw▸(show(7:Int)≠0 by decide)⟩⟩,kf ah [oE jB,oC (show ev 52 [.t (aA aZ eS jx iu dn bq bH),.t (.int .u8 2)] []=some (aN (.inr (7)) []) from bC _ _ _ (by show some (aN (cond ((aZ==2)) _ _) [])=_;rw[nS];rfl))]⟩
end
end Go.Proofs.YtfdnciimclnncaaGreatDoor.w.e
