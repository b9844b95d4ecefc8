/- slices.Sorted(slices.Values(l)) at texts: the list in order; what lay before stays. -/
import Derived.RangeFuncBox
import Derived.RangeFuncLeaves
import Derived.Shelf.Abstract
import Derived.WalkKit
import Derived.OwnWalkIn
import Derived.TacticsInMore
import Derived.LoopNIn
import Derived.LoopIn
import Derived.Lib.RowBridge
import Derived.Shelf.SlIter.Sorted
import Derived.Shelf.SortM.Plain
import Derived.Shelf.SortM.SortNone
import Derived.Test.YtnfnihgmankidaaGreatDoorSeq
import Derived.Test.YtnfnihgmankidaaGreatDoorShelf
import Derived.Test.YtnfnihgmankidaaGreatDoorN
import Derived.Test.YtnfnihgmankidaaGreatDoorAB
import Derived.Test.YtnfnihgmankidaaGreatDoorX
import Derived.Test.YtnfnihgmankidaaGreatDoorAC
import Derived.Lib.AppendIntMem
set_option linter.unusedVariables false
set_option linter.unusedSimpArgs false
namespace Go.Proofs.YtnfnihgmankidaaGreatDoor.w
open Go Go.Abs Go.RowKit Go.Maps Go.Sort Go.Shelf
attribute [local go_sem] Oper.semAt_some
def upto {α:Type}(f:Nat->α)(k:Nat):List α:=(List.range k).map f
theorem RI {α:Type}(f:Nat->α)(k:Nat):upto f (k+1)=upto f k++[f k]:=by simp[upto,List.range_succ]
theorem Mb {α:Type}(f:Nat->α)(k:Nat):(upto f k).length=k:=by simp[upto]
theorem Wm (zs:List (List UInt8)):upto (λj=>zs[j]?.getD []) zs.length=zs:=by
 apply List.ext_getElem
 ·simp[upto]
 ·intro i h1 h2;simp[upto,h2]
set_option maxRecDepth 100000 in
set_option maxHeartbeats 2000000 in
theorem Zt (n:Nat)(l Bs n₀ b off len cap:Nat)(zs:List (List UInt8))(aim:len<=4194304)(hb:b<n₀)(J:List (List UInt8)->World->Prop)
 (hY:∀pre x W,J pre W->pre.length<len->YieldAt Fence.wide (n - 1) Tryz.prog l #[encStr x] W λe W'=>e=.returned (.bool true)/\J (pre++[x]) W'/\Below n₀ W W')
 (W:World)(hBs:W.cell? ⟨Bs,0,none⟩=some (.slice (some ⟨b,off,none⟩) len cap))(hc:∀j,j<len->W.cell? ⟨b,off+j,none⟩=some (encStr (zs[j]?.getD [])))(h0:J [] W):
 CallsIn Fence.wide n Tryz.prog 289 #[.func (.yield l) #[] #[],.pointer (some ⟨Bs,0,none⟩)] W λe W'=>(∃v,e=.returned v)/\J (upto (λj=>zs[j]?.getD []) len) W':=by
 refine callsIn_of_wp Tryz.func289 rfl trivial ?_ rfl
 simp only[Tryz.ntmps289,List.size_toArray,List.length_cons,List.length_nil,Nat.reduceAdd,Nat.reduceSub,Array.replicate_succ,Array.replicate_zero,List.push_toArray,List.append_toArray,List.nil_append,List.cons_append]
 gi_wp2
 gi_loopw [7] (λi wr=>∃k:Nat,k<=len/\i=.int .i64 k/\J (upto (λj=>zs[j]?.getD []) k) wr/\Below n₀ W wr)
  (λi _=>len - (intOf i).toNat)
 case atStart=>exact⟨0,Nat.zero_le _,rfl,h0,Below.refl _ _⟩
 case round=>
  obtain⟨k,hk,rfl,hJs,JE⟩:=hrel
  have hcx:k<len->wr.cell? ⟨b,off+k,none⟩=some (encStr (zs[k]?.getD [])):=λh=>(JE.cell (p:=⟨b,off+k,none⟩) hb).trans (hc k h)
  by_cases hlt:k<len
  ·obtain⟨fn,tmps,assign,body,hy,hR⟩:=hY _ (zs[k]?.getD []) wr hJs (by rw[Mb];exact hlt);have ajJ:=hcx hlt;gi_wp2;refine⟨λh=>by simp[Fence.wide] at h,hR.mono ?_⟩;rintro e W3 ⟨rfl,hJ3,hk3⟩;gi_wp2;go_roundw;case rel=>exact⟨k+1,by omega,by simp,by rw[RI];exact hJ3,JE.trans hk3⟩
   case measure=>simp[intOf];omega
  ·obtain rfl:k=len:=by omega
   gi_wp2;go_end0;exact⟨⟨_,rfl⟩,hJs⟩
set_option maxRecDepth 100000 in
set_option maxHeartbeats 1000000 in
theorem Jy (n:Nat)(l Bs:Nat)(p:Option Addr)(cap:Nat)(J:List (List UInt8)->World->Prop)(W:World)(hBs:W.cell? ⟨Bs,0,none⟩=some (.slice p 0 cap))(h0:J [] W):
 CallsIn Fence.wide n Tryz.prog 289 #[.func (.yield l) #[] #[],.pointer (some ⟨Bs,0,none⟩)] W λe W'=>(∃v,e=.returned v)/\J [] W':=by
 refine callsIn_of_wp Tryz.func289 rfl trivial ?_ rfl
 simp only[Tryz.ntmps289,List.size_toArray,List.length_cons,List.length_nil,Nat.reduceAdd,Nat.reduceSub,Array.replicate_succ,Array.replicate_zero,List.push_toArray,List.append_toArray,List.nil_append,List.cons_append]
 gi_wp2
 gi_loopw [7] (λi wr=>i=.int .i64 0/\J [] wr) (λ_ _=>0)
 case atStart=>exact⟨rfl,h0⟩
 case round=>
  obtain⟨rfl,hJs⟩:=hrel
  gi_wp2
  go_end0
  exact⟨⟨_,rfl⟩,hJs⟩
def PY (n₀:Nat)(n:Nat)(g:FuncId)(lb:Array Value)(zs:List (List UInt8))(w:World):Prop:=
 ∀(l:Nat) (J:List (List UInt8)->World->Prop) (W:World),Below w.heap.size w W->
  (∀pre x W1,J pre W1->pre.length<zs.length->YieldAt Fence.wide (n - 1) Tryz.prog l #[encStr x] W1 λe W'=>e=.returned (.bool true)/\J (pre++[x]) W'/\Below n₀ W1 W')->
  J [] W->CallsIn Fence.wide n Tryz.prog g (#[.func (.yield l) #[] #[]]++lb) W λe W'=>(∃v,e=.returned v)/\J zs W'
theorem Og (n:Nat)(Bs:Nat)(sv:Value)(zs:List (List UInt8))(hz:zs.length<=4194304)(w:World)(hBs:Bs<w.heap.size)(hc:w.cell? ⟨Bs,0,none⟩=some sv)
 (hI:(∃p cap,sv=.slice p 0 cap/\zs=[])\/∃b off cap,sv=.slice (some ⟨b,off,none⟩) zs.length cap/\b<w.heap.size/\∀j,j<zs.length->w.cell? ⟨b,off+j,none⟩=some (encStr (zs[j]?.getD []))):
 PY w.heap.size n 289 #[.pointer (some ⟨Bs,0,none⟩)] zs w:=λl J W hW hY h0=>by
 have hc':=(hW.cell (p:=⟨Bs,0,none⟩) hBs).trans hc
 rcases hI with ⟨p,cap,rfl,rfl⟩|⟨b,off,cap,rfl,hb,hcs⟩
 ·exact Jy n l Bs p cap J W hc' h0
 ·have:=Zt n l Bs w.heap.size b off zs.length cap zs hz hb J hY W hc' (λj hj=>(hW.cell (p:=⟨b,off+j,none⟩) hb).trans (hcs j hj)) h0;rw[Wm] at this;exact this
theorem Wn {B:Nat}{w a c:World}(h:Below B w a)(k:Below B w c)(hs:a.heap.size<=c.heap.size):Below B a c:=
 ⟨k.os.trans h.os.symm,k.tape.trans h.tape.symm,k.output.trans h.output.symm,hs,λi hi=>(k.block i hi).trans (h.block i hi).symm⟩
abbrev sr:Ren:=Tryz.sorted257_ren
set_option maxRecDepth 100000 in
set_option maxHeartbeats 2000000 in
theorem Jz (n:Nat)(hn:2<=n)(g:Nat)(lb:Array Value)(eg:∀args w,(callFunc g args).run Tryz.prog w=.ok (.enter g args) w)(zs:List (List UInt8))(hz:zs.length<=4194304)(w:World)(hseq:PY w.heap.size (n - 1) g lb zs w):
 CallsIn Fence.wide n Tryz.prog (sr.f 11) #[.slice none 0 0,.func (.func g) #[] lb] w λe w'=>∃v,e=.returned v/\w'.ownsRow w.heap.size (sr.t 26) 1 v zs.length (zs.map encStr)/\(v=.slice none 0 0↔zs=[])/\Below w.heap.size w w':=by
 have L:SlLaysZ.n11 Tryz.prog sr:={Tryz.sorted257 with}
 have mixed:=L.mixed;have t0:=L.t0;have a0:=L.a0;have z0:=L.z0;have v0:=L.v0;have t24:=L.t24;have a24:=L.a24;have z24:=L.z24;have v24:=L.v24;have t26:=L.t26;have a26:=L.a26;have z26:=L.z26;have v26:=L.v26;have t28:=L.t28;have a28:=L.a28;have z28:=L.z28;have v28:=L.v28
 have hne:sr.t 24≠sr.t 26:=λe=>by have h:=L.t24;rw[e,L.t26] at h;cases h
 have u0:=run_underlying L.t0;have u24:=run_underlying L.t24;have u26:=run_underlying L.t26;have u28:=run_underlying L.t28
 obtain⟨_,_,FG⟩:=L.f11
 refine callsIn_of_wp_marks FG rfl trivial ?_ rfl
 simp only[SlBodyZ.n11_ntmps sr,List.size_toArray,List.length_cons,List.length_nil,Nat.reduceAdd,Nat.reduceSub,Array.replicate_succ,Array.replicate_zero,List.push_toArray,List.append_toArray,List.nil_append,List.cons_append]
 gi_wp2
 refine wpIn_rangeFunc λfn _=> ?_
 obtain⟨A,hA⟩:∃A,A=w.alloc (.cells #[.slice none 0 0] (sr.t 24)):=⟨_,rfl⟩
 obtain⟨rec,QB⟩:∃rec,rec=AnyZ.apRec sr fn (.func (.func g) #[] lb) w.heap.size A.heap.size .ready none:=⟨_,rfl⟩
 obtain⟨Z,hZ⟩:∃Z,Z=(A.alloc (.deferred (some []))).alloc (.loop rec):=⟨_,rfl⟩
 have sA:A.heap.size=w.heap.size+1:=by rw[hA];simp
 have cA:A.heap[w.heap.size]?=some (.cells #[.slice none 0 0] (sr.t 24) (0,0)):=by rw[hA];exact World.alloc_heap_new w _
 have bA:Below w.heap.size w A:=by rw[hA];exact(Below.refl _ w).alloc (Nat.le_refl _) _
 have ain:∀k,k<A.heap.size->Z.heap[k]?=A.heap[k]?:=λk hk=>by
  rw[hZ];exact(Below.heap_alloc _ _ k (by simp;omega)).trans (Below.heap_alloc _ _ k hk)
 have bZ:Below w.heap.size w Z:=by
  rw[hZ];exact(bA.alloc bA.size _).alloc (by have:=bA.size;simp;omega) _
 have lZ:Z.heap[A.heap.size+1]?=some (.loop rec):=by
  rw[hZ];have:=World.alloc_heap_new (A.alloc (.deferred (some []))) (.loop rec);rwa [World.size_alloc] at this
 have dZ:Z.heap[A.heap.size]?=some (.deferred (some [])):=by
  rw[hZ];exact(Below.heap_alloc _ _ _ (by simp)).trans (World.alloc_heap_new A _)
 have start:AnyZ.ApAt sr w fn (.func (.func g) #[] lb) w.heap.size (A.heap.size+1) A.heap.size [] Z:=
  ⟨⟨_,(ain w.heap.size (by omega)).trans cA,⟨rfl,.inl ⟨rfl,rfl⟩⟩,by simp⟩,by rw[lZ,QB],dZ,bZ⟩
 refine⟨A.heap.size+1,[{target:=.collected A.heap.size,args:= #[]}],Z,{target:=.fn (.func g) lb,args:= #[.func (.yield (A.heap.size+1)) #[] #[]]},Z,g,
  #[.func (.yield (A.heap.size+1)) #[] #[]]++lb,Z, ?_, ?_,λ_ _=>trivial, ?_,λ_=>by omega, ?_⟩
 ·rw[hZ,QB,hA];exact run_enterLoop_outer _ _ _ _ _
 ·simp[resolve,go_sem]
 ·simp[invoke,go_sem,eg]
 ·refine(hseq (A.heap.size+1) (AnyZ.ApAt sr w fn (.func (.func g) #[] lb) w.heap.size (A.heap.size+1) A.heap.size) Z bZ (λpre x W hJ hlt=> ?_) start).mono ?_
  ·have hy:=AnyZ.apYield L Fence.wide (n - 1 - 1) w fn trivial (.func (.func g) #[] lb) w.heap.size (A.heap.size+1) A.heap.size (by omega) (by omega) (by omega) (Nat.le_refl _) (by omega) zs.length (Nat.le_trans hz (by decide)) (by omega) pre x W hJ hlt;exact hy.mono λe W' h=>⟨h.1,h.2.1,Wn hJ.below h.2.1.below h.2.2.size⟩
  ·rintro e W2 ⟨⟨r0,rfl⟩,h2⟩;obtain⟨v,hv,hrow,hnil⟩:=h2.box;have hend:=run_endLoop (P:=Tryz.prog) h2.L (by simp[AnyZ.apRec]);obtain⟨V,hV⟩:∃V,V=W2.putObj (A.heap.size+1) (.loop {AnyZ.apRec sr fn (.func (.func g) #[] lb) w.heap.size A.heap.size .ready none with state:=.exhausted}):=⟨_,rfl⟩;rw[← hV] at hend;have gV:W2.grownBy V (some (A.heap.size+1)):=by rw[hV];exact grownBy_putObj_a _ _ _
   have cV:V.heap[w.heap.size]?=some (.cells #[v] (sr.t 24) (0,0)):=by rw[hV];exact(World.putObj_heap_other (by omega)).trans hv
   have dV:V.heap[A.heap.size]?=some (.deferred (some [])):=by rw[hV];exact(World.putObj_heap_other (by omega)).trans h2.K
   have rV:=hrow.kept gV (ownsRow_ne_a hrow h2.L (λcur e=>by first|cases e|exact hne (Obj.cells.inj e).2.1));have bV:Below w.heap.size w V:=h2.below.grown gV h2.below.size (λk e=>by cases e;omega);obtain⟨iF,hf3⟩:=cell_of_box_a cV;clear hV;refine⟨none,V,hend, ?_⟩;gi_wp2;rw[← sA];refine⟨by simp,.inl ⟨_,_,rfl,run_takeDeferred dV, ?_⟩⟩;exact⟨_,results_tmp rfl _ _ _,v,rfl,rV.kept (grownBy_putObj_a _ _ _) (ownsRow_ne_a rV dV (λcur e=>by first|cases e|exact hne (Obj.cells.inj e).2.1)),hnil,bV.grown (grownBy_putObj_a _ _ _) bV.size (λk e=>by cases e;omega)⟩
set_option maxHeartbeats 1000000 in
theorem F0 (n:Nat)(hn:3<=n)(g:Nat)(lb:Array Value)(eg:∀args w,(callFunc g args).run Tryz.prog w=.ok (.enter g args) w)(zs:List (List UInt8))(hz:zs.length<=4194304)(w:World)(hseq:PY w.heap.size (n - 1 - 1) g lb zs w):
 CallsIn Fence.wide n Tryz.prog 288 #[.func (.func g) #[] lb] w λe w'=>∃v,e=.returned v/\w'.ownsRow w.heap.size (sr.t 26) 1 v zs.length (zs.map encStr)/\(v=.slice none 0 0↔zs=[])/\Below w.heap.size w w':=by
 have e11:∀args w,(callFunc 297 args).run Tryz.prog w=.ok (.enter 297 args) w:=enters_of Tryz.func297 (by kernel_rfl) rfl
 refine callsIn_of_wp Tryz.func288 rfl trivial ?_ rfl
 simp only[Tryz.ntmps288,List.size_toArray,List.length_cons,List.length_nil,Nat.reduceAdd,Nat.reduceSub,Array.replicate_succ,Array.replicate_zero,List.push_toArray,List.append_toArray,List.nil_append,List.cons_append]
 gi_wp2_with (refine⟨trivial,λh=>by simp[Fence.wide] at h, ?_⟩;refine(Jz (n - 1) (by omega) g lb eg zs hz _ hseq).mono ?_;rintro e w' ⟨v,rfl,hrow,hnil,hb⟩)
 go_ret
 exact⟨v,rfl,hrow,hnil,hb⟩
set_option maxRecDepth 100000 in
set_option maxHeartbeats 2000000 in
theorem JA (n:Nat)(hn:4<=n)(g:Nat)(lb:Array Value)(eg:∀args w,(callFunc g args).run Tryz.prog w=.ok (.enter g args) w)(zs:List (List UInt8))(hz:zs.length<=4194304)(w:World)(hseq:PY w.heap.size (n - 1 - 1 - 1) g lb zs w):
 CallsIn Fence.wide n Tryz.prog 257 #[.func (.func g) #[] lb] w λe w'=>∃v,e=.returned v/\w'.ownsRow w.heap.size (sr.t 26) 1 v zs.length ((zs.mergeSort (λx y=>decide (x<=y))).map encStr)/\(v=.slice none 0 0↔zs=[])/\Below w.heap.size w w':=by
 have e8:∀args w,(callFunc 288 args).run Tryz.prog w=.ok (.enter 288 args) w:=enters_of Tryz.func288 (by kernel_rfl) rfl
 have e9:∀args w,(callFunc 198 args).run Tryz.prog w=.ok (.enter 198 args) w:=enters_of Tryz.func198 (by kernel_rfl) rfl
 refine callsIn_of_wp Tryz.func257 rfl trivial ?_ rfl
 simp only[Tryz.ntmps257,List.size_toArray,List.length_cons,List.length_nil,Nat.reduceAdd,Nat.reduceSub,Array.replicate_succ,Array.replicate_zero,List.push_toArray,List.append_toArray,List.nil_append,List.cons_append]
 gi_wp2_with (refine⟨trivial,λh=>by simp[Fence.wide] at h, ?_⟩;refine(F0 (n - 1) (by omega) g lb eg zs hz _ hseq).mono ?_;rintro e W ⟨v,rfl,hrow,hnil,hb⟩)
 rcases hrow.2 with ⟨rfl,hzero⟩|⟨gb,cap,cur,rfl,hbase,hgb,r1,r2,r3,r4⟩
 ·have hzs:zs=[]:=List.eq_nil_of_length_eq_zero hzero;subst hzs;gi_wp2_with (refine⟨trivial,λh=>by simp[Fence.wide] at h, ?_⟩;refine(callsIn_wide.2 (AnyM.slices_Sort_string_none Tryz.sort198 none 0 W)).mono ?_;rintro e w' ⟨rfl,rfl⟩);go_ret;exact⟨.slice none 0 0,rfl,by simpa using hrow,by simp,hb⟩
 ·have hH:Holds encStr W gb 0 zs.toArray:=holds_of_block hgb (by simpa using r4);have hgl:gb<W.heap.size:=(Array.getElem?_eq_some_iff.1 hgb).1;have cS:CallsIn Fence.wide (n - 1) Tryz.prog 198 #[.slice (some ⟨gb,0,none⟩) zs.length cap] W _:=callsIn_wide.2 (AnyM.slices_Sort_string Tryz.sort198 gb 0 cap zs W hH hgl (by omega));gi_wp2_with (refine⟨trivial,λh=>by simp[Fence.wide] at h, ?_⟩;refine cS.mono ?_;rintro e w' ⟨rfl,nn,os,rfl⟩);go_ret;exact⟨_,rfl,ownsRow_sorted (by simp) hbase hgb r1 r2 r3,hnil,hb.grown (grownBy_sorted _) hb.size (λj hj=>by cases hj;exact hbase)⟩
theorem BD:∀(l:List (List UInt8)),flat (l.map .str)=l.map .str
 | []=>rfl
 |a::r=>by
  have:=BD r
  simp only[flat] at this
  simp[flat,Tree.cells,this]
def AL (zs:List (List UInt8)):List (List UInt8):=zs.mergeSort (λx y=>decide (x<=y))
theorem G8 {G:Gh}{w w':World}(hw:WF G w)(hb:Below w.heap.size w w'):Step (λ_=>False) (λ_=>False) G w G w':=by
 refine⟨.refl G,⟨λb o v hf=> ?_,hw.inj,λk d=>Nat.lt_of_lt_of_le (hw.lt k d) hb.size⟩,λ_ _ _=>⟨rfl,rfl⟩,λb hlt _=>⟨hb.block b hlt,λ_=>rfl⟩,λ_ d=>.inl d,λk d=>.inl ⟨k,d,rfl,.inl rfl⟩,hb.size,hb.os,hb.tape,hb.output⟩;obtain⟨us,ty,fr,h1,h2⟩:=hw.F b o v hf;exact⟨us,ty,fr,by rw[hb.block b (Array.getElem?_eq_some_iff.1 h1).1];exact h1,h2⟩
def Gh.newRow (G:Gh)(k0:Nm)(gb n cap:Nat):Gh:={F:=G.F,mu:=λk=>if k=k0 then gb else G.mu k,arr:=λk=>if k=k0 then some (n,1,cap) else G.arr k,dom:=λk=>k=k0\/G.dom k}
theorem Mc {G:Gh}{w w':World}(hw:WF G w)(hb:Below w.heap.size w w'){k0:Nm}(hk:k0.dS=true)(hno:¬G.dom k0){gb n cap:Nat}(hg:w.heap.size<=gb)(hlt:gb<w'.heap.size):
 Step (λ_=>False) (λk=>k.dS=true) G w (Gh.newRow G k0 gb n cap) w':=by
 have hne:∀k,G.dom k->¬k=k0:=λk hd e=>hno (e▸hd)
 refine⟨⟨λb o v h=>h,λk h=>.inr h,λk hd h=> ?_,λk n e c hd h=> ?_⟩,⟨λb o v hf=> ?_,λk k' d d' ea ea' e=> ?_,λk d=> ?_⟩,λk hd _=> ?_,λb hlt _=>⟨hb.block b hlt,λo=>rfl⟩,λk d=> ?_,λk d=> ?_,hb.size,hb.os,hb.tape,hb.output⟩
 ·simp only[Gh.newRow,if_neg (hne k hd)];exact⟨h,trivial⟩
 ·simp only[Gh.newRow,if_neg (hne k hd)];exact⟨n,e,c,h,Nat.le_refl _,λ_=>⟨rfl,rfl,by first|trivial|rfl⟩,.inl rfl⟩
 ·obtain⟨us,ty,fr,h1,h2⟩:=hw.F b o v hf;exact⟨us,ty,fr,by rw[hb.block b (Array.getElem?_eq_some_iff.1 h1).1];exact h1,h2⟩
 ·simp only[Gh.newRow] at d d' e;rcases d with rfl|d<;>rcases d' with rfl|d'
  ·rfl
  ·rw[if_pos rfl,if_neg (hne k' d')] at e;have:=hw.lt k' d';omega
  ·rw[if_pos rfl,if_neg (hne k d)] at e;have:=hw.lt k d;omega
  ·rw[if_neg (hne k d),if_neg (hne k' d')] at e;exact hw.inj k k' d d' (λn c x=>ea n c (by simp only[Gh.newRow,if_neg (hne k d)];exact x)) (λn c x=>ea' n c (by simp only[Gh.newRow,if_neg (hne k' d')];exact x)) e
 ·rcases d with rfl|d
  ·simp only[Gh.newRow,if_true];exact hlt
  ·simp only[Gh.newRow,if_neg (hne k d)];exact Nat.lt_of_lt_of_le (hw.lt k d) hb.size
 ·simp only[Gh.newRow,if_neg (hne k hd),and_self]
 ·rcases d with rfl|d
  ·exact .inr hk
  ·exact .inl d
 ·rcases d with rfl|d
  ·refine .inr ?_;simp only[Gh.newRow,if_true];exact hg
  ·refine .inl ⟨k,d, ?_,.inl rfl⟩;simp only[Gh.newRow,if_neg (hne k d)]
theorem G9 (m:Int)(zs:List (List UInt8))(hz:zs.length<=4194304):
 aq (cf m) 257 [.fn (.func 289) [] [.ptr (.arg 0) 0]] [.cells 27 [.t (.sl (zs.map .str))]]
  (if zs=[] then .ret (.t (.sl [])) [.cells 27 [.t (.sl (zs.map .str))]] [] else .ret (.ref (.loc [0]) 0 zs.length) [.cells 27 [.t (.sl (zs.map .str))]] [(.loc [0],.arr (9,false) 1 false (((AL zs).map .str).map .t))]):=by
 intro G w vs hw hg had hH hv
 obtain⟨x,rfl,hx⟩:=hv.only
 obtain⟨q,rfl,hp⟩:∃q,x=.func (.func 289) #[] #[q]/\VR G (.ptr (.arg 0) 0) q:=by
  cases hx with
  | fn f fs cs vs ws hl h hl' h'=>
    match vs,ws,hl,hl' with
    | [],[q],_,_=>exact⟨q,rfl,h' 0 _ _ rfl rfl⟩
 obtain⟨hd,ho⟩:=hH (.arg 0) _ rfl
 obtain⟨ha,us,ty,fr,hh,_,ko,_⟩:=ho
 obtain rfl:q=.pointer (some ⟨G.mu (.arg 0),0,none⟩):=by cases hp;rfl
 obtain⟨sv,us',e,hsv,hr⟩:=ko.fQ
 have hcell:w.cell? ⟨G.mu (.arg 0),0,none⟩=some sv:=by
  unfold World.cell?;simp only[hh];have:us[0]?=some sv:=by rw[← Array.getElem?_toList,e];rfl
  simpa using this
 have hI :(∃p cap,sv=.slice p 0 cap/\zs=[])\/∃b off cap,sv=.slice (some ⟨b,off,none⟩) zs.length cap/\b<w.heap.size/\∀j,j<zs.length->w.cell? ⟨b,off+j,none⟩=some (encStr (zs[j]?.getD [])):=by
  cases hsv with|t _ _ hsv=>
  generalize hz':zs.map Tree.str=l at hsv;cases hsv with
  |AO a cap=>exact .inl ⟨a,cap,rfl,by simpa using hz'⟩
  | sl bD es b o cap vals hne hc hu hF OI=>
    subst hz'
    refine .inr ⟨b,o,cap,by simp, ?_,λj hj=> ?_⟩
    · cases zs with
      |nil=>simp at hne
      | cons z zs=>
        have h0:=hF 0 (.str z) (by rw[BD];rfl)
        obtain⟨_,_,_,h1,_⟩:=hw.F _ _ _ h0
        exact(Array.getElem?_eq_some_iff.1 h1).1
    · have hj':(flat (zs.map Tree.str))[j]?=some (.str zs[j]):=by rw[BD];simp[hj]
      have h1:=hF j _ hj'
      have h2:=OI j _ hj'
      obtain⟨c0,t0,f0,h3,h4⟩:=hw.F _ _ _ h1
      generalize vals j=vj at h2 h4
      cases h2
      unfold World.cell?
      simp only[h3]
      simpa [hj,encStr] using h4
 have afQ:=Og 3 (G.mu (.arg 0)) sv zs hz w (hw.lt _ hd) hcell hI
 have aio:∀args w,(callFunc 289 args).run Tryz.prog w=.ok (.enter 289 args) w:=enters_of Tryz.func289 (by kernel_rfl) rfl
 have aip:∀args w,(callFunc 257 args).run Tryz.prog w=.ok (.enter 257 args) w:=enters_of Tryz.func257 (by kernel_rfl) rfl
 refine .inl ⟨aip _ _,Calls.mono (callsIn_wide.1 (JA 6 (by omega) _ _ aio zs hz w afQ)) ?_⟩
 rintro e w' ⟨v,rfl,hrow,hnil,hb⟩
 by_cases hz0:zs=[]
 ·rw[if_pos hz0];obtain rfl:=hnil.2 hz0;have hst:=G8 hw hb;refine⟨_,G,rfl,hst.mono (λ_ _ h=>h.elim) (λ_ h=>h.elim),rfl,λi o ho=> ?_,λ_ _ h=>by simp at h,.t _ _ (.AO none 0)⟩;obtain⟨d,J6⟩:=gG hH i o ho;exact⟨d,hst.keeps hw d (λh=>h) J6⟩
 ·rw[ if_neg hz0];rcases hrow.2 with ⟨_,hzero⟩|⟨gb,cap,cur,rfl,hbase,hgb,r1,r2,r3,r4⟩
  ·exact absurd (List.eq_nil_of_length_eq_zero hzero) hz0
  ·have hst:=Mc (n:=zs.length) (cap:=cap) hw hb (k0:=.loc [0]) rfl (had.2 [0]) hbase (Array.getElem?_eq_some_iff.1 hgb).1;have aiq:∀o,G.F gb o=none:=λo=>by
    cases hf:G.F gb o with
    |none=>rfl
    | some v=>
      obtain⟨us,t',f',h1,_⟩:=hw.F _ _ _ hf
      have:=(Array.getElem?_eq_some_iff.1 h1).1
      omega
   have hlen:(AL zs).length=zs.length:=by simp[AL]
   refine⟨_,Gh.newRow G (.loc [0]) gb zs.length cap,rfl,hst.mono (λ_ _ h=>h.elim) (λ_ h=>h),rfl,λi o ho=> ?_,λk o h=> ?_, ?_⟩
   ·obtain⟨d,J6⟩:=gG hH i o ho;exact⟨.inr d,hst.keeps hw d (λh=>h) J6⟩
   ·simp only[List.mem_singleton,Prod.mk.injEq] at h;obtain⟨rfl,rfl⟩:=h;refine⟨rfl,.inl rfl,by decide,cap,cur,_,(0,0), ?_, ?_,⟨λo _ h=>by simp at h,rfl,λ_=>rfl⟩,r3, ?_, ?_,λo _=> ?_⟩
    ·simp[Gh.newRow,hlen]
    ·simp only[Gh.newRow,if_true];exact hgb
    ·simp[hlen];omega
    ·have e4:cur.toList.take zs.length=(AL zs).map encStr:=by simpa [AL] using r4
     have:cur.toList.take (((AL zs).map Tree.str).map TV.t).length=(AL zs).map encStr:=by simpa [hlen] using e4
     rw[this];refine⟨by simp,λj c u hc hu=> ?_⟩;simp only[List.getElem?_map,Option.map_eq_some_iff] at hc hu;obtain⟨_,⟨s,hs,rfl⟩,rfl⟩:=hc;obtain⟨s',hs',rfl⟩:=hu;rw[hs] at hs';cases hs';exact .t _ _ (.str s)
    ·simp only[Gh.newRow,if_true];exact aiq o
   ·refine .ref _ 0 zs.length zs.length 1 cap _ (.inl rfl) (by simp[Gh.newRow]) (by omega) ⟨_,_,rfl⟩ λ_=>⟨_,rfl,λ_=>by simp[Gh.newRow]⟩
end Go.Proofs.YtnfnihgmankidaaGreatDoor.w
namespace Go.Proofs.YtnfnihgmankidaaGreatDoor.w.e
open Go Go.Abs Go.RowKit
set_option maxRecDepth 100000
set_option maxHeartbeats 2000000
noncomputable section
theorem Zu (m:Int):BR (live.cfg m) (live.ext m):=sV (by
 intro g s h;unfold live.ext at h;split at h<;>first
  |(obtain rfl:=Option.some.inj h;first|exact live.TL m|exact live.adX m|exact live.KG m|exact live.zP m|exact live.aae m|exact live.K5 m)
  |cases h)
def afR (f:FuncId)(d:Nat):Bool:=Nat.beq f 101&&Nat.beq d 74||(Nat.beq f 10&&(Nat.beq d 23||Nat.beq d 28||Nat.beq d 42)||(Nat.beq f 29&&Nat.beq d 5||(Nat.beq f 30&&Nat.beq d 8||Nat.beq f 7)))
def vw (m:Int):cE:={P:=live.prg,iT:=(live.cfg m).iT,jN:=afR}
theorem kI (m:Int):(vw m).P.prog.follows .mixedOrders=true:=live.ai m
theorem gu.toL {m:Int}{g:FuncId}{s:iy}(h:gu (live.cfg m) g s):gu (vw m) g s:=λev aC args aU r h1 G w vs hw hg ha hh hv=>h ev aC args aU r h1 G w vs hw hg ha hh hv
theorem sD {m:Int}{g:FuncId}{args:List TV}{aU:List aO}{r:bk}(h:aq (cf m) g args aU r):aq (vw m) g args aU r:=λG w vs hw hg ha hh hv=>h G w vs hw hg ha hh hv
theorem Zv {m:Int}{g:FuncId}{args:List TV}{aU:List aO}{r:bk}(h:aq (vw m) g args aU r):aq (cf m) g args aU r:=λG w vs hw hg ha hh hv=>h G w vs hw hg ha hh hv
theorem Md (m:Int):BR (vw m) (live.ext m):=sV λg s e=>gu.toL (Zu m g s e)
def tok (k:Int)(s:List UInt8)(n a:Int):Tree:=.agg [.int .u8 k,.str s,.int .i64 n,.int .i64 a]
def Wo:Tree:=.sl [tok 4 [45] 0 23,tok 2 [] 3 24,tok 4 [125] 0 25,tok 4 [59] 0 26]
def Wp:Tree:=.sl [tok 4 [125] 0 25,tok 4 [59] 0 26]
def exN:Tree:=.agg [.int .u8 13,.int .i64 0,.str [],.str [],.sl [],.sl [.agg [.int .u8 2,.int .i64 3,.str [],.str [],.sl [],.sl []]]]
abbrev evW (m:Int):aW:=vp (vw m) (live.ext m) 300
theorem Fl (m:Int):aI (vw m) (evW m):=by
 unfold evW;rw[wq];exact vZ (kI m) (Md m) 300
theorem Zw (m:Int):aq (vw m) 287 [.ptr (.arg 0) 0] [.cells 80 [.t Wo]] (.ret (.t exN) [.cells 80 [.t Wp]] []):=by
 refine adM (fn:=Tryz.f287) rfl rfl (by decide) ?_;refine AW.seq (AW.Wd (f:=287) (fuel:=300) (kI m) (Fl m) (by kernel_rfl) ?_);refine AW.seq (AW.seq (AW.Wd (f:=287) (fuel:=300) (kI m) (Fl m) (by kernel_rfl) ?_));refine AW.seq (AW.Wd (f:=287) (fuel:=300) (kI m) (Fl m) (by kernel_rfl) ?_);refine AW.cond (b:=true) (by kernel_rfl) (λ_=> ?_) (λh=>by cases h);refine AW.seq (AW.Zn (f:=287) (p:=1) (kI m) (Fl m) (Zo (by kernel_rfl)) (PX (by kernel_rfl)) (PX (by kernel_rfl)) (Zp (by kernel_rfl) (by kernel_rfl)) ?_ ?_)
 ·refine AW.ret ?_;show finish _ _ _ _=_;kernel_rfl
 ·refine AW.ret ?_;show finish _ _ _ _=_;kernel_rfl
end
end Go.Proofs.YtnfnihgmankidaaGreatDoor.w.e
namespace Go.Proofs.YtnfnihgmankidaaGreatDoor.w.e
open Go Go.Abs Go.RowKit Go.Lib
set_option maxRecDepth 100000
set_option maxHeartbeats 2000000
noncomputable section
theorem afS (m:Int):aq (cf m) 107 [.t (.int .i64 (-3)),.t (.int .i64 10)] [] (.ret (.t (.str [45,51])) [] []):=by
 intro G w vs hw hg had hH hv;obtain⟨x,y,rfl,hx,hy⟩:=hv.two;rw[hx.jP,hy.jP];obtain⟨vals,h1,h2⟩:=hg 4 [.int .u64 1] rfl;have e1:=h1 0 _ rfl;have e2:=h2 0 _ rfl;obtain⟨us,ty,fr,hh,hu⟩:=hw.F _ _ _ e1;have hcell:w.cell? ⟨4,0,none⟩=some (.int .u64 1):=by
  rw[cell_of hh,show(0:Nat)=0+0 from rfl,hu];generalize vals 0=v0 at e2;cases e2;rfl
 have Io:∀args w,(callFunc 107 args).run Tryz.prog w=.ok (.enter 107 args) w:=enters_of Tryz.func107 (by kernel_rfl) rfl;refine .inl ⟨Io _ _,(Tryz.Zl w hcell).mono ?_⟩;rintro e w' ⟨rfl,k,os,rfl⟩;have hst:=G8 hw (below_grow _ w (Nat.le_refl _) k os);refine⟨_,G,rfl,hst.mono (λ_ _ h=>h.elim) (λ_ h=>h.elim),rfl,λi o ho=> ?_,λ_ _ h=>by simp at h,.t _ _ (.str _)⟩;simp at ho
def uA:Tree:=.agg [.str [84],.str [97]]
def uB:Tree:=.agg [.str [84],.str [98]]
def uC:Tree:=.agg [.str [84],.str [99]]
def tA:Tree:=.agg [.str [84],.str [97],.sl [.agg [.str [84],.str [98]]],.int .u8 5,.bool false,.int .i64 0,.str [],.str [],.sl [.str [120]],.sl [.agg [.int .u8 1,.bool false,.int .i64 (-3),.str [],.str [],.sl [],.sl []]]]
def tB:Tree:=.agg [.str [84],.str [98],.sl [.agg [.str [84],.str [99]]],.int .u8 5,.bool false,.int .i64 0,.str [],.str [],.sl [],.sl []]
def tC:Tree:=.agg [.str [84],.str [99],.sl [.agg [.str [84],.str [97]]],.int .u8 5,.bool false,.int .i64 0,.str [],.str [],.sl [],.sl []]
def txA:List UInt8:=[84,58,58,34,97,34,32,105,110,32,91,84,58,58,34,98,34,93,32,123,120,58,32,45,51,125,59]
def txB:List UInt8:=[84,58,58,34,98,34,32,105,110,32,91,84,58,58,34,99,34,93,32,123,125,59]
def txC:List UInt8:=[84,58,58,34,99,34,32,105,110,32,91,84,58,58,34,97,34,93,32,123,125,59]
theorem RJ:T .av uA:=.av _ _ (by decide) (by decide)
theorem Oh:T .av uB:=.av _ _ (by decide) (by decide)
theorem RL:T .av uC:=.av _ _ (by decide) (by decide)
def Oi:List (List Tree×Tree):=[([.sl [.sl [uA],.sl [uB]]],.sl [uA,uB]),([.sl [.sl [uB],.sl [uC]]],.sl [uB,uC]),([.sl [.sl [uC],.sl [uA]]],.sl [uC,uA])]
theorem He {u:Tree}(h:T .av u):∀y∈[u],T .av y:=λy hy=>by rw[List.mem_singleton.1 hy];exact h
theorem RM (m:Int):gu (vw m) 68 (kK Oi):=mU λp hp=>by
 simp only[Oi,List.mem_cons,List.not_mem_nil,or_false] at hp;rcases hp with rfl|rfl|rfl
 ·exact sD (xH m uA [uB] RJ (by decide) (He Oh))
 ·exact sD (xH m uB [uC] Oh (by decide) (He RL))
 ·exact sD (xH m uC [uA] RL (by decide) (He RJ))
def BE:List (List Tree×Tree):=[([.sl []],.sl [])]
theorem xQ {m:Int}{g:FuncId}(h:aq (cf m) g [.t (.sl [])] [] (.ret (.t (.sl [])) [] [])):gu (vw m) g (yh (vw m) 300 g (kK BE)):=Fg (kI m) (mU λp hp=>by
 simp only[BE,List.mem_cons,List.not_mem_nil,or_false] at hp;rcases hp with rfl;exact sD h)
def Oj:List (List Tree×Tree):=[([.int .i64 (-3),.int .i64 10],.str [45,51])]
theorem RN (m:Int):gu (vw m) 107 (kK Oj):=mU λp hp=>by
 simp only[Oj,List.mem_cons,List.not_mem_nil,or_false] at hp;rcases hp with rfl;exact sD (afS m)
theorem afT (m:Int):gu (vw m) 287 (yh (vw m) 300 287 (PV 80 Wo exN Wp)):=Fg (kI m) (Wa (Zw m))
def Wq:iy:=λ_ args aU=>match args,aU with
 | [.fn (.func f) [] [.ptr (.arg 0) 0]],[.cells ty [.t (.sl [])]]=>cond (Nat.beq f 289&&Nat.beq ty 27) (some (.ret (.t (.sl [])) [.cells 27 [.t (.sl [])]] [])) none
 | [.fn (.func f) [] [.ptr (.arg 0) 0]],[.cells ty [.t (.sl [.str s])]]=>cond (Nat.beq f 289&&Nat.beq ty 27) (some (.ret (.ref (.loc [0]) 0 1) [.cells 27 [.t (.sl [.str s])]] [(.loc [0],.arr (9,false) 1 false [.t (.str s)])])) none
 |_,_=>none
theorem Wr (m:Int):gu (vw m) 257 Wq:=by
 intro ev aC args aU r h G w vs hw hg had hH hv;unfold Wq at h;split at h
 ·rename_i f ty;cases hb:Nat.beq f 289&&Nat.beq ty 27 with
  |false=>rw[hb] at h;cases h
  | true=>
    rw[hb] at h
    rw[Bool.and_eq_true] at hb
    obtain rfl:=Nat.eq_of_beq_eq_true hb.1
    obtain rfl:=Nat.eq_of_beq_eq_true hb.2
    cases h
    exact sD (G9 m [] (by decide)) G w vs hw hg had hH hv
 ·rename_i f ty s;cases hb:Nat.beq f 289&&Nat.beq ty 27 with
  |false=>rw[hb] at h;cases h
  | true=>
    rw[hb] at h
    rw[Bool.and_eq_true] at hb
    obtain rfl:=Nat.eq_of_beq_eq_true hb.1
    obtain rfl:=Nat.eq_of_beq_eq_true hb.2
    cases h
    have h1:=G9 m [s] (by show 1<=_;omega)
    rw[if_neg (by simp),show AL [s]=[s] by simp[AL]] at h1
    exact sD h1 G w vs hw hg had hH hv
 ·cases h
def v0:Tree:=.agg [.int .u8 1,.bool false,.int .i64 0,.str [],.str [],.sl [],.sl []]
def v3:Tree:=.agg [.int .u8 1,.bool false,.int .i64 3,.str [],.str [],.sl [],.sl []]
def Ws:iy:=λ_ args aU=>match args,aU with
 | [.ref (.arg 0) 0 1,.t (.int .i64 (.ofNat 0)),.jS [v]],[.arr (g,true) 7 false cs]=>cond (Nat.beq g 30) (match V9 cs with
  |some l=>cond (Fe (v::l) (v0::flat [v3])) (some (.ret (.ref (.arg 0) 0 2) [.arr (30,true) 7 false ((flat [v0,v3]).map .t)] [])) none
  |none=>none) none
 |_,_=>none
theorem Wt (m:Int):gu (vw m) 157 Ws:=by
 intro ev aC args aU r h G w vs hw hg had hH hv;unfold Ws at h;split at h
 ·rename_i v g cs;cases hb:Nat.beq g 30 with
  |false=>rw[hb] at h;cases h
  | true=>
    rw[hb] at h
    obtain rfl:=Nat.eq_of_beq_eq_true hb
    simp only[cond_true] at h
    split at h
    · rename_i l hl
      cases hs:Fe (v::l) (v0::flat [v3]) with
      |false=>rw[hs] at h;cases h
      | true=>
        rw[hs] at h
        have e:=GZ hs
        injection e with e1 e2
        subst e1
        subst e2
        obtain rfl:=Jv hl
        cases h
        have h1:=Wi m (L:=[v3]) (vs:=[v0]) (n:=1) (i:=0) (by decide) (λy hy=>by rw[List.mem_singleton.1 hy];exact⟨rfl,rfl,rfl⟩) rfl (by omega) (by simp) (by decide) (λy hy=>by rw[List.mem_singleton.1 hy];exact⟨rfl,rfl,rfl⟩)
        obtain⟨x1,xs1,rfl,hx1,Xk⟩:=hv.fQ
        obtain⟨x2,x3,rfl,hx2,hx3⟩:=Xk.two
        refine sD h1 G w _ hw hg had hH ⟨rfl,λj c u hc hu=> ?_⟩
        match j with
        |0=>cases hc;cases hu;exact hx1
        |1=>cases hc;cases hu;exact hx2
        |2=>cases hc;cases hu;cases hx3 with|jS es a h=>exact .t _ _ h
        |j+3=>cases hc
    · cases h
 ·cases h
def ext1 (m:Int):Ext:=λ
 |62=>some (yh (vw m) 300 62 (kK BE))
 |70=>some (yh (vw m) 300 70 (kK BE))
 |111=>some (yh (vw m) 300 111 (kK BE))
 |112=>some (yh (vw m) 300 112 (kK BE))
 |29=>some (yh (vw m) 300 29 (kK []))
 |107=>some (kK Oj)
 |68=>some (kK Oi)
 |257=>some Wq
 |287=>some (yh (vw m) 300 287 (PV 80 Wo exN Wp))
 |157=>some Ws
 |g=>live.ext m g
theorem PZ (m:Int):BR (vw m) (ext1 m):=sV (by
 intro g s h;unfold ext1 at h;split at h<;>first
  |(obtain rfl:=Option.some.inj h;first|exact xQ (PT aN)|exact xQ (L5 aN)|exact xQ (PN aN)|exact xQ (L4 aN)|exact Fg (kI m) (mU λ_ h=>by cases h)|exact RN m|exact RM m|exact Wr m|exact afT m|exact Wt m)
  |exact Md m g s h)
theorem kX {m:Int}{g:FuncId}{args:List TV}{aU:List aO}{r:bk}(h:vp (vw m) (ext1 m) 300 g args aU=some r):aq (cf m) g args aU r:=by
 rw[wq] at h;exact Zv λG w vs hw hg ha hh hv=>vZ (kI m) (PZ m) 300 g args aU _ h G w vs hw hg ha hh hv
end
end Go.Proofs.YtnfnihgmankidaaGreatDoor.w.e
