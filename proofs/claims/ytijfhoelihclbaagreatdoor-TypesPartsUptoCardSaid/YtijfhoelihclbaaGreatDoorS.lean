/- slices.Sorted(slices.Values(l)) at texts: the list in order; what lay before stays. -/
import Derived.RangeFuncBox
import Derived.RangeFuncLeaves
import Derived.Shelf.Abstract
import Derived.WalkKit
import Derived.OwnWalkIn
import Derived.TacticsInMore
import Derived.LoopNIn
import Derived.LoopIn
import Derived.Lib.RowBridge
import Derived.Shelf.SlIter.Sorted
import Derived.Shelf.SortM.Plain
import Derived.Shelf.SortM.SortNone
import Derived.Test.YtijfhoelihclbaaGreatDoorSeq
import Derived.Test.YtijfhoelihclbaaGreatDoorShelf
import Derived.Test.YtijfhoelihclbaaGreatDoorN
import Derived.Test.YtijfhoelihclbaaGreatDoorQ
namespace Go.Proofs.YtijfhoelihclbaaGreatDoor.w
open Go Go.Abs Go.RowKit Go.Maps Go.Sort Go.Shelf
set_option linter.unusedVariables false
attribute [local go_sem] Oper.semAt_some
def upto {α:Type}(f:Nat→α)(k:Nat):List α:=(List.range k).map f
theorem PZ {α:Type}(f:Nat→α)(k:Nat):upto f (k+1)=upto f k++[f k]:=by simp[upto,List.range_succ]
theorem Jj {α:Type}(f:Nat→α)(k:Nat):(upto f k).length=k:=by simp[upto]
theorem SN (zs:List (List UInt8)):upto (fun j=>zs[j]?.getD []) zs.length=zs:=by
  apply List.ext_getElem
  · simp[upto]
  · intro i h1 h2
    simp[upto,h2]
set_option maxRecDepth 100000 in
set_option maxHeartbeats 2000000 in
theorem Xa (n:Nat)(l Bs n₀ b off len cap:Nat)(zs:List (List UInt8))(aiW:len≤4194304)(hb:b<n₀)(J:List (List UInt8)→World→Prop)
    (hY:∀pre x W,J pre W→pre.length<len→YieldAt Fence.wide (n - 1) Tryz.prog l #[encStr x] W fun e W'=>e=.returned (.bool true)∧J (pre++[x]) W'∧Below n₀ W W')
    (W:World)(hBs:W.cell? ⟨Bs,0,none⟩=some (.slice (some ⟨b,off,none⟩) len cap))(hc:∀j,j<len→W.cell? ⟨b,off+j,none⟩=some (encStr (zs[j]?.getD [])))(h0:J [] W):
    CallsIn Fence.wide n Tryz.prog 177 #[.func (.yield l) #[] #[],.pointer (some ⟨Bs,0,none⟩)] W fun e W'=>(∃v,e=.returned v)∧J (upto (fun j=>zs[j]?.getD []) len) W':=by
  refine callsIn_of_wp Tryz.func177 rfl trivial ?_ rfl
  simp only[Tryz.ntmps177,List.size_toArray,List.length_cons,List.length_nil,Nat.reduceAdd,Nat.reduceSub,Array.replicate_succ,Array.replicate_zero,List.push_toArray,List.append_toArray,List.nil_append,List.cons_append]
  gi_wp2
  gi_loopw [7] (fun i wr=>∃k:Nat,k≤len∧i=.int .i64 k∧J (upto (fun j=>zs[j]?.getD []) k) wr∧Below n₀ W wr)
    (fun i _=>len - (intOf i).toNat)
  case atStart=>exact⟨0,Nat.zero_le _,rfl,h0,Below.refl _ _⟩
  case round=>
    obtain⟨k,hk,rfl,hJs,Ij⟩:=hrel
    have hcx:k<len→wr.cell? ⟨b,off+k,none⟩=some (encStr (zs[k]?.getD [])):=fun h=>(Ij.cell (p:=⟨b,off+k,none⟩) hb).trans (hc k h)
    by_cases hlt:k<len
    · obtain⟨fn,tmps,assign,body,hy,hR⟩:=hY _ (zs[k]?.getD []) wr hJs (by rw[Jj];exact hlt)
      have aln:=hcx hlt
      gi_wp2
      refine⟨fun h=>by simp[Fence.wide] at h,hR.mono ?_⟩
      rintro e W3 ⟨rfl,hJ3,hk3⟩
      gi_wp2
      go_roundw
      case rel=>exact⟨k+1,by omega,by simp,by rw[PZ];exact hJ3,Ij.trans hk3⟩
      case measure=>simp[intOf];omega
    · obtain rfl:k=len:=by omega
      gi_wp2
      go_end0
      exact⟨⟨_,rfl⟩,hJs⟩
set_option maxRecDepth 100000 in
set_option maxHeartbeats 1000000 in
theorem GL (n:Nat)(l Bs:Nat)(p:Option Addr)(cap:Nat)(J:List (List UInt8)→World→Prop)(W:World)(hBs:W.cell? ⟨Bs,0,none⟩=some (.slice p 0 cap))(h0:J [] W):
  CallsIn Fence.wide n Tryz.prog 177 #[.func (.yield l) #[] #[],.pointer (some ⟨Bs,0,none⟩)] W fun e W'=>(∃v,e=.returned v)∧J [] W':=by
 refine callsIn_of_wp Tryz.func177 rfl trivial ?_ rfl
 simp only[Tryz.ntmps177,List.size_toArray,List.length_cons,List.length_nil,Nat.reduceAdd,Nat.reduceSub,Array.replicate_succ,Array.replicate_zero,List.push_toArray,List.append_toArray,List.nil_append,List.cons_append]
 gi_wp2
 gi_loopw [7] (fun i wr=>i=.int .i64 0∧J [] wr) (fun _ _=>0)
 case atStart=>exact⟨rfl,h0⟩
 case round=>
  obtain⟨rfl,hJs⟩:=hrel
  gi_wp2
  go_end0
  exact⟨⟨_,rfl⟩,hJs⟩
def NF (n₀:Nat)(n:Nat)(g:FuncId)(lb:Array Value)(zs:List (List UInt8))(w:World):Prop:=
 ∀(l:Nat) (J:List (List UInt8)→World→Prop) (W:World),Below w.heap.size w W→
  (∀pre x W1,J pre W1→pre.length<zs.length→YieldAt Fence.wide (n - 1) Tryz.prog l #[encStr x] W1 fun e W'=>e=.returned (.bool true)∧J (pre++[x]) W'∧Below n₀ W1 W')→
  J [] W→CallsIn Fence.wide n Tryz.prog g (#[.func (.yield l) #[] #[]]++lb) W fun e W'=>(∃v,e=.returned v)∧J zs W'
theorem LZ (n:Nat)(Bs:Nat)(sv:Value)(zs:List (List UInt8))(hz:zs.length≤4194304)(w:World)(hBs:Bs<w.heap.size)(hc:w.cell? ⟨Bs,0,none⟩=some sv)
    (hI:(∃p cap,sv=.slice p 0 cap∧zs=[])∨∃b off cap,sv=.slice (some ⟨b,off,none⟩) zs.length cap∧b<w.heap.size∧∀j,j<zs.length→w.cell? ⟨b,off+j,none⟩=some (encStr (zs[j]?.getD []))):
    NF w.heap.size n 177 #[.pointer (some ⟨Bs,0,none⟩)] zs w:=fun l J W hW hY h0=>by
  have hc':=(hW.cell (p:=⟨Bs,0,none⟩) hBs).trans hc
  rcases hI with ⟨p,cap,rfl,rfl⟩|⟨b,off,cap,rfl,hb,hcs⟩
  · exact GL n l Bs p cap J W hc' h0
  · have:=Xa n l Bs w.heap.size b off zs.length cap zs hz hb J hY W hc' (fun j hj=>(hW.cell (p:=⟨b,off+j,none⟩) hb).trans (hcs j hj)) h0
    rw[SN] at this
    exact this
theorem SP {B:Nat}{w a c:World}(h:Below B w a)(k:Below B w c)(hs:a.heap.size≤c.heap.size):Below B a c:=
 ⟨k.os.trans h.os.symm,k.tape.trans h.tape.symm,k.output.trans h.output.symm,hs,fun i hi=>(k.block i hi).trans (h.block i hi).symm⟩
abbrev sr:Ren:=Tryz.sorted134_ren
set_option maxRecDepth 100000 in
set_option maxHeartbeats 2000000 in
theorem GM (n:Nat)(hn:2≤n)(g:Nat)(lb:Array Value)(eg:∀args w,(callFunc g args).run Tryz.prog w=.ok (.enter g args) w)(zs:List (List UInt8))(hz:zs.length≤4194304)(w:World)(hseq:NF w.heap.size (n - 1) g lb zs w):
    CallsIn Fence.wide n Tryz.prog (sr.f 11) #[.slice none 0 0,.func (.func g) #[] lb] w fun e w'=>∃v,e=.returned v∧w'.ownsRow w.heap.size (sr.t 26) 1 v zs.length (zs.map encStr)∧(v=.slice none 0 0↔zs=[])∧Below w.heap.size w w':=by
  have L:SlLaysZ.n11 Tryz.prog sr:={Tryz.sorted134 with}
  have mixed:=L.mixed;have t0:=L.t0;have a0:=L.a0;have z0:=L.z0;have v0:=L.v0;have t24:=L.t24;have a24:=L.a24;have z24:=L.z24;have v24:=L.v24;have t26:=L.t26;have a26:=L.a26;have z26:=L.z26;have v26:=L.v26;have t28:=L.t28;have a28:=L.a28;have z28:=L.z28;have v28:=L.v28
  have hne:sr.t 24≠sr.t 26:=fun e=>by have h:=L.t24;rw[e,L.t26] at h;cases h
  have u0:=run_underlying L.t0;have u24:=run_underlying L.t24;have u26:=run_underlying L.t26;have u28:=run_underlying L.t28
  obtain⟨_,_,FG⟩:=L.f11
  refine callsIn_of_wp_marks FG rfl trivial ?_ rfl
  simp only[SlBodyZ.n11_ntmps sr,List.size_toArray,List.length_cons,List.length_nil,Nat.reduceAdd,Nat.reduceSub,Array.replicate_succ,Array.replicate_zero,List.push_toArray,List.append_toArray,List.nil_append,List.cons_append]
  gi_wp2
  refine wpIn_rangeFunc fun fn _=> ?_
  obtain⟨A,hA⟩:∃A,A=w.alloc (.cells #[.slice none 0 0] (sr.t 24)):=⟨_,rfl⟩
  obtain⟨rec,WH⟩:∃rec,rec=AnyZ.apRec sr fn (.func (.func g) #[] lb) w.heap.size A.heap.size .ready none:=⟨_,rfl⟩
  obtain⟨Z,hZ⟩:∃Z,Z=(A.alloc (.deferred (some []))).alloc (.loop rec):=⟨_,rfl⟩
  have sA:A.heap.size=w.heap.size+1:=by rw[hA];simp
  have cA:A.heap[w.heap.size]?=some (.cells #[.slice none 0 0] (sr.t 24) (0,0)):=by rw[hA];exact World.alloc_heap_new w _
  have bA:Below w.heap.size w A:=by rw[hA];exact(Below.refl _ w).alloc (Nat.le_refl _) _
  have aiX:∀k,k<A.heap.size→Z.heap[k]?=A.heap[k]?:=fun k hk=>by
    rw[hZ]
    exact(Below.heap_alloc _ _ k (by simp;omega)).trans (Below.heap_alloc _ _ k hk)
  have bZ:Below w.heap.size w Z:=by
    rw[hZ]
    exact(bA.alloc bA.size _).alloc (by have:=bA.size;simp;omega) _
  have lZ:Z.heap[A.heap.size+1]?=some (.loop rec):=by
    rw[hZ]
    have:=World.alloc_heap_new (A.alloc (.deferred (some []))) (.loop rec)
    rwa [World.size_alloc] at this
  have dZ:Z.heap[A.heap.size]?=some (.deferred (some [])):=by
    rw[hZ]
    exact(Below.heap_alloc _ _ _ (by simp)).trans (World.alloc_heap_new A _)
  have start:AnyZ.ApAt sr w fn (.func (.func g) #[] lb) w.heap.size (A.heap.size+1) A.heap.size [] Z:=
    ⟨⟨_,(aiX w.heap.size (by omega)).trans cA,⟨rfl,.inl ⟨rfl,rfl⟩⟩,by simp⟩,by rw[lZ,WH],dZ,bZ⟩
  refine⟨A.heap.size+1,[{target:=.collected A.heap.size,args:= #[]}],Z,{target:=.fn (.func g) lb,args:= #[.func (.yield (A.heap.size+1)) #[] #[]]},Z,g,
    #[.func (.yield (A.heap.size+1)) #[] #[]]++lb,Z, ?_, ?_,fun _ _=>trivial, ?_,fun _=>by omega, ?_⟩
  · rw[hZ,WH,hA];exact run_enterLoop_outer _ _ _ _ _
  · simp[resolve,go_sem]
  · simp[invoke,go_sem,eg]
  · refine(hseq (A.heap.size+1) (AnyZ.ApAt sr w fn (.func (.func g) #[] lb) w.heap.size (A.heap.size+1) A.heap.size) Z bZ (fun pre x W hJ hlt=> ?_) start).mono ?_
    · have hy:=AnyZ.apYield L Fence.wide (n - 1 - 1) w fn trivial (.func (.func g) #[] lb) w.heap.size (A.heap.size+1) A.heap.size (by omega) (by omega) (by omega) (Nat.le_refl _) (by omega) zs.length (Nat.le_trans hz (by decide)) (by omega) pre x W hJ hlt
      exact hy.mono fun e W' h=>⟨h.1,h.2.1,SP hJ.below h.2.1.below h.2.2.size⟩
    · rintro e W2 ⟨⟨r0,rfl⟩,h2⟩
      obtain⟨v,hv,hrow,Cn⟩:=h2.box
      have hend:=run_endLoop (P:=Tryz.prog) h2.L (by simp[AnyZ.apRec])
      obtain⟨V,hV⟩:∃V,V=W2.putObj (A.heap.size+1) (.loop {AnyZ.apRec sr fn (.func (.func g) #[] lb) w.heap.size A.heap.size .ready none with state:=.exhausted}):=⟨_,rfl⟩
      rw[← hV] at hend
      have gV:W2.grownBy V (some (A.heap.size+1)):=by rw[hV];exact grownBy_putObj_a _ _ _
      have cV:V.heap[w.heap.size]?=some (.cells #[v] (sr.t 24) (0,0)):=by rw[hV];exact(World.putObj_heap_other (by omega)).trans hv
      have dV:V.heap[A.heap.size]?=some (.deferred (some [])):=by rw[hV];exact(World.putObj_heap_other (by omega)).trans h2.K
      have rV:=hrow.kept gV (ownsRow_ne_a hrow h2.L (fun cur e=>by first|cases e|exact hne (Obj.cells.inj e).2.1))
      have bV:Below w.heap.size w V:=h2.below.grown gV h2.below.size (fun k e=>by cases e;omega)
      obtain⟨bF,hf3⟩:=cell_of_box_a cV
      clear hV
      refine⟨none,V,hend, ?_⟩
      gi_wp2
      rw[← sA]
      refine⟨by simp,.inl ⟨_,_,rfl,run_takeDeferred dV, ?_⟩⟩
      exact⟨_,results_tmp rfl _ _ _,v,rfl,rV.kept (grownBy_putObj_a _ _ _) (ownsRow_ne_a rV dV (fun cur e=>by first|cases e|exact hne (Obj.cells.inj e).2.1)),Cn,bV.grown (grownBy_putObj_a _ _ _) bV.size (fun k e=>by cases e;omega)⟩
set_option maxHeartbeats 1000000 in
theorem Ex (n:Nat)(hn:3≤n)(g:Nat)(lb:Array Value)(eg:∀args w,(callFunc g args).run Tryz.prog w=.ok (.enter g args) w)(zs:List (List UInt8))(hz:zs.length≤4194304)(w:World)(hseq:NF w.heap.size (n - 1 - 1) g lb zs w):
  CallsIn Fence.wide n Tryz.prog 176 #[.func (.func g) #[] lb] w fun e w'=>∃v,e=.returned v∧w'.ownsRow w.heap.size (sr.t 26) 1 v zs.length (zs.map encStr)∧(v=.slice none 0 0↔zs=[])∧Below w.heap.size w w':=by
 have e11:∀args w,(callFunc 195 args).run Tryz.prog w=.ok (.enter 195 args) w:=enters_of Tryz.func195 (by kernel_rfl) rfl
 refine callsIn_of_wp Tryz.func176 rfl trivial ?_ rfl
 simp only[Tryz.ntmps176,List.size_toArray,List.length_cons,List.length_nil,Nat.reduceAdd,Nat.reduceSub,Array.replicate_succ,Array.replicate_zero,List.push_toArray,List.append_toArray,List.nil_append,List.cons_append]
 gi_wp2_with (refine⟨trivial,fun h=>by simp[Fence.wide] at h, ?_⟩;refine(GM (n - 1) (by omega) g lb eg zs hz _ hseq).mono ?_;rintro e w' ⟨v,rfl,hrow,Cn,hb⟩)
 go_ret
 exact⟨v,rfl,hrow,Cn,hb⟩
set_option maxRecDepth 100000 in
set_option maxHeartbeats 2000000 in
theorem GN (n:Nat)(hn:4≤n)(g:Nat)(lb:Array Value)(eg:∀args w,(callFunc g args).run Tryz.prog w=.ok (.enter g args) w)(zs:List (List UInt8))(hz:zs.length≤4194304)(w:World)(hseq:NF w.heap.size (n - 1 - 1 - 1) g lb zs w):
    CallsIn Fence.wide n Tryz.prog 134 #[.func (.func g) #[] lb] w fun e w'=>∃v,e=.returned v∧w'.ownsRow w.heap.size (sr.t 26) 1 v zs.length ((zs.mergeSort (fun x y=>decide (x≤y))).map encStr)∧(v=.slice none 0 0↔zs=[])∧Below w.heap.size w w':=by
  have e8:∀args w,(callFunc 176 args).run Tryz.prog w=.ok (.enter 176 args) w:=enters_of Tryz.func176 (by kernel_rfl) rfl
  have e9:∀args w,(callFunc 160 args).run Tryz.prog w=.ok (.enter 160 args) w:=enters_of Tryz.func160 (by kernel_rfl) rfl
  refine callsIn_of_wp Tryz.func134 rfl trivial ?_ rfl
  simp only[Tryz.ntmps134,List.size_toArray,List.length_cons,List.length_nil,Nat.reduceAdd,Nat.reduceSub,Array.replicate_succ,Array.replicate_zero,List.push_toArray,List.append_toArray,List.nil_append,List.cons_append]
  gi_wp2_with (refine⟨trivial,fun h=>by simp[Fence.wide] at h, ?_⟩;refine(Ex (n - 1) (by omega) g lb eg zs hz _ hseq).mono ?_;rintro e W ⟨v,rfl,hrow,Cn,hb⟩)
  rcases hrow.2 with ⟨rfl,hzero⟩|⟨gb,cap,cur,rfl,hbase,hgb,r1,r2,r3,r4⟩
  · have hzs:zs=[]:=List.eq_nil_of_length_eq_zero hzero
    subst hzs
    gi_wp2_with (refine⟨trivial,fun h=>by simp[Fence.wide] at h, ?_⟩;refine(callsIn_wide.2 (AnyM.slices_Sort_string_none Tryz.sort160 none 0 W)).mono ?_;rintro e w' ⟨rfl,rfl⟩)
    go_ret
    exact⟨.slice none 0 0,rfl,by simpa using hrow,by simp,hb⟩
  · have hH:Holds encStr W gb 0 zs.toArray:=holds_of_block hgb (by simpa using r4)
    have hgl:gb<W.heap.size:=(Array.getElem?_eq_some_iff.1 hgb).1
    have cS:CallsIn Fence.wide (n - 1) Tryz.prog 160 #[.slice (some ⟨gb,0,none⟩) zs.length cap] W _:=callsIn_wide.2 (AnyM.slices_Sort_string Tryz.sort160 gb 0 cap zs W hH hgl (by omega))
    gi_wp2_with (refine⟨trivial,fun h=>by simp[Fence.wide] at h, ?_⟩;refine cS.mono ?_;rintro e w' ⟨rfl,nn,os,rfl⟩)
    go_ret
    exact⟨_,rfl,ownsRow_sorted (by simp) hbase hgb r1 r2 r3,Cn,hb.grown (grownBy_sorted _) hb.size (fun j hj=>by cases hj;exact hbase)⟩
theorem rF:∀(l:List (List UInt8)),flat (l.map .str)=l.map .str
 | []=>rfl
 |a::r=>by
  have:=rF r
  simp only[flat] at this
  simp[flat,Tree.cells,this]
def kS (zs:List (List UInt8)):List (List UInt8):=zs.mergeSort (fun x y=>decide (x≤y))
theorem P0 {G:Gh}{w w':World}(hw:WF G w)(hb:Below w.heap.size w w'):Step (fun _=>False) (fun _=>False) G w G w':=by
 refine⟨.refl G,⟨fun b o v hf=> ?_,hw.inj,fun k d=>Nat.lt_of_lt_of_le (hw.lt k d) hb.size⟩,fun _ _ _=>⟨rfl,rfl⟩,fun b hlt _=>⟨hb.block b hlt,fun _=>rfl⟩,fun _ d=>.inl d,fun _ d=>.inl ⟨d,rfl⟩,hb.size,hb.os,hb.tape,hb.output⟩
 obtain⟨us,ty,fr,h1,h2⟩:=hw.F b o v hf
 exact⟨us,ty,fr,by rw[hb.block b (Array.getElem?_eq_some_iff.1 h1).1];exact h1,h2⟩
def Gh.newRow (G:Gh)(k0:Nm)(gb n cap:Nat):Gh:={F:=G.F,mu:=fun k=>if k=k0 then gb else G.mu k,arr:=fun k=>if k=k0 then some (n,1,cap) else G.arr k,dom:=fun k=>k=k0∨G.dom k}
theorem Jk {G:Gh}{w w':World}(hw:WF G w)(hb:Below w.heap.size w w'){k0:Nm}(hk:k0.gy=true)(hno:¬G.dom k0){gb n cap:Nat}(hg:w.heap.size≤gb)(hlt:gb<w'.heap.size):
    Step (fun _=>False) (fun k=>k.gy=true) G w (Gh.newRow G k0 gb n cap) w':=by
  have hne:∀k,G.dom k→¬k=k0:=fun k hd e=>hno (e▸hd)
  refine⟨⟨fun b o v h=>h,fun k h=>.inr h,fun k hd h=> ?_,fun k n e c hd h=> ?_⟩,⟨fun b o v hf=> ?_,fun k k' d d' e=> ?_,fun k d=> ?_⟩,fun k hd _=> ?_,fun b hlt _=>⟨hb.block b hlt,fun o=>rfl⟩,fun k d=> ?_,fun k d=> ?_,hb.size,hb.os,hb.tape,hb.output⟩
  · simp only[Gh.newRow,if_neg (hne k hd)];exact⟨h,trivial⟩
  · simp only[Gh.newRow,if_neg (hne k hd)];exact⟨n,c,h,Nat.le_refl _,fun _=>⟨rfl,trivial⟩⟩
  · obtain⟨us,ty,fr,h1,h2⟩:=hw.F b o v hf
    exact⟨us,ty,fr,by rw[hb.block b (Array.getElem?_eq_some_iff.1 h1).1];exact h1,h2⟩
  · simp only[Gh.newRow] at d d' e
    rcases d with rfl|d<;>rcases d' with rfl|d'
    · rfl
    · rw[if_pos rfl,if_neg (hne k' d')] at e;have:=hw.lt k' d';omega
    · rw[if_pos rfl,if_neg (hne k d)] at e;have:=hw.lt k d;omega
    · rw[if_neg (hne k d),if_neg (hne k' d')] at e;exact hw.inj k k' d d' e
  · rcases d with rfl|d
    · simp only[Gh.newRow,if_true];exact hlt
    · simp only[Gh.newRow,if_neg (hne k d)];exact Nat.lt_of_lt_of_le (hw.lt k d) hb.size
  · simp only[Gh.newRow,if_neg (hne k hd),and_self]
  · rcases d with rfl|d
    · exact .inr hk
    · exact .inl d
  · rcases d with rfl|d
    · simp only[Gh.newRow,if_true];exact .inr hg
    · simp only[Gh.newRow,if_neg (hne k d)];exact .inl ⟨d,trivial⟩
theorem Fu (m:Int)(zs:List (List UInt8))(hz:zs.length≤4194304):
    ay (cf m) 134 [.fn (.func 177) [] [.ptr (.arg 0) 0]] [.cells 23 [.t (.sl (zs.map .str))]]
      (if zs=[] then .ret (.t (.sl [])) [.cells 23 [.t (.sl (zs.map .str))]] [] else .ret (.ref (.loc [0]) 0 zs.length) [.cells 23 [.t (.sl (zs.map .str))]] [(.loc [0],.arr (9,false) 1 false (((kS zs).map .str).map .t))]):=by
  intro G w vs hw hg had hH hv
  obtain⟨x,rfl,hx⟩:=hv.only
  obtain⟨q,rfl,hp⟩:∃q,x=.func (.func 177) #[] #[q]∧VR G (.ptr (.arg 0) 0) q:=by
    cases hx with
    | fn f fs cs vs ws hl h hl' h'=>
      match vs,ws,hl,hl' with
      | [],[q],_,_=>exact⟨q,rfl,h' 0 _ _ rfl rfl⟩
  obtain⟨hd,ho⟩:=hH (.arg 0) _ rfl
  obtain⟨ha,us,ty,fr,hh,_,Ep,_⟩:=ho
  obtain rfl:q=.pointer (some ⟨G.mu (.arg 0),0,none⟩):=by cases hp;rfl
  obtain⟨sv,us',e,hsv,hr⟩:=Ep.iN
  have hcell:w.cell? ⟨G.mu (.arg 0),0,none⟩=some sv:=by
    unfold World.cell?
    simp only[hh]
    have:us[0]?=some sv:=by rw[← Array.getElem?_toList,e];rfl
    simpa using this
  have hI :(∃p cap,sv=.slice p 0 cap∧zs=[])∨∃b off cap,sv=.slice (some ⟨b,off,none⟩) zs.length cap∧b<w.heap.size∧∀j,j<zs.length→w.cell? ⟨b,off+j,none⟩=some (encStr (zs[j]?.getD [])):=by
    cases hsv with|t _ _ hsv=>
    generalize hz':zs.map Tree.str=l at hsv
    cases hsv with
    |vO a cap=>exact .inl ⟨a,cap,rfl,by simpa using hz'⟩
    | sl bR es b o cap vals hne hc hu hF QT=>
      subst hz'
      refine .inr ⟨b,o,cap,by simp, ?_,fun j hj=> ?_⟩
      · cases zs with
        |nil=>simp at hne
        | cons z zs=>
          have h0:=hF 0 (.str z) (by rw[rF];rfl)
          obtain⟨_,_,_,h1,_⟩:=hw.F _ _ _ h0
          exact(Array.getElem?_eq_some_iff.1 h1).1
      · have hj':(flat (zs.map Tree.str))[j]?=some (.str zs[j]):=by rw[rF];simp[hj]
        have h1:=hF j _ hj'
        have h2:=QT j _ hj'
        obtain⟨c0,t0,f0,h3,h4⟩:=hw.F _ _ _ h1
        generalize vals j=vj at h2 h4
        cases h2
        unfold World.cell?
        simp only[h3]
        simpa [hj,encStr] using h4
  have ad0:=LZ 3 (G.mu (.arg 0)) sv zs hz w (hw.lt _ hd) hcell hI
  have aiY:∀args w,(callFunc 177 args).run Tryz.prog w=.ok (.enter 177 args) w:=enters_of Tryz.func177 (by kernel_rfl) rfl
  have aiZ:∀args w,(callFunc 134 args).run Tryz.prog w=.ok (.enter 134 args) w:=enters_of Tryz.func134 (by kernel_rfl) rfl
  refine .inl ⟨aiZ _ _,Calls.mono (callsIn_wide.1 (GN 6 (by omega) _ _ aiY zs hz w ad0)) ?_⟩
  rintro e w' ⟨v,rfl,hrow,Cn,hb⟩
  by_cases hz0:zs=[]
  · rw[if_pos hz0]
    obtain rfl:=Cn.2 hz0
    have hst:=P0 hw hb
    refine⟨_,G,rfl,hst.mono (fun _ _ h=>h.elim) (fun _ h=>h.elim),rfl,fun i o ho=> ?_,fun _ _ h=>by simp at h,.t _ _ (.vO none 0)⟩
    obtain⟨d,zH⟩:=gD hH i o ho
    exact⟨d,hst.keeps hw d (fun h=>h) zH⟩
  · rw[ if_neg hz0]
    rcases hrow.2 with ⟨_,hzero⟩|⟨gb,cap,cur,rfl,hbase,hgb,r1,r2,r3,r4⟩
    · exact absurd (List.eq_nil_of_length_eq_zero hzero) hz0
    · have hst:=Jk (n:=zs.length) (cap:=cap) hw hb (k0:=.loc [0]) rfl (had.2 [0]) hbase (Array.getElem?_eq_some_iff.1 hgb).1
      have ai0:∀o,G.F gb o=none:=fun o=>by
        cases hf:G.F gb o with
        |none=>rfl
        | some v=>
          obtain⟨us,t',f',h1,_⟩:=hw.F _ _ _ hf
          have:=(Array.getElem?_eq_some_iff.1 h1).1
          omega
      have hlen:(kS zs).length=zs.length:=by simp[kS]
      refine⟨_,Gh.newRow G (.loc [0]) gb zs.length cap,rfl,hst.mono (fun _ _ h=>h.elim) (fun _ h=>h),rfl,fun i o ho=> ?_,fun k o h=> ?_, ?_⟩
      · obtain⟨d,zH⟩:=gD hH i o ho
        exact⟨.inr d,hst.keeps hw d (fun h=>h) zH⟩
      · simp only[List.mem_singleton,Prod.mk.injEq] at h
        obtain⟨rfl,rfl⟩:=h
        refine⟨rfl,.inl rfl,by decide,cap,cur,_,(0,0), ?_, ?_,⟨fun o _ h=>by simp at h,rfl⟩,r3, ?_, ?_,fun o _=> ?_⟩
        · simp[Gh.newRow,hlen]
        · simp only[Gh.newRow,if_true];exact hgb
        · simp[hlen];omega
        · have e4:cur.toList.take zs.length=(kS zs).map encStr:=by simpa [kS] using r4
          have:cur.toList.take (((kS zs).map Tree.str).map TV.t).length=(kS zs).map encStr:=by simpa [hlen] using e4
          rw[this]
          refine⟨by simp,fun j c u hc hu=> ?_⟩
          simp only[List.getElem?_map,Option.map_eq_some_iff] at hc hu
          obtain⟨_,⟨s,hs,rfl⟩,rfl⟩:=hc
          obtain⟨s',hs',rfl⟩:=hu
          rw[hs] at hs';cases hs'
          exact .t _ _ (.str s)
        · simp only[Gh.newRow,if_true];exact ai0 o
      · refine .ref _ 0 zs.length zs.length 1 cap _ (.inl rfl) (by simp[Gh.newRow]) (by omega) ⟨_,_,rfl⟩ fun _=>⟨_,rfl,fun _=>by simp[Gh.newRow]⟩
theorem L1 (m:Int)(zs:List (List UInt8))(hz:zs.length≤4194304)(hne:zs≠ []):
    ∃r:Nat,r≤zs.length∧(zs.length=1→r=1)∧ay (cf m) 137 [.ref (.arg 0) 0 zs.length] [.arr (9,false) 1 false ((zs.map .str).map .t)] (.ret (.ref (.arg 0) 0 r) [.dead] []):=by
  have hle:(Lib.compact zs).length≤zs.length:=Lib.compact_length_le zs
  have h1:zs.length=1→(Lib.compact zs).length=1:=fun h=>by
    rw[Lib.compact_all zs fun j hj=>by
      obtain rfl:j=0:=by omega
      rfl]
    exact h
  refine⟨(Lib.compact zs).length,hle,h1, ?_⟩
  intro G w vs hw hg had hH hv
  obtain⟨x,rfl,hx⟩:=hv.only
  obtain⟨hd,ho⟩:=hH (.arg 0) _ rfl
  obtain⟨_,cap,us,ty,fr,ha,hh,⟨qQ,_⟩,hsz,hcl,Ep,hF⟩:=ho
  have hn:((zs.map Tree.str).map TV.t).length=zs.length:=by simp
  rw[hn] at ha hcl
  have hpos:0<zs.length:=by cases zs with|nil=>exact absurd rfl hne|cons=>simp
  obtain rfl:x=.slice (some ⟨G.mu (.arg 0),0,none⟩) zs.length cap:=by
    cases hx with
    | ref k off len n bR cap' v hd' ha' hle' ho' hv'=>
      rw[ha] at ha';cases ha'
      obtain⟨a,rfl,h2⟩:=hv' (by omega)
      have:=h2 (by omega)
      subst this;rfl
  have hH':Holds encStr w (G.mu (.arg 0)) 0 zs.toArray:=fun j hj=>by
    have hj':j<zs.length:=by simpa using hj
    have hju:j<us.size:=by omega
    refine⟨?_,by rw[Nat.zero_add];exact j8 hh qQ hju⟩
    have h1:=Ep.2 j (.t (.str zs[j])) us[j] (by simp[hj']) (by rw[hn,List.getElem?_take_of_lt hj',Array.getElem?_toList];simp[hju])
    have h2:us[j]=encStr zs[j]:=by
      generalize us[j]=v at h1
      cases h1 with|t _ _ h=>cases h;rfl
    simp only[World.cell?,hh,Nat.zero_add]
    simp[hju,hj',h2]
  have aaG:∀args w,(callFunc 137 args).run Tryz.prog w=.ok (.enter 137 args) w:=enters_of Tryz.func137 (by kernel_rfl) rfl
  refine .inl ⟨aaG _ _,Calls.mono (Tryz.slices_Compact_string (G.mu (.arg 0)) 0 cap zs w hH' (by omega) (by omega)) ?_⟩
  rintro e w' ⟨rfl,q,rfl⟩
  have gB:w.grownBy (putRow encStr (Sort.ahead w q) (G.mu (.arg 0)) 0 (Lib.compact zs++List.replicate (zs.length - (Lib.compact zs).length) []).toArray) (some (G.mu (.arg 0))):=by
    have:=grownBy_sorted (w:=w) (g:=G.mu (.arg 0)) (n:=q) (os:= #[]) (Lib.compact zs++List.replicate (zs.length - (Lib.compact zs).length) []).toArray
    rwa [grow_empty] at this
  refine⟨_,G,rfl,⟨.refl G,⟨fun b o v hf=> ?_,hw.inj,fun k d=>Nat.lt_of_lt_of_le (hw.lt k d) gB.size⟩,fun _ _ h=>absurd trivial h,fun b hlt hn=>⟨gB.block b hlt fun e=>hn _ trivial hd (Option.some.inj e).symm,fun _=>rfl⟩,fun _ d=>.inl d,fun _ d=>.inl ⟨d,rfl⟩,gB.size,gB.os,gB.tape,gB.output⟩,rfl,fun i o ho=> ?_,fun _ _ h=>by simp at h, ?_⟩
  · obtain⟨us',t',f',h1,h2⟩:=hw.F b o v hf
    have hb:b≠G.mu (.arg 0):=fun e=>by
      subst e
      rw[hF o (.inl rfl)] at hf;cases hf
    exact⟨us',t',f',by rw[gB.block b (Array.getElem?_eq_some_iff.1 h1).1 fun e=>hb (Option.some.inj e)];exact h1,h2⟩
  · match i,ho with
    |0,ho=>simp at ho;subst ho;exact⟨hd,trivial⟩
  · refine .ref _ 0 _ zs.length 1 cap _ hd ha (by omega) ⟨_,_,rfl⟩ fun _=>⟨_,rfl,fun _=>rfl⟩
end Go.Proofs.YtijfhoelihclbaaGreatDoor.w

noncomputable section
namespace Go.Abs
open Go
set_option linter.unusedVariables false
theorem SQ {C:dh}{ev:aS}(ai:aF C ev){H:Heap}{g:FuncId}{args vc:List TV}{S:List Nm}{os os':List aQ}{v v':TV}{news h h':Heap}{t:Nat}{G:Gh}{w:World}{vs:List Value}
    (hn:S.Nodup)(h1:TV.vR (QO S) args=some vc)(h2:jf H S S=some os)(he:ev g vc os=some (.ret v os' news))(h3:v.rn (kX S t)=some v')(h4:iC S t S os'=some h)(h5:gJ S t news=some h')
    (hw:WF G w)(hg:jq C G)(hH:HR G w H)(hfresh:∀p,¬G.dom (.loc (t::p)))(hv:cK G args vs):lu C.P g vs.toArray w (kM t G w (.val v' (h++h'))):=by
  have Ni:∀k∈S,G.dom k:=by
    intro k hk
    obtain⟨j,hj⟩:=List.mem_iff_getElem?.1 hk
    obtain⟨o,o',e1,_,_⟩:=(mY h2).2 j k hj
    exact(hH k o e1).1
  have hc:=ai g vc os _ he (G.within S) w vs (E0 hw hn Ni) (fun x cs hx=>hg x cs hx)
    ⟨fun i hi=>by have:=(mY h2).1;exact(by omega:i<S.length),fun p d=>d⟩ (E1 hH h2) (hv.rn tW h1)
  refine hc.mono fun e w' he=> ?_
  obtain⟨x,G2,rfl,hs2,hl,hob,K6,hx⟩:=he
  have Wl:=zT hw hn Ni hfresh hs2
  have vF:=zU hn Ni hfresh hs2
  obtain⟨ek,_,hO⟩:=xL h4
  refine⟨x,G.back S t G2,rfl,Wl.mono (fun k _ hk=> ?_) (fun k hk=>hk),fun k ob hm=> ?_,hx.rn vF h3⟩
  · rw[List.map_append]
    exact List.mem_append_left _ (by rw[ek];exact hk)
  · rcases List.mem_append.1 hm with hm|hm
    · obtain⟨i,o',e1,e2,e3⟩:=hO k ob hm
      obtain⟨d,ho⟩:=hob i o' e2
      exact⟨.inl (Ni _ (List.mem_of_getElem? e1)),OR.rn vF (fun _ _ _=>rfl) (r9 hn e1) ho e3⟩
    · obtain⟨k',o',e1,e2,e3⟩:=xM h5 k ob hm
      obtain⟨el,d,ho⟩:=K6 k' o' e1
      cases k' with
      |arg i=>simp[Nm.gy] at el
      | loc p=>
        simp[kX] at e2
        subst e2
        exact⟨.inr ⟨p,rfl,d⟩,OR.rn vF (fun _ _ _=>rfl) (xK (hfresh p) Ni) ho e3⟩
section
variable {C:dh}{ev:aS}{ops:Array Oper}{r:List Oper}{n:Nat}{sp:List (Nat×TV)}{H:Heap}{t:Nat}
theorem eH.Jl {Q:aV→St→Prop}{d:Tmp}{fo:Operand}{args:Array Operand}{ats:Array TypeId}{ty pos af gd}{g:FuncId}{va vc:List TV}{S:List Nm}{os os':List aQ}{v v':TV}{news h h':Heap}(ai:aF C ev)
    (hwt:dF ops (bX n sp) ⟨some d,.call ⟨.value fo,args,ats⟩,ty,pos,af,gd⟩=some true)(hc:jm C (bX n sp) ⟨.value fo,args,ats⟩=some (g,va))(hn:S.Nodup)(h1:TV.vR (QO S) va=some vc)(h2:jf H S S=some os)
    (he:ev g vc os=some (.ret v os' news))(h3:v.rn (kX S t)=some v')(h4:iC S t S os'=some h)(h5:gJ S t news=some h')(k:eH C ops r ⟨bX n ((d,v')::sp),H.dJ (h++h'),t+1⟩ Q):
    eH C ops (⟨some d,.call ⟨.value fo,args,ats⟩,ty,pos,af,gd⟩::r) ⟨bX n sp,H,t⟩ Q:=by
  intro G0 w0 G w a h0 hs hst R hR
  refine wpList_step fun K hK=> ?_
  rw[iz hwt hst.slots]
  simp only[if_true]
  have hex:jC C.P ⟨some d,.call ⟨.value fo,args,ats⟩,ty,pos,af,gd⟩ a w (kM t G w (.val v' (h++h'))):=by
    obtain⟨first,captured,e,hv⟩:=Cs hst.slots hst.iT hc
    have:=SQ ai hn h1 h2 he h3 h4 h5 hst.wf hst.iT hst.heap hst.fresh.not hv
    rw[Array.toArray_toList] at this
    exact IQ rfl e this
  refine hex.wp kM.no (fun x w' hr=> ?_) (fun ch w' hr=> ?_)
  · obtain⟨x',G',e1,hs',hu,hv⟩:=hr
    simp at e1;subst e1
    refine hK _ _ (k G0 w0 G' w' _ h0 (dG.comp hs hs'.any) ?_ R fun e st' _ _ _ h1 h2=>hR _ _ _ _ _ h1 (Good.acts (put_defers _ _ _) h2))
    have:=hst.op (some d) hs' hu hv
    rw[eC] at this
    exact this
  · obtain⟨x',G',e1,_⟩:=hr
    simp at e1
variable {R:Type}{Q:R→aV→St→Prop}
theorem au.Jl {d:Tmp}{fo:Operand}{args:Array Operand}{ats:Array TypeId}{ty pos af}{g:FuncId}{va vc:List TV}{S:List Nm}{os os':List aQ}{v v':TV}{news h h':Heap}(ai:aF C ev)
  (hc:jm C (bX n sp) ⟨.value fo,args,ats⟩=some (g,va))(hn:S.Nodup)(h1:TV.vR (QO S) va=some vc)(h2:jf H S S=some os)
  (he:ev g vc os=some (.ret v os' news))(h3:v.rn (kX S t)=some v')(h4:iC S t S os'=some h)(h5:gJ S t news=some h')(k:au C ops r ⟨bX n ((d,v')::sp),H.dJ (h++h'),t+1⟩ Q):
  au C ops (⟨some d,.call ⟨.value fo,args,ats⟩,ty,pos,af,Option.none⟩::r) ⟨bX n sp,H,t⟩ Q:=k.imp fun _ k=>eH.Jl ai rfl hc hn h1 h2 he h3 h4 h5 k
theorem au.SS {d:Tmp}{fo:Operand}{args:Array Operand}{ats:Array TypeId}{ty pos af}{j gd:Nat}{w b:Bool}{g:FuncId}{va vc:List TV}{S:List Nm}{os os':List aQ}{v v':TV}{news h h':Heap}(ai:aF C ev)
  (hj:(ops[j]?).bind (·.dst)=some gd)(hb1:Nat.blt gd n=true)(hl:look sp gd=.t (.bool b))(hb:(b==w)=true)
  (hc:jm C (bX n sp) ⟨.value fo,args,ats⟩=some (g,va))(hn:S.Nodup)(h1:TV.vR (QO S) va=some vc)(h2:jf H S S=some os)
  (he:ev g vc os=some (.ret v os' news))(h3:v.rn (kX S t)=some v')(h4:iC S t S os'=some h)(h5:gJ S t news=some h')(k:au C ops r ⟨bX n ((d,v')::sp),H.dJ (h++h'),t+1⟩ Q):
  au C ops (⟨some d,.call ⟨.value fo,args,ats⟩,ty,pos,af,some (j,w)⟩::r) ⟨bX n sp,H,t⟩ Q:=k.imp fun _ k=>eH.Jl ai (by rw[jO rfl hj hb1,hl];simp only[hb]) hc hn h1 h2 he h3 h4 h5 k
end
theorem Fv {S:List Nm}{t:Nat}{p:List Nat}{g:TypeId×Bool}{bR:Nat}{fz:Bool}{ts:List Tree}:gJ S t [(.loc p,.arr g bR fz (ts.map .t))]=some [(.loc (t::p),.arr g bR fz (ts.map .t))]:=by
 simp only[gJ,kX,aQ.rn,kQ,Option.map_some]
theorem yo {H:Heap}{k:Nm}{S:List Nm}{g:TypeId×Bool}{bR:Nat}{fz:Bool}{ts:List Tree}(h:H.get k=some (.arr g bR fz (ts.map .t))):jf H S [k]=some [.arr g bR fz (ts.map .t)]:=by
 simp only[jf,h,aQ.rn,kQ,Option.map_some]
end Go.Abs
end

noncomputable section
namespace Go.Abs
open Go
set_option linter.unusedVariables false
def SM (es:List (TV×TV×Nat)):Prop:=∀e∈es,∃(s:List UInt8) (n:Int) (b:Nat),e=(.t (.str s),.t (.int .i64 n),b)
theorem SM.nil:SM []:=fun _ h=>by cases h
theorem SM.app {es:List (TV×TV×Nat)}(h:SM es)(s:List UInt8)(n:Int)(b:Nat):SM (es++[(.t (.str s),.t (.int .i64 n),b)]):=fun e he=>by
 rcases List.mem_append.1 he with he|he
 · exact h e he
 · simp only[List.mem_singleton] at he;exact⟨s,n,b,he⟩
theorem SM.set {es:List (TV×TV×Nat)}(h:SM es)(i:Nat)(s:List UInt8)(n:Int)(b:Nat):SM (es.set i (.t (.str s),.t (.int .i64 n),b)):=fun e he=>by
 rcases List.mem_or_eq_of_mem_set he with he|he
 · exact h e he
 · exact⟨s,n,b,he⟩
theorem GP {σ:Nm→Option Nm}{es:List (TV×TV×Nat)}{c:Nat}(h:SM es):aQ.rn σ (.map es c)=some (.map es c):=by
 have:Wx σ es=some es:=by
  induction es with
  |nil=>rfl
  |cons e r ih=>
   obtain⟨s,n,b,rfl⟩:=h e List.mem_cons_self
   simp only[Wx,TV.rn,ih fun e he=>h e (List.mem_cons_of_mem _ he)]
 simp only[aQ.rn,this,Option.map_some]
theorem SU (a b:ByteArray):(a==b)=(a.data==b.data):=by cases a;cases b;rfl
theorem P3 (P:kK)(kt:TypeId)(s k:List UInt8):Is P kt .string (.t (.str s)) (.t (.str k))=some ((⟨s.toArray⟩:ByteArray)==⟨k.toArray⟩):=rfl
theorem C6 {P:kK}{kt:TypeId}{s:List UInt8}:∀{es:List (TV×TV×Nat)},SM es→∀i,∃r,j5 P kt .string (.t (.str s)) es i=some r∧∀j v b,r=some (j,v,b)→∃n:Int,v=.t (.int .i64 n)
  | [],_,i=>⟨none,rfl,fun _ _ _ h=>by cases h⟩
  | e ::es,h,i=>by
    obtain⟨k,n,b,rfl⟩:=h e List.mem_cons_self
    unfold j5
    rw[P3]
    by_cases hs:((⟨s.toArray⟩:ByteArray)==⟨k.toArray⟩)=true
    · rw[hs]
      have e1:(⟨s.toArray⟩:ByteArray)=⟨k.toArray⟩:=by rw[SU] at hs;exact congrArg ByteArray.mk (eq_of_beq hs)
      have e2:Instr.sameBits 10000 (.string ⟨k.toArray⟩) (.string ⟨s.toArray⟩)=true:=by rw[e1];show((⟨k.toArray⟩:ByteArray)==⟨k.toArray⟩)=true;rw[SU];exact beq_self_eq_true _
      refine⟨some (i,.t (.int .i64 n),b), ?_,fun j v b' h=>by cases h;exact⟨n,rfl⟩⟩
      show(if Instr.sameBits 10000 (.string ⟨k.toArray⟩) (.string ⟨s.toArray⟩)=true then _ else _)=_
      rw[if_pos e2]
    · rw[Bool.not_eq_true] at hs
      rw[hs]
      exact C6 (fun e he=>h e (List.mem_cons_of_mem _ he)) (i+1)
section
variable {C:dh}{ty kt et:TypeId}{ti tk te:TI}{s:List UInt8}{es:List (TV×TV×Nat)}
variable {ev:aS}{f:FuncId}{H:Heap}{n:Nat}{sp:List (Nat×TV)}{t:Nat}{d:Option Tmp}
end
end Go.Abs
end

noncomputable section
namespace Go.Abs
open Go
set_option linter.unusedVariables false
def Xb:TV→Option Tree
 |.t x=>some x
 |.bl=>some (.sl [])
 |.k5 l=>some (.sl l)
 |_=>none
def L3:List TV→Option (List Tree)
 | []=>some []
 |c::r=>match Xb c,L3 r with
  |some x,some xs=>some (x::xs)
  |_,_=>none
def ad1:TV→Option Tree
 |.agg cs=>(L3 cs).map .agg
 |v=>Xb v
theorem Xc {G:Gh}{v:TV}{y:Tree}{x:Value}(hd:Xb v=some y)(h:VR G v x):VT G.F y x:=by
 cases h with
 |t x v h=>cases hd;exact h
 |bl=>cases hd;exact .vO none 0
 |k5 es a h=>cases hd;exact h
 |_=>cases hd
theorem NG {G:Gh}:∀{cs:List TV} {ys:List Tree} {vs:List Value},L3 cs=some ys→vs.length=cs.length→(∀(j:Nat) c v,cs[j]?=some c→vs[j]?=some v→VR G c v)→vs.length=ys.length∧∀(j:Nat) c v,ys[j]?=some c→vs[j]?=some v→VT G.F c v
 | [],ys,vs,hd,hl,h=>by
  cases hd
  exact⟨hl,fun j c v hc=>by simp at hc⟩
 |c::r,ys,[],hd,hl,h=>by simp at hl
 | c::r,ys,v::vs,hd,hl,h=>by
  unfold Go.Abs.L3 at hd
  cases h1:Go.Abs.Xb c with
  |none=>rw[h1] at hd;cases hd
  | some x=>
   cases h2:Go.Abs.L3 r with
   |none=>rw[h1,h2] at hd;cases hd
   |some xs=>
    rw[h1,h2] at hd
    cases hd
    obtain⟨l1,l2⟩:=NG (G:=G) (vs:=vs) h2 (by simpa using hl) (fun j c v hc hv=>h (j+1) c v (by simpa using hc) (by simpa using hv))
    refine⟨by simp[l1],fun j d u hd hu=> ?_⟩
    cases j with
    |zero=>simp at hd hu;subst hd;subst hu;exact Xc h1 (h 0 c v rfl rfl)
    |succ j=>simp at hd hu;exact l2 j d u hd hu
theorem aaH {G:Gh}{v:TV}{y:Tree}{x:Value}(hd:ad1 v=some y)(h:VR G v x):VR G (.t y) x:=by
 cases h with
 |t x v h=>cases hd;exact .t _ _ h
 |bl=>cases hd;exact .t _ _ (.vO none 0)
 |k5 es a h=>cases hd;exact .t _ _ h
 | agg cs vs hl h=>
  have hd:(Go.Abs.L3 cs).map Tree.agg=some y:=hd
  cases h2:Go.Abs.L3 cs with
  |none=>rw[h2] at hd;cases hd
  |some ys=>
   rw[h2] at hd
   cases hd
   obtain⟨l1,l2⟩:=NG h2 hl h
   exact .t _ _ (.agg ys vs l1 l2)
 |_=>cases hd
theorem Re.dat {C:dh}{n:Nat}{sp:List (Nat×TV)}{H:Heap}{t:Nat}(i:Nat){v:TV}{y:Tree}(hi:look sp i=v)(hd:ad1 v=some y):Re C ⟨bX n sp,H,t⟩ ⟨bX n ((i,.t y)::sp),H,t⟩:=fun _ _ G _ w a hs hst=>by
  refine⟨G,hs,⟨hst.wf,hst.iT, ?_,hst.heap,hst.fresh⟩⟩
  have h:=hst.slots
  refine⟨by have:=h.1;simpa [eS] using this,fun j c u hc hu=> ?_⟩
  have hj:j<n:=by
    have:=(List.getElem?_eq_some_iff.1 hc).1
    rwa [eS] at this
  rw[kD hj,kP] at hc
  by_cases e:j=i
  · subst e
    rw[if_pos rfl] at hc
    cases hc
    exact aaH (by rw[← hi] at hd;exact hd) (h.2 j _ u (kD hj) hu)
  · rw[if_neg e] at hc
    cases hc
    exact h.2 j _ u (kD hj) hu
theorem Re.og {C:dh}{n:Nat}{sp:List (Nat×TV)}{H:Heap}{t:Nat}(i:Nat){v:TV}{m:Nat}{x:Tree}{ks:List Nm}(hi:look sp i=v)(hf:Go.Abs.og H m v=some (x,ks)):Re C ⟨bX n sp,H,t⟩ ⟨bX n ((i,.t x)::sp),H.dJ (cZ H ks),t⟩:=fun _ _ G w a _ hs hst=>by
  have uw:=gY hst.wf hst.heap ks
  refine⟨G.frozen w H ks,dG.comp hs (uw.mono (fun _ _ _=>trivial) (fun _ h=>h.elim)),⟨uw.wf,hst.iT.mono uw.le, ?_,HR.dJ uw hst.wf hst.heap (fun k o hm=>oh hst.wf hst.heap hm) (fun k _ hk=>jN hk.1 hk.2),fun p d=>hst.fresh p (by
    rcases uw.news _ d with d|d
    · exact d
    · exact d.elim)⟩⟩
  have h:=hst.slots
  refine⟨by have:=h.1;simpa [eS] using this,fun j c u hc hu=> ?_⟩
  have hj:j<n:=by
    have:=(List.getElem?_eq_some_iff.1 hc).1
    rwa [eS] at this
  rw[kD hj,kP] at hc
  by_cases e:j=i
  · subst e
    rw[if_pos rfl] at hc
    cases hc
    exact .t _ _ (zQ hst.wf hst.heap ks m v x ks u hf (fun _ h=>h) (by rw[← hi];exact h.2 j _ u (kD hj) hu))
  · rw[if_neg e] at hc
    cases hc
    exact(h.2 j _ u (kD hj) hu).mono uw.le
theorem Re.Xd {C:dh}{n:Nat}{sp:List (Nat×TV)}{H:Heap}{t:Nat}{k:Nm}{ty:TypeId}{cs:List TV}(j:Nat){v:TV}{m:Nat}{x:Tree}{ks:List Nm}(hk:H.get k=some (.cells ty cs))(hj:cs[j]?=some v)(hf:Go.Abs.og H m v=some (x,ks)):
    Re C ⟨bX n sp,H,t⟩ ⟨bX n sp,(H.dJ (cZ H ks)).dJ [(k,.cells ty (cs.set j (.t x)))],t⟩:=fun _ _ G w a _ hs hst=>by
  have uw:=gY hst.wf hst.heap ks
  obtain⟨hd,ho⟩:=hst.heap k _ hk
  have zH:=uw.keeps hst.wf hd (fun⟨_,g,e,fz,c,h⟩=>by rw[hk] at h;cases h) ho
  have QW:HR (G.frozen w H ks) w (H.dJ (cZ H ks)):=HR.dJ uw hst.wf hst.heap (fun k o hm=>oh hst.wf hst.heap hm) (fun k _ hk=>jN hk.1 hk.2)
  refine⟨G.frozen w H ks,dG.comp hs (uw.mono (fun _ _ _=>trivial) (fun _ h=>h.elim)),⟨uw.wf,hst.iT.mono uw.le,cK.mono uw.le hst.slots, ?_,fun p d=>hst.fresh p (by
    rcases uw.news _ d with d|d
    · exact d
    · exact d.elim)⟩⟩
  refine HR.dJ (W:=fun _=>False) (N:=fun _=>False) (Step.refl uw.wf _ _) uw.wf QW (fun k' o hm=> ?_) (fun _ _ h=>h.elim)
  simp only[List.mem_singleton,Prod.mk.injEq] at hm
  obtain⟨rfl,rfl⟩:=hm
  obtain⟨ha,vs,ty',fr,hh,ht,hv,hF⟩:=zH
  obtain⟨_,vs0,ei,fr0,hh0,_,hv0,_⟩:=ho
  have Ii:w.heap[G.mu k']?=some (.cells vs ty' fr):=hh
  rw[hh0] at Ii
  cases Ii
  refine⟨uw.le.dom _ hd,ha,vs,ty',fr,hh,ht,⟨by rw[List.length_set];exact hv.1,fun i c u hc hu=> ?_⟩,hF⟩
  by_cases e:i=j
  · subst e
    have hi:i<cs.length:=(List.getElem?_eq_some_iff.1 hj).1
    rw[List.getElem?_set_self hi] at hc
    cases hc
    exact .t _ _ (zQ hst.wf hst.heap ks m v x ks u hf (fun _ h=>h) (hv0.2 i v u hj hu))
  · rw[List.getElem?_set_ne (fun h=>e h.symm)] at hc
    exact hv.2 i c u hc hu
end Go.Abs
end

noncomputable section
namespace Go.Abs
open Go
set_option linter.unusedVariables false
section
variable {C:dh}{ev:aS}{f:FuncId}{n:Nat}{sp:List (Nat×TV)}{H:Heap}{t:Nat}{d:Option Tmp}
theorem Y0 {x:Operand}{v:TV}(h:bO C n sp x=some v)(hn:EM v=true):cq C ev f H n sp t d (.nilCheck x) v []:=fun _ _ _ _=>by
 simp only[aX,evalOp,bL h,hn,if_true]
end
theorem Jm {S:List Nm}{t:Nat}{k:Nm}{g:TypeId×Bool}{bR:Nat}{fz:Bool}{ts:List Tree}:iC S t [k] [.arr g bR fz (ts.map .t)]=some [(k,.arr g bR fz (ts.map .t))]:=by
 simp only[iC,aQ.rn,kQ,Option.map_some]
theorem eH.re {C:dh}{ops:Array Oper}{l:List Oper}{st st':St}{Q:aV→St→Prop}(hr:Re C st st')(h:eH C ops l st' Q):eH C ops l st Q:=fun G0 w0 G w a h0 hs hst=>by
 obtain⟨G',hs',nG⟩:=hr G0 w0 G w a h0 hs hst
 exact h G0 w0 G' w a h0 hs' nG
theorem au.re {R:Type}{C:dh}{ops:Array Oper}{l:List Oper}{st st':St}{Q:R→aV→St→Prop}(hr:Re C st st')(h:au C ops l st' Q):au C ops l st Q:=h.imp fun _ h=>eH.re hr h
theorem C7:∀{a b:List Tree},a.map TV.t=b.map TV.t→a=b
 | [],[],_=>rfl
 |x::a,y::b,h=>by
  simp only[List.map_cons,List.cons.injEq,TV.t.injEq] at h
  rw[h.1,C7 h.2]
 | [],_::_,h=>by simp at h
 |_::_,[],h=>by simp at h
def RM (C:dh)(g:FuncId)(Ae:List aQ)(xs:List Tree)(y:Tree):Prop:=ay C g (.ptr (.arg 0) 0::xs.map .t) Ae (.ret (.t y) Ae [])
open Classical in
def pm (Ae:List aQ)(P:List Tree→Prop)(F:List Tree→Tree):List TV→List aQ→Option bG:=fun vb os=>
 if h:∃xs,vb=.ptr (.arg 0) 0::xs.map .t∧os=Ae∧P xs then some (.ret (.t (F h.choose)) Ae []) else none
theorem SV {C:dh}{g:FuncId}{Ae:List aQ}{P:List Tree→Prop}{F:List Tree→Tree}(h:∀xs,P xs→RM C g Ae xs (F xs)):j7 C g (pm Ae P F):=fun a o r hr=>by
  unfold pm at hr
  split at hr
  · rename_i hx
    cases hr
    have hsp:=hx.choose_spec
    generalize hx.choose=xs at hsp
    obtain⟨rfl,rfl,e3⟩:=hsp
    exact h xs e3
  · cases hr
theorem Xe {ev:aS}{g:FuncId}{Ae:List aQ}{P:List Tree→Prop}{F:List Tree→Tree}(h:Has ev g (pm Ae P F))(xs:List Tree)(hp:P xs):ev g (.ptr (.arg 0) 0::xs.map .t) Ae=some (.ret (.t (F xs)) Ae []):=h _ _ _ (by
 have hx:∃ys:List Tree,TV.ptr (.arg 0) 0::xs.map TV.t=.ptr (.arg 0) 0::ys.map .t∧Ae=Ae∧P ys:=⟨xs,rfl,rfl,hp⟩
 unfold pm
 rw[dif_pos hx]
 obtain⟨e1,_,_⟩:=hx.choose_spec
 rw[← C7 (List.cons.inj e1).2])
end Go.Abs
end
