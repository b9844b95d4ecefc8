/- slices.Sorted(slices.Values(l)) at texts: the list in order; what lay before stays. -/
import Derived.RangeFuncBox
import Derived.RangeFuncLeaves
import Derived.Shelf.Abstract
import Derived.WalkKit
import Derived.OwnWalkIn
import Derived.TacticsInMore
import Derived.LoopNIn
import Derived.LoopIn
import Derived.Lib.RowBridge
import Derived.Shelf.SlIter.Sorted
import Derived.Shelf.SortM.Plain
import Derived.Shelf.SortM.SortNone
import Derived.Test.YtacmmaaabfhhoaaGreatDoorSeq
import Derived.Test.YtacmmaaabfhhoaaGreatDoorShelf
import Derived.Test.YtacmmaaabfhhoaaGreatDoorN
import Derived.Test.YtacmmaaabfhhoaaGreatDoorX
import Derived.Test.YtacmmaaabfhhoaaGreatDoorG
import Derived.Test.YtacmmaaabfhhoaaGreatDoorR
set_option linter.unusedVariables false
set_option linter.unusedSimpArgs false
namespace Go.Proofs.YtacmmaaabfhhoaaGreatDoor.w
open Go Go.Abs Go.RowKit Go.Maps Go.Sort Go.Shelf
attribute [local go_sem] Oper.semAt_some
def upto {α:Type}(f:Nat->α)(k:Nat):List α:=(List.range k).map f
theorem Ov {α:Type}(f:Nat->α)(k:Nat):upto f (k+1)=upto f k++[f k]:=by simp[upto,List.range_succ]
theorem I5 {α:Type}(f:Nat->α)(k:Nat):(upto f k).length=k:=by simp[upto]
theorem Sj (zs:List (List UInt8)):upto (λj=>zs[j]?.getD []) zs.length=zs:=by
 apply List.ext_getElem
 ·simp[upto]
 ·intro i h1 h2;simp[upto,h2]
set_option maxRecDepth 100000 in
set_option maxHeartbeats 2000000 in
theorem Wj (n:Nat)(l Bs n₀ b off len cap:Nat)(zs:List (List UInt8))(afH:len<=4194304)(hb:b<n₀)(J:List (List UInt8)->World->Prop)
 (hY:∀pre x W,J pre W->pre.length<len->YieldAt Fence.wide (n - 1) Tryz.prog l #[encStr x] W λe W'=>e=.returned (.bool true)/\J (pre++[x]) W'/\Below n₀ W W')
 (W:World)(Yf:W.cell? ⟨Bs,0,none⟩=some (.slice (some ⟨b,off,none⟩) len cap))(hc:∀j,j<len->W.cell? ⟨b,off+j,none⟩=some (encStr (zs[j]?.getD [])))(h0:J [] W):
 CallsIn Fence.wide n Tryz.prog 199 #[.func (.yield l) #[] #[],.pointer (some ⟨Bs,0,none⟩)] W λe W'=>(∃v,e=.returned v)/\J (upto (λj=>zs[j]?.getD []) len) W':=by
 refine callsIn_of_wp Tryz.func199 rfl trivial ?_ rfl
 simp only[Tryz.ntmps199,List.size_toArray,List.length_cons,List.length_nil,Nat.reduceAdd,Nat.reduceSub,Array.replicate_succ,Array.replicate_zero,List.push_toArray,List.append_toArray,List.nil_append,List.cons_append]
 gi_wp2
 gi_loopw [7] (λi wr=>∃k:Nat,k<=len/\i=.int .i64 k/\J (upto (λj=>zs[j]?.getD []) k) wr/\Below n₀ W wr)
  (λi _=>len - (intOf i).toNat)
 case atStart=>exact⟨0,Nat.zero_le _,rfl,h0,Below.refl _ _⟩
 case round=>
  obtain⟨k,hk,rfl,hJs,Hq⟩:=hrel
  have hcx:k<len->wr.cell? ⟨b,off+k,none⟩=some (encStr (zs[k]?.getD [])):=λh=>(Hq.cell (p:=⟨b,off+k,none⟩) hb).trans (hc k h)
  by_cases hlt:k<len
  ·obtain⟨fn,tmps,assign,body,hy,hR⟩:=hY _ (zs[k]?.getD []) wr hJs (by rw[I5];exact hlt);have ajF:=hcx hlt;gi_wp2;refine⟨λh=>by simp[Fence.wide] at h,hR.mono ?_⟩;rintro e W3 ⟨rfl,hJ3,hk3⟩;gi_wp2;go_roundw;case rel=>exact⟨k+1,by omega,by simp,by rw[Ov];exact hJ3,Hq.trans hk3⟩
   case measure=>simp[intOf];omega
  ·obtain rfl:k=len:=by omega
   gi_wp2;go_end0;exact⟨⟨_,rfl⟩,hJs⟩
set_option maxRecDepth 100000 in
set_option maxHeartbeats 1000000 in
theorem Gy (n:Nat)(l Bs:Nat)(p:Option Addr)(cap:Nat)(J:List (List UInt8)->World->Prop)(W:World)(Yf:W.cell? ⟨Bs,0,none⟩=some (.slice p 0 cap))(h0:J [] W):
 CallsIn Fence.wide n Tryz.prog 199 #[.func (.yield l) #[] #[],.pointer (some ⟨Bs,0,none⟩)] W λe W'=>(∃v,e=.returned v)/\J [] W':=by
 refine callsIn_of_wp Tryz.func199 rfl trivial ?_ rfl
 simp only[Tryz.ntmps199,List.size_toArray,List.length_cons,List.length_nil,Nat.reduceAdd,Nat.reduceSub,Array.replicate_succ,Array.replicate_zero,List.push_toArray,List.append_toArray,List.nil_append,List.cons_append]
 gi_wp2
 gi_loopw [7] (λi wr=>i=.int .i64 0/\J [] wr) (λ_ _=>0)
 case atStart=>exact⟨rfl,h0⟩
 case round=>
  obtain⟨rfl,hJs⟩:=hrel
  gi_wp2
  go_end0
  exact⟨⟨_,rfl⟩,hJs⟩
def MG (n₀:Nat)(n:Nat)(g:FuncId)(lb:Array Value)(zs:List (List UInt8))(w:World):Prop:=
 ∀(l:Nat) (J:List (List UInt8)->World->Prop) (W:World),Below w.heap.size w W->
  (∀pre x W1,J pre W1->pre.length<zs.length->YieldAt Fence.wide (n - 1) Tryz.prog l #[encStr x] W1 λe W'=>e=.returned (.bool true)/\J (pre++[x]) W'/\Below n₀ W1 W')->
  J [] W->CallsIn Fence.wide n Tryz.prog g (#[.func (.yield l) #[] #[]]++lb) W λe W'=>(∃v,e=.returned v)/\J zs W'
theorem Lc (n:Nat)(Bs:Nat)(sv:Value)(zs:List (List UInt8))(hz:zs.length<=4194304)(w:World)(Yf:Bs<w.heap.size)(hc:w.cell? ⟨Bs,0,none⟩=some sv)
 (hI:(∃p cap,sv=.slice p 0 cap/\zs=[])\/∃b off cap,sv=.slice (some ⟨b,off,none⟩) zs.length cap/\b<w.heap.size/\∀j,j<zs.length->w.cell? ⟨b,off+j,none⟩=some (encStr (zs[j]?.getD []))):
 MG w.heap.size n 199 #[.pointer (some ⟨Bs,0,none⟩)] zs w:=λl J W hW hY h0=>by
 have hc':=(hW.cell (p:=⟨Bs,0,none⟩) Yf).trans hc
 rcases hI with ⟨p,cap,rfl,rfl⟩|⟨b,off,cap,rfl,hb,hcs⟩
 ·exact Gy n l Bs p cap J W hc' h0
 ·have:=Wj n l Bs w.heap.size b off zs.length cap zs hz hb J hY W hc' (λj hj=>(hW.cell (p:=⟨b,off+j,none⟩) hb).trans (hcs j hj)) h0;rw[Sj] at this;exact this
theorem Sk {B:Nat}{w a c:World}(h:Below B w a)(k:Below B w c)(hs:a.heap.size<=c.heap.size):Below B a c:=
 ⟨k.os.trans h.os.symm,k.tape.trans h.tape.symm,k.output.trans h.output.symm,hs,λi hi=>(k.block i hi).trans (h.block i hi).symm⟩
abbrev sr:Ren:=Tryz.sorted160_ren
set_option maxRecDepth 100000 in
set_option maxHeartbeats 2000000 in
theorem Gz (n:Nat)(hn:2<=n)(g:Nat)(lb:Array Value)(eg:∀args w,(callFunc g args).run Tryz.prog w=.ok (.enter g args) w)(zs:List (List UInt8))(hz:zs.length<=4194304)(w:World)(hseq:MG w.heap.size (n - 1) g lb zs w):
 CallsIn Fence.wide n Tryz.prog (sr.f 11) #[.slice none 0 0,.func (.func g) #[] lb] w λe w'=>∃v,e=.returned v/\w'.ownsRow w.heap.size (sr.t 26) 1 v zs.length (zs.map encStr)/\(v=.slice none 0 0↔zs=[])/\Below w.heap.size w w':=by
 have L:SlLaysZ.n11 Tryz.prog sr:={Tryz.sorted160 with}
 have mixed:=L.mixed;have t0:=L.t0;have a0:=L.a0;have z0:=L.z0;have v0:=L.v0;have t24:=L.t24;have a24:=L.a24;have z24:=L.z24;have v24:=L.v24;have t26:=L.t26;have a26:=L.a26;have z26:=L.z26;have v26:=L.v26;have t28:=L.t28;have a28:=L.a28;have z28:=L.z28;have v28:=L.v28
 have hne:sr.t 24≠sr.t 26:=λe=>by have h:=L.t24;rw[e,L.t26] at h;cases h
 have u0:=run_underlying L.t0;have u24:=run_underlying L.t24;have u26:=run_underlying L.t26;have u28:=run_underlying L.t28
 obtain⟨_,_,FG⟩:=L.f11
 refine callsIn_of_wp_marks FG rfl trivial ?_ rfl
 simp only[SlBodyZ.n11_ntmps sr,List.size_toArray,List.length_cons,List.length_nil,Nat.reduceAdd,Nat.reduceSub,Array.replicate_succ,Array.replicate_zero,List.push_toArray,List.append_toArray,List.nil_append,List.cons_append]
 gi_wp2
 refine wpIn_rangeFunc λfn _=> ?_
 obtain⟨A,hA⟩:∃A,A=w.alloc (.cells #[.slice none 0 0] (sr.t 24)):=⟨_,rfl⟩
 obtain⟨rec,Vr⟩:∃rec,rec=AnyZ.apRec sr fn (.func (.func g) #[] lb) w.heap.size A.heap.size .ready none:=⟨_,rfl⟩
 obtain⟨Z,hZ⟩:∃Z,Z=(A.alloc (.deferred (some []))).alloc (.loop rec):=⟨_,rfl⟩
 have sA:A.heap.size=w.heap.size+1:=by rw[hA];simp
 have cA:A.heap[w.heap.size]?=some (.cells #[.slice none 0 0] (sr.t 24) (0,0)):=by rw[hA];exact World.alloc_heap_new w _
 have bA:Below w.heap.size w A:=by rw[hA];exact(Below.refl _ w).alloc (Nat.le_refl _) _
 have afI:∀k,k<A.heap.size->Z.heap[k]?=A.heap[k]?:=λk hk=>by
  rw[hZ];exact(Below.heap_alloc _ _ k (by simp;omega)).trans (Below.heap_alloc _ _ k hk)
 have bZ:Below w.heap.size w Z:=by
  rw[hZ];exact(bA.alloc bA.size _).alloc (by have:=bA.size;simp;omega) _
 have lZ:Z.heap[A.heap.size+1]?=some (.loop rec):=by
  rw[hZ];have:=World.alloc_heap_new (A.alloc (.deferred (some []))) (.loop rec);rwa [World.size_alloc] at this
 have dZ:Z.heap[A.heap.size]?=some (.deferred (some [])):=by
  rw[hZ];exact(Below.heap_alloc _ _ _ (by simp)).trans (World.alloc_heap_new A _)
 have start:AnyZ.ApAt sr w fn (.func (.func g) #[] lb) w.heap.size (A.heap.size+1) A.heap.size [] Z:=
  ⟨⟨_,(afI w.heap.size (by omega)).trans cA,⟨rfl,.inl ⟨rfl,rfl⟩⟩,by simp⟩,by rw[lZ,Vr],dZ,bZ⟩
 refine⟨A.heap.size+1,[{target:=.collected A.heap.size,args:= #[]}],Z,{target:=.fn (.func g) lb,args:= #[.func (.yield (A.heap.size+1)) #[] #[]]},Z,g,
  #[.func (.yield (A.heap.size+1)) #[] #[]]++lb,Z, ?_, ?_,λ_ _=>trivial, ?_,λ_=>by omega, ?_⟩
 ·rw[hZ,Vr,hA];exact run_enterLoop_outer _ _ _ _ _
 ·simp[resolve,go_sem]
 ·simp[invoke,go_sem,eg]
 ·refine(hseq (A.heap.size+1) (AnyZ.ApAt sr w fn (.func (.func g) #[] lb) w.heap.size (A.heap.size+1) A.heap.size) Z bZ (λpre x W hJ hlt=> ?_) start).mono ?_
  ·have hy:=AnyZ.apYield L Fence.wide (n - 1 - 1) w fn trivial (.func (.func g) #[] lb) w.heap.size (A.heap.size+1) A.heap.size (by omega) (by omega) (by omega) (Nat.le_refl _) (by omega) zs.length (Nat.le_trans hz (by decide)) (by omega) pre x W hJ hlt;exact hy.mono λe W' h=>⟨h.1,h.2.1,Sk hJ.below h.2.1.below h.2.2.size⟩
  ·rintro e W2 ⟨⟨r0,rfl⟩,h2⟩;obtain⟨v,hv,hrow,hnil⟩:=h2.box;have hend:=run_endLoop (P:=Tryz.prog) h2.L (by simp[AnyZ.apRec]);obtain⟨V,hV⟩:∃V,V=W2.putObj (A.heap.size+1) (.loop {AnyZ.apRec sr fn (.func (.func g) #[] lb) w.heap.size A.heap.size .ready none with state:=.exhausted}):=⟨_,rfl⟩;rw[← hV] at hend;have gV:W2.grownBy V (some (A.heap.size+1)):=by rw[hV];exact grownBy_putObj_a _ _ _
   have cV:V.heap[w.heap.size]?=some (.cells #[v] (sr.t 24) (0,0)):=by rw[hV];exact(World.putObj_heap_other (by omega)).trans hv
   have dV:V.heap[A.heap.size]?=some (.deferred (some [])):=by rw[hV];exact(World.putObj_heap_other (by omega)).trans h2.K
   have rV:=hrow.kept gV (ownsRow_ne_a hrow h2.L (λcur e=>by first|cases e|exact hne (Obj.cells.inj e).2.1));have bV:Below w.heap.size w V:=h2.below.grown gV h2.below.size (λk e=>by cases e;omega);obtain⟨cW,hf3⟩:=cell_of_box_a cV;clear hV;refine⟨none,V,hend, ?_⟩;gi_wp2;rw[← sA];refine⟨by simp,.inl ⟨_,_,rfl,run_takeDeferred dV, ?_⟩⟩;exact⟨_,results_tmp rfl _ _ _,v,rfl,rV.kept (grownBy_putObj_a _ _ _) (ownsRow_ne_a rV dV (λcur e=>by first|cases e|exact hne (Obj.cells.inj e).2.1)),hnil,bV.grown (grownBy_putObj_a _ _ _) bV.size (λk e=>by cases e;omega)⟩
set_option maxHeartbeats 1000000 in
theorem DJ (n:Nat)(hn:3<=n)(g:Nat)(lb:Array Value)(eg:∀args w,(callFunc g args).run Tryz.prog w=.ok (.enter g args) w)(zs:List (List UInt8))(hz:zs.length<=4194304)(w:World)(hseq:MG w.heap.size (n - 1 - 1) g lb zs w):
 CallsIn Fence.wide n Tryz.prog 197 #[.func (.func g) #[] lb] w λe w'=>∃v,e=.returned v/\w'.ownsRow w.heap.size (sr.t 26) 1 v zs.length (zs.map encStr)/\(v=.slice none 0 0↔zs=[])/\Below w.heap.size w w':=by
 have e11:∀args w,(callFunc 228 args).run Tryz.prog w=.ok (.enter 228 args) w:=enters_of Tryz.func228 (by kernel_rfl) rfl
 refine callsIn_of_wp Tryz.func197 rfl trivial ?_ rfl
 simp only[Tryz.ntmps197,List.size_toArray,List.length_cons,List.length_nil,Nat.reduceAdd,Nat.reduceSub,Array.replicate_succ,Array.replicate_zero,List.push_toArray,List.append_toArray,List.nil_append,List.cons_append]
 gi_wp2_with (refine⟨trivial,λh=>by simp[Fence.wide] at h, ?_⟩;refine(Gz (n - 1) (by omega) g lb eg zs hz _ hseq).mono ?_;rintro e w' ⟨v,rfl,hrow,hnil,hb⟩)
 go_ret
 exact⟨v,rfl,hrow,hnil,hb⟩
set_option maxRecDepth 100000 in
set_option maxHeartbeats 2000000 in
theorem GA (n:Nat)(hn:4<=n)(g:Nat)(lb:Array Value)(eg:∀args w,(callFunc g args).run Tryz.prog w=.ok (.enter g args) w)(zs:List (List UInt8))(hz:zs.length<=4194304)(w:World)(hseq:MG w.heap.size (n - 1 - 1 - 1) g lb zs w):
 CallsIn Fence.wide n Tryz.prog 160 #[.func (.func g) #[] lb] w λe w'=>∃v,e=.returned v/\w'.ownsRow w.heap.size (sr.t 26) 1 v zs.length ((zs.mergeSort (λx y=>decide (x<=y))).map encStr)/\(v=.slice none 0 0↔zs=[])/\Below w.heap.size w w':=by
 have e8:∀args w,(callFunc 197 args).run Tryz.prog w=.ok (.enter 197 args) w:=enters_of Tryz.func197 (by kernel_rfl) rfl
 have e9:∀args w,(callFunc 198 args).run Tryz.prog w=.ok (.enter 198 args) w:=enters_of Tryz.func198 (by kernel_rfl) rfl
 refine callsIn_of_wp Tryz.func160 rfl trivial ?_ rfl
 simp only[Tryz.ntmps160,List.size_toArray,List.length_cons,List.length_nil,Nat.reduceAdd,Nat.reduceSub,Array.replicate_succ,Array.replicate_zero,List.push_toArray,List.append_toArray,List.nil_append,List.cons_append]
 gi_wp2_with (refine⟨trivial,λh=>by simp[Fence.wide] at h, ?_⟩;refine(DJ (n - 1) (by omega) g lb eg zs hz _ hseq).mono ?_;rintro e W ⟨v,rfl,hrow,hnil,hb⟩)
 rcases hrow.2 with ⟨rfl,hzero⟩|⟨gb,cap,cur,rfl,hbase,hgb,r1,r2,r3,r4⟩
 ·have hzs:zs=[]:=List.eq_nil_of_length_eq_zero hzero;subst hzs;gi_wp2_with (refine⟨trivial,λh=>by simp[Fence.wide] at h, ?_⟩;refine(callsIn_wide.2 (AnyM.slices_Sort_string_none Tryz.sort198 none 0 W)).mono ?_;rintro e w' ⟨rfl,rfl⟩);go_ret;exact⟨.slice none 0 0,rfl,by simpa using hrow,by simp,hb⟩
 ·have hH:Holds encStr W gb 0 zs.toArray:=holds_of_block hgb (by simpa using r4);have hgl:gb<W.heap.size:=(Array.getElem?_eq_some_iff.1 hgb).1;have cS:CallsIn Fence.wide (n - 1) Tryz.prog 198 #[.slice (some ⟨gb,0,none⟩) zs.length cap] W _:=callsIn_wide.2 (AnyM.slices_Sort_string Tryz.sort198 gb 0 cap zs W hH hgl (by omega));gi_wp2_with (refine⟨trivial,λh=>by simp[Fence.wide] at h, ?_⟩;refine cS.mono ?_;rintro e w' ⟨rfl,nn,os,rfl⟩);go_ret;exact⟨_,rfl,ownsRow_sorted (by simp) hbase hgb r1 r2 r3,hnil,hb.grown (grownBy_sorted _) hb.size (λj hj=>by cases hj;exact hbase)⟩
theorem rY:∀(l:List (List UInt8)),flat (l.map .str)=l.map .str
 | []=>rfl
 |a::r=>by
  have:=rY r
  simp only[flat] at this
  simp[flat,Tree.cells,this]
def oe (zs:List (List UInt8)):List (List UInt8):=zs.mergeSort (λx y=>decide (x<=y))
theorem Ow {G:Gh}{w w':World}(hw:WF G w)(hb:Below w.heap.size w w'):Step (λ_=>False) (λ_=>False) G w G w':=by
 refine⟨.refl G,⟨λb o v hf=> ?_,hw.inj,λk d=>Nat.lt_of_lt_of_le (hw.lt k d) hb.size⟩,λ_ _ _=>⟨rfl,rfl⟩,λb hlt _=>⟨hb.block b hlt,λ_=>rfl⟩,λ_ d=>.inl d,λk d=>.inl ⟨k,d,rfl,.inl rfl⟩,hb.size,hb.os,hb.tape,hb.output⟩;obtain⟨us,ty,fr,h1,h2⟩:=hw.F b o v hf;exact⟨us,ty,fr,by rw[hb.block b (Array.getElem?_eq_some_iff.1 h1).1];exact h1,h2⟩
def Gh.newRow (G:Gh)(k0:Nm)(gb n cap:Nat):Gh:={F:=G.F,mu:=λk=>if k=k0 then gb else G.mu k,arr:=λk=>if k=k0 then some (n,1,cap) else G.arr k,dom:=λk=>k=k0\/G.dom k}
theorem I6 {G:Gh}{w w':World}(hw:WF G w)(hb:Below w.heap.size w w'){k0:Nm}(hk:k0.eR=true)(hno:¬G.dom k0){gb n cap:Nat}(hg:w.heap.size<=gb)(hlt:gb<w'.heap.size):
 Step (λ_=>False) (λk=>k.eR=true) G w (Gh.newRow G k0 gb n cap) w':=by
 have hne:∀k,G.dom k->¬k=k0:=λk hd e=>hno (e▸hd)
 refine⟨⟨λb o v h=>h,λk h=>.inr h,λk hd h=> ?_,λk n e c hd h=> ?_⟩,⟨λb o v hf=> ?_,λk k' d d' ea ea' e=> ?_,λk d=> ?_⟩,λk hd _=> ?_,λb hlt _=>⟨hb.block b hlt,λo=>rfl⟩,λk d=> ?_,λk d=> ?_,hb.size,hb.os,hb.tape,hb.output⟩
 ·simp only[Gh.newRow,if_neg (hne k hd)];exact⟨h,trivial⟩
 ·simp only[Gh.newRow,if_neg (hne k hd)];exact⟨n,e,c,h,Nat.le_refl _,λ_=>⟨rfl,rfl,by first|trivial|rfl⟩,.inl rfl⟩
 ·obtain⟨us,ty,fr,h1,h2⟩:=hw.F b o v hf;exact⟨us,ty,fr,by rw[hb.block b (Array.getElem?_eq_some_iff.1 h1).1];exact h1,h2⟩
 ·simp only[Gh.newRow] at d d' e;rcases d with rfl|d<;>rcases d' with rfl|d'
  ·rfl
  ·rw[if_pos rfl,if_neg (hne k' d')] at e;have:=hw.lt k' d';omega
  ·rw[if_pos rfl,if_neg (hne k d)] at e;have:=hw.lt k d;omega
  ·rw[if_neg (hne k d),if_neg (hne k' d')] at e;exact hw.inj k k' d d' (λn c x=>ea n c (by simp only[Gh.newRow,if_neg (hne k d)];exact x)) (λn c x=>ea' n c (by simp only[Gh.newRow,if_neg (hne k' d')];exact x)) e
 ·rcases d with rfl|d
  ·simp only[Gh.newRow,if_true];exact hlt
  ·simp only[Gh.newRow,if_neg (hne k d)];exact Nat.lt_of_lt_of_le (hw.lt k d) hb.size
 ·simp only[Gh.newRow,if_neg (hne k hd),and_self]
 ·rcases d with rfl|d
  ·exact .inr hk
  ·exact .inl d
 ·rcases d with rfl|d
  ·refine .inr ?_;simp only[Gh.newRow,if_true];exact hg
  ·refine .inl ⟨k,d, ?_,.inl rfl⟩;simp only[Gh.newRow,if_neg (hne k d)]
theorem EM (m:Int)(zs:List (List UInt8))(hz:zs.length<=4194304):
 ai (cf m) 160 [.fn (.func 199) [] [.ptr (.arg 0) 0]] [.cells 26 [.t (.sl (zs.map .str))]]
  (if zs=[] then .ret (.t (.sl [])) [.cells 26 [.t (.sl (zs.map .str))]] [] else .ret (.ref (.loc [0]) 0 zs.length) [.cells 26 [.t (.sl (zs.map .str))]] [(.loc [0],.arr (9,false) 1 false (((oe zs).map .str).map .t))]):=by
 intro G w vs hw hg had hH hv
 obtain⟨x,rfl,hx⟩:=hv.only
 obtain⟨q,rfl,hp⟩:∃q,x=.func (.func 199) #[] #[q]/\VR G (.ptr (.arg 0) 0) q:=by
  cases hx with
  | fn f fs cs vs ws hl h hl' h'=>
    match vs,ws,hl,hl' with
    | [],[q],_,_=>exact⟨q,rfl,h' 0 _ _ rfl rfl⟩
 obtain⟨hd,ho⟩:=hH (.arg 0) _ rfl
 obtain⟨ha,us,ty,fr,hh,_,mE,_⟩:=ho
 obtain rfl:q=.pointer (some ⟨G.mu (.arg 0),0,none⟩):=by cases hp;rfl
 obtain⟨sv,us',e,hsv,hr⟩:=mE.gQ
 have hcell:w.cell? ⟨G.mu (.arg 0),0,none⟩=some sv:=by
  unfold World.cell?;simp only[hh];have:us[0]?=some sv:=by rw[← Array.getElem?_toList,e];rfl
  simpa using this
 have hI :(∃p cap,sv=.slice p 0 cap/\zs=[])\/∃b off cap,sv=.slice (some ⟨b,off,none⟩) zs.length cap/\b<w.heap.size/\∀j,j<zs.length->w.cell? ⟨b,off+j,none⟩=some (encStr (zs[j]?.getD [])):=by
  cases hsv with|t _ _ hsv=>
  generalize hz':zs.map Tree.str=l at hsv;cases hsv with
  |zm a cap=>exact .inl ⟨a,cap,rfl,by simpa using hz'⟩
  | sl bE es b o cap vals hne hc hu hF L9=>
    subst hz'
    refine .inr ⟨b,o,cap,by simp, ?_,λj hj=> ?_⟩
    · cases zs with
      |nil=>simp at hne
      | cons z zs=>
        have h0:=hF 0 (.str z) (by rw[rY];rfl)
        obtain⟨_,_,_,h1,_⟩:=hw.F _ _ _ h0
        exact(Array.getElem?_eq_some_iff.1 h1).1
    · have hj':(flat (zs.map Tree.str))[j]?=some (.str zs[j]):=by rw[rY];simp[hj]
      have h1:=hF j _ hj'
      have h2:=L9 j _ hj'
      obtain⟨c0,t0,f0,h3,h4⟩:=hw.F _ _ _ h1
      generalize vals j=vj at h2 h4
      cases h2
      unfold World.cell?
      simp only[h3]
      simpa [hj,encStr] using h4
 have ab5:=Lc 3 (G.mu (.arg 0)) sv zs hz w (hw.lt _ hd) hcell hI
 have afJ:∀args w,(callFunc 199 args).run Tryz.prog w=.ok (.enter 199 args) w:=enters_of Tryz.func199 (by kernel_rfl) rfl
 have afK:∀args w,(callFunc 160 args).run Tryz.prog w=.ok (.enter 160 args) w:=enters_of Tryz.func160 (by kernel_rfl) rfl
 refine .inl ⟨afK _ _,Calls.mono (callsIn_wide.1 (GA 6 (by omega) _ _ afJ zs hz w ab5)) ?_⟩
 rintro e w' ⟨v,rfl,hrow,hnil,hb⟩
 by_cases hz0:zs=[]
 ·rw[if_pos hz0];obtain rfl:=hnil.2 hz0;have hst:=Ow hw hb;refine⟨_,G,rfl,hst.mono (λ_ _ h=>h.elim) (λ_ h=>h.elim),rfl,λi o ho=> ?_,λ_ _ h=>by simp at h,.t _ _ (.zm none 0)⟩;obtain⟨d,Fu⟩:=gJ hH i o ho;exact⟨d,hst.keeps hw d (λh=>h) Fu⟩
 ·rw[ if_neg hz0];rcases hrow.2 with ⟨_,hzero⟩|⟨gb,cap,cur,rfl,hbase,hgb,r1,r2,r3,r4⟩
  ·exact absurd (List.eq_nil_of_length_eq_zero hzero) hz0
  ·have hst:=I6 (n:=zs.length) (cap:=cap) hw hb (k0:=.loc [0]) rfl (had.2 [0]) hbase (Array.getElem?_eq_some_iff.1 hgb).1;have afL:∀o,G.F gb o=none:=λo=>by
    cases hf:G.F gb o with
    |none=>rfl
    | some v=>
      obtain⟨us,t',f',h1,_⟩:=hw.F _ _ _ hf
      have:=(Array.getElem?_eq_some_iff.1 h1).1
      omega
   have hlen:(oe zs).length=zs.length:=by simp[oe]
   refine⟨_,Gh.newRow G (.loc [0]) gb zs.length cap,rfl,hst.mono (λ_ _ h=>h.elim) (λ_ h=>h),rfl,λi o ho=> ?_,λk o h=> ?_, ?_⟩
   ·obtain⟨d,Fu⟩:=gJ hH i o ho;exact⟨.inr d,hst.keeps hw d (λh=>h) Fu⟩
   ·simp only[List.mem_singleton,Prod.mk.injEq] at h;obtain⟨rfl,rfl⟩:=h;refine⟨rfl,.inl rfl,by decide,cap,cur,_,(0,0), ?_, ?_,⟨λo _ h=>by simp at h,rfl,λ_=>rfl⟩,r3, ?_, ?_,λo _=> ?_⟩
    ·simp[Gh.newRow,hlen]
    ·simp only[Gh.newRow,if_true];exact hgb
    ·simp[hlen];omega
    ·have e4:cur.toList.take zs.length=(oe zs).map encStr:=by simpa [oe] using r4
     have:cur.toList.take (((oe zs).map Tree.str).map TV.t).length=(oe zs).map encStr:=by simpa [hlen] using e4
     rw[this];refine⟨by simp,λj c u hc hu=> ?_⟩;simp only[List.getElem?_map,Option.map_eq_some_iff] at hc hu;obtain⟨_,⟨s,hs,rfl⟩,rfl⟩:=hc;obtain⟨s',hs',rfl⟩:=hu;rw[hs] at hs';cases hs';exact .t _ _ (.str s)
    ·simp only[Gh.newRow,if_true];exact afL o
   ·refine .ref _ 0 zs.length zs.length 1 cap _ (.inl rfl) (by simp[Gh.newRow]) (by omega) ⟨_,_,rfl⟩ λ_=>⟨_,rfl,λ_=>by simp[Gh.newRow]⟩
theorem Ld (m:Int)(zs:List (List UInt8))(hz:zs.length<=4194304)(hne:zs≠ []):
 ∃r:Nat,r<=zs.length/\(zs.length=1->r=1)/\ai (cf m) 225 [.ref (.arg 0) 0 zs.length] [.arr (9,false) 1 false ((zs.map .str).map .t)] (.ret (.ref (.arg 0) 0 r) [.dead] []):=by
 have hle:(Lib.compact zs).length<=zs.length:=Lib.compact_length_le zs
 have h1:zs.length=1->(Lib.compact zs).length=1:=λh=>by
  rw[Lib.compact_all zs λj hj=>by
   obtain rfl:j=0:=by omega
   rfl]
  exact h
 refine⟨(Lib.compact zs).length,hle,h1, ?_⟩
 intro G w vs hw hg had hH hv
 obtain⟨x,rfl,hx⟩:=hv.only
 obtain⟨hd,ho⟩:=hH (.arg 0) _ rfl
 obtain⟨_,cap,us,ty,fr,ha,hh,⟨mV,_⟩,hsz,hcl,mE,hF⟩:=ho
 have hn:((zs.map Tree.str).map TV.t).length=zs.length:=by simp
 rw[hn] at ha hcl
 have hpos:0<zs.length:=by cases zs with|nil=>exact absurd rfl hne|cons=>simp
 obtain rfl:x=.slice (some ⟨G.mu (.arg 0),0,none⟩) zs.length cap:=by
  cases hx with
  | ref k off len n bE cap' v hd' qC hle' ho' uy=>
    rw[ha] at qC;cases qC
    obtain⟨a,rfl,h2⟩:=uy (by omega)
    have:=h2 (by omega)
    subst this;rfl
 have Vw:Holds encStr w (G.mu (.arg 0)) 0 zs.toArray:=λj hj=>by
  have hj':j<zs.length:=by simpa using hj
  have hju:j<us.size:=by omega
  refine⟨?_,by rw[Nat.zero_add];exact nL hh mV hju⟩;have h1:=mE.2 j (.t (.str zs[j])) us[j] (by simp[hj']) (by rw[hn,List.getElem?_take_of_lt hj',Array.getElem?_toList];simp[hju]);have h2:us[j]=encStr zs[j]:=by
   generalize us[j]=v at h1;cases h1 with|t _ _ h=>cases h;rfl
  simp only[World.cell?,hh,Nat.zero_add];simp[hju,hj',h2]
 have ZL:∀args w,(callFunc 225 args).run Tryz.prog w=.ok (.enter 225 args) w:=enters_of Tryz.func225 (by kernel_rfl) rfl
 refine .inl ⟨ZL _ _,Calls.mono (Tryz.slices_Compact_string (G.mu (.arg 0)) 0 cap zs w Vw (by omega) (by omega)) ?_⟩
 rintro e w' ⟨rfl,q,rfl⟩
 have gB:w.grownBy (putRow encStr (Sort.ahead w q) (G.mu (.arg 0)) 0 (Lib.compact zs++List.replicate (zs.length - (Lib.compact zs).length) []).toArray) (some (G.mu (.arg 0))):=by
  have:=grownBy_sorted (w:=w) (g:=G.mu (.arg 0)) (n:=q) (os:= #[]) (Lib.compact zs++List.replicate (zs.length - (Lib.compact zs).length) []).toArray;rwa [grow_empty] at this
 refine⟨_,G,rfl,⟨.refl G,⟨λb o v hf=> ?_,hw.inj,λk d=>Nat.lt_of_lt_of_le (hw.lt k d) gB.size⟩,λ_ _ h=>absurd trivial h,λb hlt hn=>⟨gB.block b hlt λe=>hn _ trivial hd (Gh.iF ha (by decide)) (Option.some.inj e).symm,λ_=>rfl⟩,λ_ d=>.inl d,λk d=>.inl ⟨k,d,rfl,.inl rfl⟩,gB.size,gB.os,gB.tape,gB.output⟩,rfl,λi o ho=> ?_,λ_ _ h=>by simp at h, ?_⟩
 ·obtain⟨us',t',f',h1,h2⟩:=hw.F b o v hf;have hb:b≠G.mu (.arg 0):=λe=>by
   subst e;rw[hF o (.inl rfl)] at hf;cases hf
  exact⟨us',t',f',by rw[gB.block b (Array.getElem?_eq_some_iff.1 h1).1 λe=>hb (Option.some.inj e)];exact h1,h2⟩
 ·match i,ho with
  |0,ho=>simp at ho;subst ho;exact⟨hd,trivial⟩
 ·refine .ref _ 0 _ zs.length 1 cap _ hd ha (by omega) ⟨_,_,rfl⟩ λ_=>⟨_,rfl,λ_=>rfl⟩
end Go.Proofs.YtacmmaaabfhhoaaGreatDoor.w
namespace Go.Proofs.YtacmmaaabfhhoaaGreatDoor.w.e
open Go Go.Abs
set_option maxRecDepth 100000
set_option maxHeartbeats 2000000
noncomputable section
open Go.Abs.Ty
theorem Wk {l:List Tree}(h:∀y∈l,T .string y):∃zs:List (List UInt8),l=zs.map .str/\∀z∈zs,z.length<=4194304:=by
 induction l with
 |nil=>exact⟨[],rfl,λ_ h=>by cases h⟩
 |cons a r ih=>
  obtain⟨zs,rfl,hb⟩:=ih λy hy=>h y (List.mem_cons_of_mem _ hy)
  obtain⟨s,rfl,hs⟩:=T.cN (h a List.mem_cons_self)
  exact⟨s::zs,rfl,λz hz=>(List.mem_cons.1 hz).elim (λe=>e▸hs) (hb z)⟩
theorem Le (m:Int):ai (cf m) 160 [.fn (.func 199) [] [.ptr (.arg 0) 0]] [.cells 26 [.t (.sl [])]] (.ret (.t (.sl [])) [.cells 26 [.t (.sl [])]] []):=EM m [] (by decide)
theorem I7 (m:Int)(zs:List (List UInt8))(hz:zs.length<=4194304)(hne:zs≠ []):ai (cf m) 160 [.fn (.func 199) [] [.ptr (.arg 0) 0]] [.cells 26 [.t (.sl (zs.map Tree.str))]]
 (.ret (.ref (.loc [0]) 0 zs.length) [.cells 26 [.t (.sl (zs.map Tree.str))]] [(.loc [0],.arr (9,false) 1 false ((flat ((oe zs).map Tree.str)).map .t))]):=by
 have h:=EM m zs hz
 rw[if_neg hne] at h
 rw[rY]
 exact h
theorem GB (m:Int)(zs:List (List UInt8))(hz:zs.length<=4194304)(hne:zs≠ []):
 ∃r:Nat,ai (cf m) 225 [.ref (.arg 0) 0 zs.length] [.arr (9,false) 1 false ((flat ((oe zs).map Tree.str)).map .t)] (.ret (.ref (.arg 0) 0 r) [.dead] []):=by
 have hl:(oe zs).length=zs.length:=by simp[oe]
 obtain⟨r,_,h1,h⟩:=Ld m (oe zs) (by omega) (λe=>hne (by rw[e] at hl;exact List.eq_nil_of_length_eq_zero hl.symm))
 rw[hl] at h
 rw[rY]
 exact⟨r,h⟩
theorem I8 (m:Int):ai (cf m) 225 [.t (.sl [])] [] (.ret (.t (.sl [])) [] []):=by
 intro G w vs hw hg had hH hv;obtain⟨x,rfl,hx⟩:=hv.only;have ZL:∀args w,(callFunc 225 args).run Tryz.prog w=.ok (.enter 225 args) w:=enters_of Tryz.func225 (by kernel_rfl) rfl;have hx':∃a cap,x=.slice a 0 cap:=by
  cases hx with|t _ _ hx=>
  generalize hz':([]:List Tree)=l at hx;cases hx with
  |zm a cap=>exact⟨a,cap,rfl⟩
  |sl bE es b o cap vals hne hc hu hF L9=>exact absurd hz'.symm hne
 obtain⟨a,cap,rfl⟩:=hx';refine .inl ⟨ZL _ _,Calls.mono (Tryz.slices_Compact_string_empty a cap w) ?_⟩;rintro e w' ⟨rfl,rfl⟩;exact⟨_,G,rfl,Step.refl hw _ _,rfl,λi o ho=>by simp at ho,λ_ _ h=>by simp at h,hx⟩
theorem MH (m:Int):∃F:Tree->Bool,∀x,(T .string x)->R1 (cf m) 195 x (.bool (F x))/\(True):=by
 refine yB (P:=λx=>T .string x) (mk:=λ(r:Bool)=>.bool r) (Post:=λx r=>True) λx hx=> ?_
 show ∃r:{r:Bool // True},ai (cf m) 195 [.t x] [] (.ret (.t (.bool r.1)) [] []);have dI:=hx;obtain⟨v_1,rfl,gh⟩:=T.cN dI;obtain⟨zP,La⟩:=s9 m;obtain⟨ev,az,Lb⟩:∃ev,aF (cf m) ev/\Has ev 39 (pz (λx=>PS x) (λx=>.bool (zP x))):=⟨_,(av (cc (λx h=>(La x h))) aI),aD⟩;refine AX.start 14 1 Tryz.func195 rfl (by decide) rfl rfl (by decide) ?_;refine AX.frames ?_;rcases br ((!(v_1==[]))) with hg2|hg2
 ·have Lf:=ne_of_beq_false (k6 hg2);rcases br (decide (((v_1.length:Nat):Int)<=64)) with qu|qu
  ·have ZM:=of_decide_eq_true qu;refine⟨⟨(zP (.str v_1)), ?_⟩,kf ah (rq 4 (oB hg2) ([oB qu,oB qu,oC (cg Lb (x:=.str v_1) ⟨_,rfl⟩),oB qu]))⟩;trivial
  ·have ZM:=of_decide_eq_false qu;refine⟨⟨false, ?_⟩,kf ah (rq 4 (oB hg2) ([oB qu,oB qu,oB qu]))⟩;trivial
 ·have Lf:=eq_of_beq (fJ hg2);refine⟨⟨false, ?_⟩,kf ah (rq 4 (oB hg2) ([oF,oF,oF]))⟩;trivial
theorem Wl (m:Int):∃F:Tree->Bool,∀x,(T .string x)->R1 (cf m) 224 x (.bool (F x))/\(True):=by
 refine yB (P:=λx=>T .string x) (mk:=λ(r:Bool)=>.bool r) (Post:=λx r=>True) λx hx=> ?_
 show ∃r:{r:Bool // True},ai (cf m) 224 [.t x] [] (.ret (.t (.bool r.1)) [] []);have dI:=hx;obtain⟨v_1,rfl,gh⟩:=T.cN dI;obtain⟨Ox,ZN⟩:=MH m;obtain⟨ev,az,I9⟩:∃ev,aF (cf m) ev/\Has ev 195 (pz (λx=>T .string x) (λx=>.bool (Ox x))):=⟨_,(av (cc (λx h=>(ZN x h).1)) aI),aD⟩;refine AX.start 6 1 Tryz.func224 rfl (by decide) rfl rfl (by decide) ?_;refine AX.frames ?_;refine⟨⟨(!(Ox (.str v_1))), ?_⟩,kf ah [oC (cg I9 (x:=.str v_1) dI)]⟩;trivial
theorem Oy (m:Int):∃F:Tree->Tree->Int,∀x y,(T .dz x/\y=.fn (.func 224))->R2 (cf m) 182 x y (.int .i64 (F x y))/\(True):=by
 refine qZ (P:=λx y=>T .dz x/\y=.fn (.func 224)) (mk:=λ(r:Int)=>.int .i64 r) (Post:=λx y r=>True) λx y hx=> ?_
 obtain⟨hx,hy⟩:=hx;show ∃r:{r:Int // True},ai (cf m) 182 [.t x,.t y] [] (.ret (.t (.int .i64 r.1)) [] []);have dI:=hx;obtain⟨v_1,rfl,gh,dJ⟩:=T.nZ dI;subst hy;obtain⟨ab6,afM⟩:=Wl m;obtain⟨ev,az,afN⟩:∃ev,aF (cf m) ev/\Has ev 224 (pz (λx=>T .string x) (λx=>.bool (ab6 x))):=⟨_,(av (cc (λx h=>(afM x h).1)) aI),aD⟩;refine AX.start 19 2 Tryz.func182 rfl (by decide) rfl rfl (by decide) ?_;refine AX.frames ?_;refine kl (α:=Nat) ah 0 [] 19 0 [] [] [0,1,7,8] (λx=>⟨dU 19 [(0,.t (.sl v_1)),(1,.t (.fn (.func 224))),(7,.t (.int .i64 ((v_1.length:Nat):Int))),(8,.t (.int .i64 ((x:Nat):Int)))],[],0⟩) (λx=>(x<=v_1.length)) (λx=>v_1.length - x) 0 (mN (Tryz.f182.body.getD .skip) 2) [] (by show(0<=v_1.length);first|trivial|omega|(refine⟨?_, ?_⟩<;>first|omega|exact SM.nil)|simp) (λx hok=> ?_);obtain⟨i_2,tX⟩:∃y,y=x:=⟨x,rfl⟩;subst tX;replace hok:(i_2<=v_1.length):=hok;have tj:=hok;rcases br (decide (((i_2:Nat):Int)<((v_1.length:Nat):Int))) with cW|cW
 ·have tq:=of_decide_eq_true cW;obtain⟨e4,pM⟩:=jX v_1 i_2;have o6:=(dJ e4 (pE pM));obtain⟨v_5,rfl,xA⟩:=T.cN o6;have zh5:=cg afN (x:=.str v_5) o6;rcases br ((ab6 (.str v_5))) with kN|kN
  ·refine kx ah [oB cW,oE pM,oC zh5,oB kN] ?_;refine⟨⟨((i_2:Nat):Int), ?_⟩,kf ah []⟩;trivial
  ·exact⟨.inl ⟨i_2+1,⟨(by show(i_2+1)<=v_1.length;omega),(by show(v_1.length - (i_2+1))<(v_1.length - i_2);omega)⟩⟩,kr ah 19 0 [] [0,1,7,8] [oB cW,oE pM,oC zh5,oB kN,oI (i_2) (by omega)]⟩
 ·have tq:=of_decide_eq_false cW;refine kx ah [oB cW] ?_;refine⟨⟨-1, ?_⟩,kf ah []⟩;trivial
theorem EN (m:Int):∃F:Tree->Tree->Bool,∀x y,(T .dz x/\y=.fn (.func 224))->R2 (cf m) 142 x y (.bool (F x y))/\(True):=by
 refine qZ (P:=λx y=>T .dz x/\y=.fn (.func 224)) (mk:=λ(r:Bool)=>.bool r) (Post:=λx y r=>True) λx y hx=> ?_
 obtain⟨hx,hy⟩:=hx;show ∃r:{r:Bool // True},ai (cf m) 142 [.t x,.t y] [] (.ret (.t (.bool r.1)) [] []);have dI:=hx;obtain⟨v_1,rfl,gh,dJ⟩:=T.nZ dI;subst hy;obtain⟨Sl,ZO⟩:=Oy m;obtain⟨ev,az,ZP⟩:∃ev,aF (cf m) ev/\Has ev 182 (ug (λx y=>T .dz x/\y=.fn (.func 224)) (λx y=>.int .i64 (Sl x y))):=⟨_,(av (eC (λx y h=>(ZO x y h).1)) aI),aD⟩;refine AX.start 9 2 Tryz.func142 rfl (by decide) rfl rfl (by decide) ?_;refine AX.frames ?_;refine⟨⟨decide ((Sl (.sl v_1) (.fn (.func 224)))>=0), ?_⟩,kf ah [oC (bY ZP (x:=.sl v_1) (y:=.fn (.func 224)) ⟨dI,rfl⟩)]⟩;trivial
theorem EO (m:Int)(L:List Tree):ai (cf m) 161 [.t (.sl L)] [] (.ret (.fn (.func 199) [] [.ptr (.loc [0]) 0]) [] [(.loc [0],.cells 26 [.t (.sl L)])]):=by
 obtain⟨ev,az⟩:∃ev,aF (cf m) ev:=⟨_,aI⟩;refine ai.k7 ?_;refine AX.start 4 1 Tryz.func161 rfl (by decide) rfl rfl (by decide) ?_;refine AX.frames ?_;exact⟨(),kf ah []⟩
theorem Lg (m:Int):∃r:Bool,ai (cf m) 194 [.t (.sl ([]:List Tree))] [] (.ret (.t (.bool r)) [] []):=by
 have hl:([]:List Tree).length<=4194304:=by simp
 have hl2:∀y∈([]:List Tree),T .string y:=by intro y hy;cases hy
 obtain⟨GC,Lh⟩:=EN m;obtain⟨ev,az,e_vals,MI,GD,Sm⟩:∃ev,aF (cf m) ev/\Has ev 161 (px [.t (.sl ([]:List Tree))] [] (.ret (.fn (.func 199) [] [.ptr (.loc [0]) 0]) [] [(.loc [0],.cells 26 [.t (.sl ([]:List Tree))])]))/\Has ev 160 (px [.fn (.func 199) [] [.ptr (.arg 0) 0]] [.cells 26 [.t (.sl ([]:List Tree))]] (.ret (.t (.sl [])) [.cells 26 [.t (.sl ([]:List Tree))]] []))/\Has ev 142 (ug (λx y=>T .dz x/\y=.fn (.func 224)) (λx y=>.bool (GC x y)))/\Has ev 225 (px [.t (.sl [])] [] (.ret (.t (.sl [])) [] [])):=⟨_,(av (wM (EO m _)) (av (wM (Le m)) (av (eC (λx y h=>(Lh x y h).1)) (av (wM (I8 m)) aI)))),aD,(aq rfl aD),(aq rfl (aq rfl aD)),(aq rfl (aq rfl (aq rfl aD)))⟩;refine AX.start 18 1 Tryz.func194 rfl (by decide) rfl rfl (by decide) ?_;refine AX.frames ?_;rcases br ((!(GC (.sl ([]:List Tree)) (.fn (.func 224))))) with hg1|hg1
 ·exact⟨(((([]:List Tree).length:Nat):Int)==((([]:List Tree).length:Nat):Int)),kf ah ([oC (wj e_vals),oC (wj MI),oC (bY GD (x:=.sl ([]:List Tree)) (y:=.fn (.func 224)) ⟨(.dz _ aQ hl2),rfl⟩),oB hg1,oB hg1,oC (wj Sm)]++rq 5 (oB hg1) ([]))⟩
 ·exact⟨false,kf ah ([oC (wj e_vals),oC (wj MI),oC (bY GD (x:=.sl ([]:List Tree)) (y:=.fn (.func 224)) ⟨(.dz _ aQ hl2),rfl⟩)]++rq 7 (oB hg1) ([]))⟩
theorem Ja (m:Int)(zs:List (List UInt8))(hz:zs.length<=4194304)(hne:zs≠ [])(hb:∀z∈zs,z.length<=4194304):∃r:Bool,ai (cf m) 194 [.t (.sl (zs.map Tree.str))] [] (.ret (.t (.bool r)) [] []):=by
 have hl:(zs.map Tree.str).length<=4194304:=by simp;omega
 have hl2:∀y∈(zs.map Tree.str),T .string y:=by intro y hy;obtain⟨s,hs,rfl⟩:=List.mem_map.1 hy;exact .string s (hb s hs)
 obtain⟨GC,Lh⟩:=EN m;obtain⟨rc,hrc⟩:=GB m zs hz hne;obtain⟨ev,az,e_vals,MI,GD,Sm⟩:∃ev,aF (cf m) ev/\Has ev 161 (px [.t (.sl (zs.map Tree.str))] [] (.ret (.fn (.func 199) [] [.ptr (.loc [0]) 0]) [] [(.loc [0],.cells 26 [.t (.sl (zs.map Tree.str))])]))/\Has ev 160 (px [.fn (.func 199) [] [.ptr (.arg 0) 0]] [.cells 26 [.t (.sl (zs.map Tree.str))]] (.ret (.ref (.loc [0]) 0 zs.length) [.cells 26 [.t (.sl (zs.map Tree.str))]] [(.loc [0],.arr (9,false) 1 false ((flat ((oe zs).map Tree.str)).map .t))]))/\Has ev 142 (ug (λx y=>T .dz x/\y=.fn (.func 224)) (λx y=>.bool (GC x y)))/\Has ev 225 (px [.ref (.arg 0) 0 zs.length] [.arr (9,false) 1 false ((flat ((oe zs).map Tree.str)).map .t)] (.ret (.ref (.arg 0) 0 rc) [.dead] [])):=⟨_,(av (wM (EO m _)) (av (wM (I7 m zs hz hne)) (av (eC (λx y h=>(Lh x y h).1)) (av (wM hrc) aI)))),aD,(aq rfl aD),(aq rfl (aq rfl aD)),(aq rfl (aq rfl (aq rfl aD)))⟩;refine AX.start 18 1 Tryz.func194 rfl (by decide) rfl rfl (by decide) ?_;refine AX.frames ?_;refine Pu (f:=0) (n:=3000) (once:=[]) (k:=18) (T:=1) (S:=[.loc [3,0]]) (ks:=[.loc [3,0]]) (live:=[0,2,3]) ah az (Tryz.f194.body.getD .skip) 2 rfl (⟨dU 18 [(0,.t (.sl (zs.map Tree.str))),(2,.t (.bool false)),(3,.ref (.loc [0]) 0 zs.length)],[(.loc [0],.arr (9,false) 1 false ((flat ((oe zs).map Tree.str)).map .t))],1⟩) [oC (wj e_vals),oC (wj MI),oN (o:=.arr (9,false) 1 false ((flat ((oe zs).map Tree.str)).map .t)) (λ_=>xg),oN (o:=.arr (9,false) 1 false ((flat ((oe zs).map Tree.str)).map .t)) (λ_=>xg)] (by kernel_rfl) ?_;refine AX.region ?_;refine aC.go (f:=0) az (au rfl) ?_;refine aC.go (f:=0) az (fk (XU rfl rfl) (bY GD ⟨(.dz _ aQ hl2),rfl⟩)) ?_;refine aC.go (f:=0) az (ym rfl) ?_;refine aC.go (f:=0) az (au rfl) ?_;refine aC.split 10 rfl (λhg1=> ?_) (λhg1=> ?_)
 ·refine aC.yes (f:=0) az rfl rfl rfl (eu hg1) (au rfl) ?_;refine aC.Zj (S:=[.loc [0]]) az rfl rfl rfl (eu hg1) (lV rfl) (by decide) rfl (Rn rfl) (wj Sm) rfl rfl rfl ?_;refine aC.yes (f:=0) az rfl rfl rfl (eu hg1) (FT rfl kS rfl) ?_;refine aC.yes (f:=0) az rfl rfl rfl (eu hg1) (au rfl) ?_;refine aC.yes (f:=0) az rfl rfl rfl (eu hg1) (oD rfl kS rfl) ?_;refine aC.yes (f:=0) az rfl rfl rfl (eu hg1) (mZ rfl rfl) ?_;refine aC.go (f:=0) az (bw rfl hg1 rfl rfl) ?_;refine aC.go (f:=0) az (aB rfl) ?_;refine aC.nil ?_;exact⟨(((rc:Nat):Int)==(((zs.map Tree.str).length:Nat):Int)),kf ah []⟩
 ·refine aC.no rfl rfl rfl (ew hg1) ?_;refine aC.no rfl rfl rfl (ew hg1) ?_;refine aC.no rfl rfl rfl (ew hg1) ?_;refine aC.no rfl rfl rfl (ew hg1) ?_;refine aC.no rfl rfl rfl (ew hg1) ?_;refine aC.no rfl rfl rfl (ew hg1) ?_;refine aC.go (f:=0) az (cy rfl hg1 rfl rfl) ?_;refine aC.go (f:=0) az (aB rfl) ?_;refine aC.nil ?_;exact⟨false,kf ah []⟩
theorem Jb (m:Int):∃f:Tree->Bool,∀x,T .dz x->ai (cf m) 194 [.t x] [] (.ret (.t (.bool (f x))) [] []):=jN (P:=T .dz) (Q:=λx (r:Bool)=>ai (cf m) 194 [.t x] [] (.ret (.t (.bool r)) [] [])) λx hx=>by
 obtain⟨l,rfl,hl,h2⟩:=T.nZ hx;obtain⟨zs,rfl,hb⟩:=Wk h2;by_cases h:zs=[]
 ·subst h;exact Lg m
 ·exact Ja m zs (by simpa using hl) h hb
end
end Go.Proofs.YtacmmaaabfhhoaaGreatDoor.w.e
namespace Go.Proofs.YtacmmaaabfhhoaaGreatDoor.w.e
open Go Go.Abs
set_option maxRecDepth 100000
set_option maxHeartbeats 2000000
noncomputable section
theorem Sn (m:Int):∃F:Tree->Tree->Bool,∀x y,(T .dz x/\T .string y)->R2 (cf m) 179 x y (.bool (F x y))/\(True):=by
 refine qZ (P:=λx y=>T .dz x/\T .string y) (mk:=λ(r:Bool)=>.bool r) (Post:=λx y r=>True) λx y hx=> ?_
 obtain⟨hx,hy⟩:=hx;show ∃r:{r:Bool // True},ai (cf m) 179 [.t x,.t y] [] (.ret (.t (.bool r.1)) [] []);have dI:=hx;obtain⟨v_1,rfl,gh,dJ⟩:=T.nZ dI;have oc:=hy;obtain⟨v_2,rfl,xw⟩:=T.cN oc;obtain⟨Yg,ab7⟩:=Si m;obtain⟨ev,az,ab8⟩:∃ev,aF (cf m) ev/\Has ev 162 (ug (λx y=>T .dz x/\T .string y) (λx y=>.int .i64 (Yg x y))):=⟨_,(av (eC (λx y h=>(ab7 x y h).1)) aI),aD⟩;refine AX.start 9 2 Tryz.func179 rfl (by decide) rfl rfl (by decide) ?_;refine AX.frames ?_;refine⟨⟨decide ((Yg (.sl v_1) (.str v_2))>=0), ?_⟩,kf ah [oC (bY ab8 (x:=.sl v_1) (y:=.str v_2) ⟨dI,oc⟩)]⟩;trivial
def EP (op:Int)(nn nk:Nat):Prop:=(1<=op/\op<30)/\(op=7->nn=nk)/\(op=14->nk=3)/\(8<=op->op<=13->nk=1)/\(15<=op->nk=2)/\(op=6->nk<=16)
def uX:Tree->Prop
 |.agg [.int _ op,_,_,_,.sl ns,.sl ks]=>EP op ns.length ks.length
 |_=>False
theorem Oz        (m:Int):∃F:Tree->(Int×Int×List UInt8×List UInt8×List Tree×List Tree)×Bool,∀x,(T .aK x)->R1 (cf m) 153 x (.dr [(aM ((F x).1.1) ((F x).1.2.1) ((F x).1.2.2.1) ((F x).1.2.2.2.1) ((F x).1.2.2.2.2.1) ((F x).1.2.2.2.2.2)),.bool (F x).2])/\((F x).2=true->uX x):=by
 refine yB (P:=λx=>T .aK x) (mk:=λ(r:(Int×Int×List UInt8×List UInt8×List Tree×List Tree)×Bool)=>.dr [(aM r.1.1 r.1.2.1 r.1.2.2.1 r.1.2.2.2.1 r.1.2.2.2.2.1 r.1.2.2.2.2.2),.bool r.2]) (Post:=λx r=>r.2=true->uX x) λx hx=> ?_
 show ∃r:{r:(Int×Int×List UInt8×List UInt8×List Tree×List Tree)×Bool // r.2=true->uX x},ai (cf m) 153 [.t x] [] (.ret (.t (.dr [(aM r.1.1.1 r.1.1.2.1 r.1.1.2.2.1 r.1.1.2.2.2.1 r.1.1.2.2.2.2.1 r.1.1.2.2.2.2.2),.bool r.1.2])) [] []);have dI:=hx;obtain⟨cv,n_1,s_1,qm,gK,bT,rfl,gh,dJ,tu,xB,lN,tv,xC⟩:=T.bX dI;obtain⟨zP,La⟩:=s9 m;obtain⟨Jc,Jd⟩:=CV m;obtain⟨Yh,ab9⟩:=Sn m;obtain⟨Je,Sq⟩:=Jb m;obtain⟨Ox,ZN⟩:=MH m;obtain⟨I4,Sd⟩:=Gu m;obtain⟨ev,az,Lb,Jf,Sr,CY,I9,Se⟩:∃ev,aF (cf m) ev/\Has ev 39 (pz (λx=>PS x) (λx=>.bool (zP x)))/\Has ev 48 (pz (λx=>T .bB x) (λx=>.int .i64 (Jc x)))/\Has ev 179 (ug (λx y=>T .dz x/\T .string y) (λx y=>.bool (Yh x y)))/\Has ev 194 (pz (λx=>T .dz x) (λx=>.bool (Je x)))/\Has ev 195 (pz (λx=>T .string x) (λx=>.bool (Ox x)))/\Has ev 88 (pz (λx=>PS x) (λx=>.bool (I4 x))):=⟨_,(av (cc (λx h=>(La x h))) (av (cc (λx h=>(Jd x h).1)) (av (eC (λx y h=>(ab9 x y h).1)) (av (cc (λx h=>(Sq x h))) (av (cc (λx h=>(ZN x h).1)) (av (cc (λx h=>(Sd x h))) aI)))))),aD,(aq rfl aD),(aq rfl (aq rfl aD)),(aq rfl (aq rfl (aq rfl aD))),(aq rfl (aq rfl (aq rfl (aq rfl aD)))),(aq rfl (aq rfl (aq rfl (aq rfl (aq rfl aD)))))⟩;refine AX.start 149 1 Tryz.func153 rfl (by decide) rfl rfl (by decide) ?_;refine AX.frames ?_;rcases br ((cv==0)) with dF|dF
 ·have o7:=eq_of_beq dF;refine⟨⟨((cv,0,[],[],[],[]),false), ?_⟩,kf ah ([oB dF]++rq 10 oF ([]))⟩;exactλh=>absurd (show false=true from h) (by decide)
 ·have o7:=ne_of_beq_false dF;rcases br ((cv==1)) with cW|cW
  ·have tq:=eq_of_beq cW;rcases br ((n_1==0)) with Hu|Hu
   ·have ZQ:=eq_of_beq Hu;rcases br (decide (cv<30)) with qj|qj
    ·have Ss:=of_decide_eq_true qj;refine⟨⟨((cv,n_1,[],[],[],[]),(((bT.length:Nat):Int)==0)), ?_⟩,kf ah ([oB dF,oB cW]++rq 4 (oB Hu) (rq 4 oT (rq 6 (oB qj) ([]))))⟩;exact by
      intro h;have h:=eq_of_beq (show(((bT.length:Nat):Int)==0)=true from h);exact⟨⟨by omega,by omega⟩,by omega,by omega,by omega,by omega,by omega⟩
    ·have Ss:=of_decide_eq_false qj;refine⟨⟨((cv,n_1,[],[],[],[]),false), ?_⟩,kf ah ([oB dF,oB cW]++rq 4 (oB Hu) (rq 4 oT (rq 6 (oB qj) ([]))))⟩;exactλh=>absurd (show false=true from h) (by decide)
   ·have ZQ:=ne_of_beq_false Hu;rcases br ((n_1==1)) with o4|o4
    ·have ZR:=eq_of_beq o4;rcases br (decide (cv<30)) with ql|ql
     ·have ZS:=of_decide_eq_true ql;refine⟨⟨((cv,n_1,[],[],[],[]),(((bT.length:Nat):Int)==0)), ?_⟩,kf ah ([oB dF,oB cW]++rq 4 (oB Hu) (rq 4 (oB o4) (rq 6 (oB ql) ([]))))⟩;exact by
       intro h;have h:=eq_of_beq (show(((bT.length:Nat):Int)==0)=true from h);exact⟨⟨by omega,by omega⟩,by omega,by omega,by omega,by omega,by omega⟩
     ·have ZS:=of_decide_eq_false ql;refine⟨⟨((cv,n_1,[],[],[],[]),false), ?_⟩,kf ah ([oB dF,oB cW]++rq 4 (oB Hu) (rq 4 (oB o4) (rq 6 (oB ql) ([]))))⟩;exactλh=>absurd (show false=true from h) (by decide)
    ·have ZR:=ne_of_beq_false o4;refine⟨⟨((cv,n_1,[],[],[],[]),false), ?_⟩,kf ah ([oB dF,oB cW]++rq 4 (oB Hu) (rq 4 (oB o4) (rq 6 oF ([]))))⟩;exactλh=>absurd (show false=true from h) (by decide)
  ·have tq:=ne_of_beq_false cW;rcases br ((cv==2)) with ja|ja
   ·have GF:=eq_of_beq ja;rcases br (decide (n_1>=0)) with Bq|Bq
    ·have Sv:=of_decide_eq_true Bq;rcases br (decide (cv<30)) with tC|tC
     ·have Sw:=of_decide_eq_true tC;refine⟨⟨((cv,n_1,[],[],[],[]),(((bT.length:Nat):Int)==0)), ?_⟩,kf ah ([oB dF,oB cW,oB ja]++rq 4 (oB Bq) (rq 6 (oB tC) ([])))⟩;exact by
       intro h;have h:=eq_of_beq (show(((bT.length:Nat):Int)==0)=true from h);exact⟨⟨by omega,by omega⟩,by omega,by omega,by omega,by omega,by omega⟩
     ·have Sw:=of_decide_eq_false tC;refine⟨⟨((cv,n_1,[],[],[],[]),false), ?_⟩,kf ah ([oB dF,oB cW,oB ja]++rq 4 (oB Bq) (rq 6 (oB tC) ([])))⟩;exactλh=>absurd (show false=true from h) (by decide)
    ·have Sv:=of_decide_eq_false Bq;refine⟨⟨((cv,n_1,[],[],[],[]),false), ?_⟩,kf ah ([oB dF,oB cW,oB ja]++rq 4 (oB Bq) (rq 6 oF ([])))⟩;exactλh=>absurd (show false=true from h) (by decide)
   ·have GF:=ne_of_beq_false ja;have zh6:=cg Lb (x:=.str s_1) ⟨_,rfl⟩;rcases br ((cv==3)) with gx|gx
    ·have Sy:=eq_of_beq gx;rcases br (decide (((s_1.length:Nat):Int)<=256)) with kT|kT
     ·have Sz:=of_decide_eq_true kT;rcases br ((zP (.str s_1))) with CZ|CZ
      ·rcases br (decide (cv<30)) with C0|C0
       ·have SA:=of_decide_eq_true C0;refine⟨⟨((cv,0,s_1,[],[],[]),(((bT.length:Nat):Int)==(IntKind.wrap .i64 (IntKind.wrap .u8 (cv.tdiv 11))))), ?_⟩,kf ah ([oB dF,oB cW,oB ja,oB gx,oB gx,oZ,oZ,oB kT,oB kT,oB kT,oC zh6,oB kT]++rq 4 (oB CZ) (rq 6 (oB C0) ([])))⟩;exact by
         intro h;have h:=eq_of_beq (show(((bT.length:Nat):Int)==(IntKind.wrap .i64 (IntKind.wrap .u8 (cv.tdiv 11))))=true from h);clear h;exact⟨⟨by omega,by omega⟩,by omega,by omega,by omega,by omega,by omega⟩
       ·have SA:=of_decide_eq_false C0;refine⟨⟨((cv,0,s_1,[],[],[]),false), ?_⟩,kf ah ([oB dF,oB cW,oB ja,oB gx,oB gx,oZ,oZ,oB kT,oB kT,oB kT,oC zh6,oB kT]++rq 4 (oB CZ) (rq 6 (oB C0) ([])))⟩;exactλh=>absurd (show false=true from h) (by decide)
      ·refine⟨⟨((cv,0,s_1,[],[],[]),false), ?_⟩,kf ah ([oB dF,oB cW,oB ja,oB gx,oB gx,oZ,oZ,oB kT,oB kT,oB kT,oC zh6,oB kT]++rq 4 (oB CZ) (rq 6 oF ([])))⟩;exactλh=>absurd (show false=true from h) (by decide)
     ·have Sz:=of_decide_eq_false kT;refine⟨⟨((cv,0,s_1,[],[],[]),false), ?_⟩,kf ah ([oB dF,oB cW,oB ja,oB gx,oB gx,oZ,oZ]++rq 4 (oB kT) (rq 10 oF ([])))⟩;exactλh=>absurd (show false=true from h) (by decide)
    ·have Sy:=ne_of_beq_false gx;rcases br ((cv==11)) with gD|gD
     ·have SB:=eq_of_beq gD;rcases br (decide (((s_1.length:Nat):Int)<=256)) with wk|wk
      ·have acd:=of_decide_eq_true wk;rcases br ((zP (.str s_1))) with q4|q4
       ·rcases br (decide (cv<30)) with C1|C1
        ·have SC:=of_decide_eq_true C1;refine⟨⟨((cv,0,s_1,[],[],[]),(((bT.length:Nat):Int)==(IntKind.wrap .i64 (IntKind.wrap .u8 (cv.tdiv 11))))), ?_⟩,kf ah ([oB dF,oB cW,oB ja,oB gx,oB gD,oZ,oZ,oB wk,oB wk,oB wk,oC zh6,oB wk]++rq 4 (oB q4) (rq 6 (oB C1) ([])))⟩;exact by
          intro h;have h:=eq_of_beq (show(((bT.length:Nat):Int)==(IntKind.wrap .i64 (IntKind.wrap .u8 (cv.tdiv 11))))=true from h);have h:((bT.length:Nat):Int)=1:=h.trans (by rw[eq_of_beq gD];decide);exact⟨⟨by omega,by omega⟩,by omega,by omega,by omega,by omega,by omega⟩
        ·have SC:=of_decide_eq_false C1;refine⟨⟨((cv,0,s_1,[],[],[]),false), ?_⟩,kf ah ([oB dF,oB cW,oB ja,oB gx,oB gD,oZ,oZ,oB wk,oB wk,oB wk,oC zh6,oB wk]++rq 4 (oB q4) (rq 6 (oB C1) ([])))⟩;exactλh=>absurd (show false=true from h) (by decide)
       ·refine⟨⟨((cv,0,s_1,[],[],[]),false), ?_⟩,kf ah ([oB dF,oB cW,oB ja,oB gx,oB gD,oZ,oZ,oB wk,oB wk,oB wk,oC zh6,oB wk]++rq 4 (oB q4) (rq 6 oF ([])))⟩;exactλh=>absurd (show false=true from h) (by decide)
      ·have acd:=of_decide_eq_false wk;refine⟨⟨((cv,0,s_1,[],[],[]),false), ?_⟩,kf ah ([oB dF,oB cW,oB ja,oB gx,oB gD,oZ,oZ]++rq 4 (oB wk) (rq 10 oF ([])))⟩;exactλh=>absurd (show false=true from h) (by decide)
     ·have SB:=ne_of_beq_false gD;rcases br ((cv==4)) with kP|kP
      ·have ace:=eq_of_beq kP;have ajG:=(Jd (.agg [.str qm,.str s_1]) (.bB _ _ aQ aQ)).2;rcases br (((Jc (.agg [.str qm,.str s_1]))==0)) with OA|OA
       ·have acf:=eq_of_beq OA;rcases br (decide (cv<30)) with tY|tY
        ·have SD:=of_decide_eq_true tY;refine⟨⟨((cv,0,s_1,qm,[],[]),(((bT.length:Nat):Int)==0)), ?_⟩,kf ah ([oB dF,oB cW,oB ja,oB gx,oB gD,oB kP,oC (cg Jf (x:=.agg [.str qm,.str s_1]) (.bB _ _ aQ aQ))]++rq 4 (oB OA) (rq 6 (oB tY) ([])))⟩;exact by
          intro h;have h:=eq_of_beq (show(((bT.length:Nat):Int)==0)=true from h);exact⟨⟨by omega,by omega⟩,by omega,by omega,by omega,by omega,by omega⟩
        ·have SD:=of_decide_eq_false tY;refine⟨⟨((cv,0,s_1,qm,[],[]),false), ?_⟩,kf ah ([oB dF,oB cW,oB ja,oB gx,oB gD,oB kP,oC (cg Jf (x:=.agg [.str qm,.str s_1]) (.bB _ _ aQ aQ))]++rq 4 (oB OA) (rq 6 (oB tY) ([])))⟩;exactλh=>absurd (show false=true from h) (by decide)
       ·have acf:=ne_of_beq_false OA;refine⟨⟨((cv,0,s_1,qm,[],[]),false), ?_⟩,kf ah ([oB dF,oB cW,oB ja,oB gx,oB gD,oB kP,oC (cg Jf (x:=.agg [.str qm,.str s_1]) (.bB _ _ aQ aQ))]++rq 4 (oB OA) (rq 6 oF ([])))⟩;exactλh=>absurd (show false=true from h) (by decide)
      ·have ace:=ne_of_beq_false kP;rcases br ((cv==5)) with lQ|lQ
       ·have acg:=eq_of_beq lQ;rcases br ((Yh (.sl [.str [112,114,105,110,99,105,112,97,108],.str [97,99,116,105,111,110],.str [114,101,115,111,117,114,99,101],.str [99,111,110,116,101,120,116]]) (.str s_1))) with Wm|Wm
        ·rcases br (decide (cv<30)) with zQ|zQ
         ·have ach:=of_decide_eq_true zQ;refine⟨⟨((cv,0,s_1,[],[],[]),(((bT.length:Nat):Int)==0)), ?_⟩,kf ah ([oB dF,oB cW,oB ja,oB gx,oB gD,oB kP,oB lQ,oC (bY Sr (x:=.sl [.str [112,114,105,110,99,105,112,97,108],.str [97,99,116,105,111,110],.str [114,101,115,111,117,114,99,101],.str [99,111,110,116,101,120,116]]) (y:=.str s_1) ⟨(.dz _ aQ (bq (.string _ aQ) (bq (.string _ aQ) (bq (.string _ aQ) (bq (.string _ aQ) (λ_ h=>absurd h (by simp))))))),(.string _ aQ)⟩)]++rq 4 (oB Wm) (rq 6 (oB zQ) ([])))⟩;exact by
           intro h;have h:=eq_of_beq (show(((bT.length:Nat):Int)==0)=true from h);exact⟨⟨by omega,by omega⟩,by omega,by omega,by omega,by omega,by omega⟩
         ·have ach:=of_decide_eq_false zQ;refine⟨⟨((cv,0,s_1,[],[],[]),false), ?_⟩,kf ah ([oB dF,oB cW,oB ja,oB gx,oB gD,oB kP,oB lQ,oC (bY Sr (x:=.sl [.str [112,114,105,110,99,105,112,97,108],.str [97,99,116,105,111,110],.str [114,101,115,111,117,114,99,101],.str [99,111,110,116,101,120,116]]) (y:=.str s_1) ⟨(.dz _ aQ (bq (.string _ aQ) (bq (.string _ aQ) (bq (.string _ aQ) (bq (.string _ aQ) (λ_ h=>absurd h (by simp))))))),(.string _ aQ)⟩)]++rq 4 (oB Wm) (rq 6 (oB zQ) ([])))⟩;exactλh=>absurd (show false=true from h) (by decide)
        ·refine⟨⟨((cv,0,s_1,[],[],[]),false), ?_⟩,kf ah ([oB dF,oB cW,oB ja,oB gx,oB gD,oB kP,oB lQ,oC (bY Sr (x:=.sl [.str [112,114,105,110,99,105,112,97,108],.str [97,99,116,105,111,110],.str [114,101,115,111,117,114,99,101],.str [99,111,110,116,101,120,116]]) (y:=.str s_1) ⟨(.dz _ aQ (bq (.string _ aQ) (bq (.string _ aQ) (bq (.string _ aQ) (bq (.string _ aQ) (λ_ h=>absurd h (by simp))))))),(.string _ aQ)⟩)]++rq 4 (oB Wm) (rq 6 oF ([])))⟩;exactλh=>absurd (show false=true from h) (by decide)
       ·have acg:=ne_of_beq_false lQ;rcases br ((cv==6)) with mU|mU
        ·have aci:=eq_of_beq mU;rcases br (decide (((bT.length:Nat):Int)<=16)) with OB|OB
         ·have acj:=of_decide_eq_true OB;rcases br (decide (cv<30)) with SE|SE
          ·have ack:=of_decide_eq_true SE;refine⟨⟨((cv,0,[],[],[],[]),(((bT.length:Nat):Int)==((bT.length:Nat):Int))), ?_⟩,kf ah ([oB dF,oB cW,oB ja,oB gx,oB gD,oB kP,oB lQ,oB mU]++rq 4 (oB OB) (rq 6 (oB SE) ([])))⟩;exact by
            intro h;have h:=eq_of_beq (show(((bT.length:Nat):Int)==((bT.length:Nat):Int))=true from h);exact⟨⟨by omega,by omega⟩,by omega,by omega,by omega,by omega,by omega⟩
          ·have ack:=of_decide_eq_false SE;refine⟨⟨((cv,0,[],[],[],[]),false), ?_⟩,kf ah ([oB dF,oB cW,oB ja,oB gx,oB gD,oB kP,oB lQ,oB mU]++rq 4 (oB OB) (rq 6 (oB SE) ([])))⟩;exactλh=>absurd (show false=true from h) (by decide)
         ·have acj:=of_decide_eq_false OB;refine⟨⟨((cv,0,[],[],[],[]),false), ?_⟩,kf ah ([oB dF,oB cW,oB ja,oB gx,oB gD,oB kP,oB lQ,oB mU]++rq 4 (oB OB) (rq 6 oF ([])))⟩;exactλh=>absurd (show false=true from h) (by decide)
        ·have aci:=ne_of_beq_false mU;rcases br ((cv==7)) with o8|o8
         ·have acm:=eq_of_beq o8;rcases br (decide (((bT.length:Nat):Int)<=16)) with jQ|jQ
          ·have acn:=of_decide_eq_true jQ;rcases br ((((gK.length:Nat):Int)==((bT.length:Nat):Int))) with wm|wm
           ·have aco:=eq_of_beq wm;rcases br ((Je (.sl gK))) with Wn|Wn
            ·rcases br (decide (cv<30)) with SF|SF
             ·have acp:=of_decide_eq_true SF;refine⟨⟨((cv,0,[],[],gK,[]),(((bT.length:Nat):Int)==((bT.length:Nat):Int))), ?_⟩,kf ah ([oB dF,oB cW,oB ja,oB gx,oB gD,oB kP,oB lQ,oB mU,oB o8]++rq 8 (oB jQ) ([oB wm,oB wm,oB wm,oC (cg CY (x:=.sl gK) (.dz _ aQ lN)),oB wm]++rq 4 (oB Wn) (rq 6 (oB SF) ([]))))⟩;exact by
               intro h;have h:=eq_of_beq (show(((bT.length:Nat):Int)==((bT.length:Nat):Int))=true from h);exact⟨⟨by omega,by omega⟩,by omega,by omega,by omega,by omega,by omega⟩
             ·have acp:=of_decide_eq_false SF;refine⟨⟨((cv,0,[],[],gK,[]),false), ?_⟩,kf ah ([oB dF,oB cW,oB ja,oB gx,oB gD,oB kP,oB lQ,oB mU,oB o8]++rq 8 (oB jQ) ([oB wm,oB wm,oB wm,oC (cg CY (x:=.sl gK) (.dz _ aQ lN)),oB wm]++rq 4 (oB Wn) (rq 6 (oB SF) ([]))))⟩;exactλh=>absurd (show false=true from h) (by decide)
            ·refine⟨⟨((cv,0,[],[],gK,[]),false), ?_⟩,kf ah ([oB dF,oB cW,oB ja,oB gx,oB gD,oB kP,oB lQ,oB mU,oB o8]++rq 8 (oB jQ) ([oB wm,oB wm,oB wm,oC (cg CY (x:=.sl gK) (.dz _ aQ lN)),oB wm]++rq 4 (oB Wn) (rq 6 oF ([]))))⟩;exactλh=>absurd (show false=true from h) (by decide)
           ·have aco:=ne_of_beq_false wm;refine⟨⟨((cv,0,[],[],gK,[]),false), ?_⟩,kf ah ([oB dF,oB cW,oB ja,oB gx,oB gD,oB kP,oB lQ,oB mU,oB o8]++rq 8 (oB jQ) (rq 4 (oB wm) (rq 10 oF ([]))))⟩;exactλh=>absurd (show false=true from h) (by decide)
          ·have acn:=of_decide_eq_false jQ;refine⟨⟨((cv,0,[],[],gK,[]),false), ?_⟩,kf ah ([oB dF,oB cW,oB ja,oB gx,oB gD,oB kP,oB lQ,oB mU,oB o8]++rq 8 (oB jQ) (rq 14 oF ([])))⟩;exactλh=>absurd (show false=true from h) (by decide)
         ·have acm:=ne_of_beq_false o8;rcases br ((cv==8)) with qo|qo
          ·have acq:=eq_of_beq qo;rcases br ((Ox (.str s_1))) with Wo|Wo
           ·rcases br (decide (cv<30)) with SG|SG
            ·have acr:=of_decide_eq_true SG;refine⟨⟨((cv,0,s_1,[],[],[]),(((bT.length:Nat):Int)==1)), ?_⟩,kf ah ([oB dF,oB cW,oB ja,oB gx,oB gD,oB kP,oB lQ,oB mU,oB o8,oB qo,oB qo,oC (cg I9 (x:=.str s_1) (.string _ aQ))]++rq 4 (oB Wo) (rq 6 (oB SG) ([])))⟩;exact by
              intro h;have h:=eq_of_beq (show(((bT.length:Nat):Int)==1)=true from h);exact⟨⟨by omega,by omega⟩,by omega,by omega,by omega,by omega,by omega⟩
            ·have acr:=of_decide_eq_false SG;refine⟨⟨((cv,0,s_1,[],[],[]),false), ?_⟩,kf ah ([oB dF,oB cW,oB ja,oB gx,oB gD,oB kP,oB lQ,oB mU,oB o8,oB qo,oB qo,oC (cg I9 (x:=.str s_1) (.string _ aQ))]++rq 4 (oB Wo) (rq 6 (oB SG) ([])))⟩;exactλh=>absurd (show false=true from h) (by decide)
           ·refine⟨⟨((cv,0,s_1,[],[],[]),false), ?_⟩,kf ah ([oB dF,oB cW,oB ja,oB gx,oB gD,oB kP,oB lQ,oB mU,oB o8,oB qo,oB qo,oC (cg I9 (x:=.str s_1) (.string _ aQ))]++rq 4 (oB Wo) (rq 6 oF ([])))⟩;exactλh=>absurd (show false=true from h) (by decide)
          ·have acq:=ne_of_beq_false qo;rcases br ((cv==9)) with uY|uY
           ·have acs:=eq_of_beq uY;rcases br ((Ox (.str s_1))) with Wp|Wp
            ·rcases br (decide (cv<30)) with SH|SH
             ·have acu:=of_decide_eq_true SH;refine⟨⟨((cv,0,s_1,[],[],[]),(((bT.length:Nat):Int)==1)), ?_⟩,kf ah ([oB dF,oB cW,oB ja,oB gx,oB gD,oB kP,oB lQ,oB mU,oB o8,oB qo,oB uY,oC (cg I9 (x:=.str s_1) (.string _ aQ))]++rq 4 (oB Wp) (rq 6 (oB SH) ([])))⟩;exact by
               intro h;have h:=eq_of_beq (show(((bT.length:Nat):Int)==1)=true from h);exact⟨⟨by omega,by omega⟩,by omega,by omega,by omega,by omega,by omega⟩
             ·have acu:=of_decide_eq_false SH;refine⟨⟨((cv,0,s_1,[],[],[]),false), ?_⟩,kf ah ([oB dF,oB cW,oB ja,oB gx,oB gD,oB kP,oB lQ,oB mU,oB o8,oB qo,oB uY,oC (cg I9 (x:=.str s_1) (.string _ aQ))]++rq 4 (oB Wp) (rq 6 (oB SH) ([])))⟩;exactλh=>absurd (show false=true from h) (by decide)
            ·refine⟨⟨((cv,0,s_1,[],[],[]),false), ?_⟩,kf ah ([oB dF,oB cW,oB ja,oB gx,oB gD,oB kP,oB lQ,oB mU,oB o8,oB qo,oB uY,oC (cg I9 (x:=.str s_1) (.string _ aQ))]++rq 4 (oB Wp) (rq 6 oF ([])))⟩;exactλh=>absurd (show false=true from h) (by decide)
           ·have acs:=ne_of_beq_false uY;rcases br ((cv==10)) with yU|yU
            ·have acv:=eq_of_beq yU;have zh7:=cg Se (x:=.str qm) ⟨_,rfl⟩;rcases br ((I4 (.str qm))) with Wq|Wq
             ·rcases br (decide (cv<30)) with SI|SI
              ·have acw:=of_decide_eq_true SI;refine⟨⟨((cv,0,[],qm,[],[]),(((bT.length:Nat):Int)==1)), ?_⟩,kf ah ([oB dF,oB cW,oB ja,oB gx,oB gD,oB kP,oB lQ,oB mU,oB o8,oB qo,oB uY,oB yU,oC zh7]++rq 4 (oB Wq) (rq 6 (oB SI) ([])))⟩;exact by
                intro h;have h:=eq_of_beq (show(((bT.length:Nat):Int)==1)=true from h);exact⟨⟨by omega,by omega⟩,by omega,by omega,by omega,by omega,by omega⟩
              ·have acw:=of_decide_eq_false SI;refine⟨⟨((cv,0,[],qm,[],[]),false), ?_⟩,kf ah ([oB dF,oB cW,oB ja,oB gx,oB gD,oB kP,oB lQ,oB mU,oB o8,oB qo,oB uY,oB yU,oC zh7]++rq 4 (oB Wq) (rq 6 (oB SI) ([])))⟩;exactλh=>absurd (show false=true from h) (by decide)
             ·refine⟨⟨((cv,0,[],qm,[],[]),false), ?_⟩,kf ah ([oB dF,oB cW,oB ja,oB gx,oB gD,oB kP,oB lQ,oB mU,oB o8,oB qo,oB uY,oB yU,oC zh7]++rq 4 (oB Wq) (rq 6 oF ([])))⟩;exactλh=>absurd (show false=true from h) (by decide)
            ·have acv:=ne_of_beq_false yU;rcases br ((cv==12)) with zR|zR
             ·have acy:=eq_of_beq zR;rcases br (decide (cv<30)) with SJ|SJ
              ·have acz:=of_decide_eq_true SJ;refine⟨⟨((cv,0,[],[],[],[]),(((bT.length:Nat):Int)==1)), ?_⟩,kf ah ([oB dF,oB cW,oB ja,oB gx,oB gD,oB kP,oB lQ,oB mU,oB o8,oB qo,oB uY,oB yU,oB zR,oB zR]++rq 4 oT (rq 6 (oB SJ) ([])))⟩;exact by
                intro h;have h:=eq_of_beq (show(((bT.length:Nat):Int)==1)=true from h);exact⟨⟨by omega,by omega⟩,by omega,by omega,by omega,by omega,by omega⟩
              ·have acz:=of_decide_eq_false SJ;refine⟨⟨((cv,0,[],[],[],[]),false), ?_⟩,kf ah ([oB dF,oB cW,oB ja,oB gx,oB gD,oB kP,oB lQ,oB mU,oB o8,oB qo,oB uY,oB yU,oB zR,oB zR]++rq 4 oT (rq 6 (oB SJ) ([])))⟩;exactλh=>absurd (show false=true from h) (by decide)
             ·have acy:=ne_of_beq_false zR;rcases br ((cv==13)) with GG|GG
              ·have acA:=eq_of_beq GG;rcases br (decide (cv<30)) with SK|SK
               ·have acB:=of_decide_eq_true SK;refine⟨⟨((cv,0,[],[],[],[]),(((bT.length:Nat):Int)==1)), ?_⟩,kf ah ([oB dF,oB cW,oB ja,oB gx,oB gD,oB kP,oB lQ,oB mU,oB o8,oB qo,oB uY,oB yU,oB zR,oB GG]++rq 4 oT (rq 6 (oB SK) ([])))⟩;exact by
                 intro h;have h:=eq_of_beq (show(((bT.length:Nat):Int)==1)=true from h);exact⟨⟨by omega,by omega⟩,by omega,by omega,by omega,by omega,by omega⟩
               ·have acB:=of_decide_eq_false SK;refine⟨⟨((cv,0,[],[],[],[]),false), ?_⟩,kf ah ([oB dF,oB cW,oB ja,oB gx,oB gD,oB kP,oB lQ,oB mU,oB o8,oB qo,oB uY,oB yU,oB zR,oB GG]++rq 4 oT (rq 6 (oB SK) ([])))⟩;exactλh=>absurd (show false=true from h) (by decide)
              ·have acA:=ne_of_beq_false GG;rcases br ((cv==14)) with Li|Li
               ·have acC:=eq_of_beq Li;rcases br (decide (cv<30)) with SL|SL
                ·have acD:=of_decide_eq_true SL;refine⟨⟨((cv,0,[],[],[],[]),(((bT.length:Nat):Int)==3)), ?_⟩,kf ah ([oB dF,oB cW,oB ja,oB gx,oB gD,oB kP,oB lQ,oB mU,oB o8,oB qo,oB uY,oB yU,oB zR,oB GG,oB Li]++rq 4 oT (rq 6 (oB SL) ([])))⟩;exact by
                  intro h;have h:=eq_of_beq (show(((bT.length:Nat):Int)==3)=true from h);exact⟨⟨by omega,by omega⟩,by omega,by omega,by omega,by omega,by omega⟩
                ·have acD:=of_decide_eq_false SL;refine⟨⟨((cv,0,[],[],[],[]),false), ?_⟩,kf ah ([oB dF,oB cW,oB ja,oB gx,oB gD,oB kP,oB lQ,oB mU,oB o8,oB qo,oB uY,oB yU,oB zR,oB GG,oB Li]++rq 4 oT (rq 6 (oB SL) ([])))⟩;exactλh=>absurd (show false=true from h) (by decide)
               ·have acC:=ne_of_beq_false Li;rcases br (decide (cv<30)) with SN|SN
                ·have acE:=of_decide_eq_true SN;refine⟨⟨((cv,0,[],[],[],[]),(((bT.length:Nat):Int)==2)), ?_⟩,kf ah ([oB dF,oB cW,oB ja,oB gx,oB gD,oB kP,oB lQ,oB mU,oB o8,oB qo,oB uY,oB yU,oB zR,oB GG,oB Li]++rq 4 oT (rq 6 (oB SN) ([])))⟩;exact by
                  intro h;have h:=eq_of_beq (show(((bT.length:Nat):Int)==2)=true from h);exact⟨⟨by omega,by omega⟩,by omega,by omega,by omega,by omega,by omega⟩
                ·have acE:=of_decide_eq_false SN;refine⟨⟨((cv,0,[],[],[],[]),false), ?_⟩,kf ah ([oB dF,oB cW,oB ja,oB gx,oB gD,oB kP,oB lQ,oB mU,oB o8,oB qo,oB uY,oB yU,oB zR,oB GG,oB Li]++rq 4 oT (rq 6 (oB SN) ([])))⟩;exactλh=>absurd (show false=true from h) (by decide)
def DK (s t:List UInt8):Tree:=(aM 4 0 s t [] [])
theorem SP (m:Int)(s t:List UInt8)(hs:s.length<=4194304)(ht:t.length<=4194304):∃r:{r:Bool // r=(cuG m (.agg [.str t,.str s])==0)},ai (cf m) 153 [.t (DK s t)] [] (.ret (.t (.dr [DK s t,.bool r.1])) [] []):=by
 obtain⟨Jc,Jd⟩:=CV m;obtain⟨ev,az,Jf⟩:∃ev,aF (cf m) ev/\Has ev 48 (pz (λx=>T .bB x) (λx=>.int .i64 (Jc x))):=⟨_,(av (cc (λx h=>(Jd x h).1)) aI),aD⟩;refine AX.start 149 1 Tryz.func153 rfl (by decide) rfl rfl (by decide) ?_;refine AX.frames ?_;have hp1:=(Jd (.agg [.str t,.str s]) (.bB _ _ aQ aQ)).2;rcases br (((Jc (.agg [.str t,.str s]))==0)) with hg2|hg2
 ·have Lf:=eq_of_beq hg2;exact⟨⟨true,by rw[← hp1.2];simp[hg2]⟩,kf ah (rq 5 oF ([oT,oC (cg Jf (x:=.agg [.str t,.str s]) (.bB _ _ aQ aQ))]++rq 4 (oB hg2) (rq 6 oT ([]))))⟩
 ·have Lf:=ne_of_beq_false hg2;exact⟨⟨false,by rw[← hp1.2];simp[hg2]⟩,kf ah (rq 5 oF ([oT,oC (cg Jf (x:=.agg [.str t,.str s]) (.bB _ _ aQ aQ))]++rq 4 (oB hg2) (rq 6 oF ([]))))⟩
end
end Go.Proofs.YtacmmaaabfhhoaaGreatDoor.w.e
namespace Go.Proofs.YtacmmaaabfhhoaaGreatDoor.w.e
open Go Go.Abs
set_option maxRecDepth 100000
set_option maxHeartbeats 2000000
noncomputable section
open Go.Abs.Ty
theorem C2 {m:Int}{g:FuncId}{args:List TV}{aP:List aO}{r:bz}(h:rM (live.cfg m) (live.Ko m) 300 g args aP=some r):ai (cf m) g args aP r:=by
 rw[rN] at h;exactλG w vs hw hg ha hh hv=>rH (live.ah m) (live.Mq m) 300 g args aP _ h G w vs hw hg ha hh hv
def lR (op:Int)(ks:List Tree):Tree:=(aM op 0 [] [] [] ks)
def xD (op:Int)(ks:List Tree):Prop:=(op,ks.length)∈[((12:Int),1),(13,1),(15,2),(16,2),(17,2),(18,2),(19,2),(20,2),(23,2),(24,2),(25,2)]
theorem C3 (m:Int)(op:Int)(ks:List Tree)(h:xD op ks):R1 (cf m) 153 (lR op ks) (.dr [lR op [],.bool true])/\uX (lR op ks):=by
 have one:∀{n:Nat},ks.length=n->n=1->∃a,ks=[a]:=λh1 h2=>List.length_eq_one_iff.1 (h1.trans h2)
 have two:∀{n:Nat},ks.length=n->n=2->∃a b,ks=[a,b]:=λh1 h2=>by
  rw[h2] at h1;match ks,h1 with
  | [a,b],_=>exact⟨a,b,rfl⟩
 simp only[xD,List.mem_cons,Prod.mk.injEq,List.not_mem_nil,or_false] at h;rcases h with ⟨rfl,h⟩|⟨rfl,h⟩|⟨rfl,h⟩|⟨rfl,h⟩|⟨rfl,h⟩|⟨rfl,h⟩|⟨rfl,h⟩|⟨rfl,h⟩|⟨rfl,h⟩|⟨rfl,h⟩|⟨rfl,h⟩
 ·obtain⟨a,rfl⟩:=one h rfl;exact⟨C2 (by kernel_rfl),by simp[uX,lR,EP]⟩
 ·obtain⟨a,rfl⟩:=one h rfl;exact⟨C2 (by kernel_rfl),by simp[uX,lR,EP]⟩
 all_goals (obtain⟨a,b,rfl⟩:=two h rfl;exact⟨C2 (by kernel_rfl),by simp[uX,lR,EP]⟩)
theorem C4 (m:Int):∃F:Tree->(Int×Int×List UInt8×List UInt8×List Tree×List Tree)×Bool,(∀x,T .aK x->R1 (cf m) 153 x (.dr [(aM ((F x).1.1) ((F x).1.2.1) ((F x).1.2.2.1) ((F x).1.2.2.2.1) ((F x).1.2.2.2.2.1) ((F x).1.2.2.2.2.2)),.bool (F x).2])/\((F x).2=true->uX x))/\(∀op ks,xD op ks->F (lR op ks)=((op,0,[],[],[],[]),true))/\∀s t:List UInt8,s.length<=4194304->t.length<=4194304->F (DK s t)=((4,0,s,t,[],[]),cuG m (.agg [.str t,.str s])==0):=by
 classical
 obtain⟨F,hF⟩:=Oz m;have hne:∀s t,¬∃op ks,xD op ks/\DK s t=lR op ks:=λs t ⟨op,ks,h,e⟩=>by
  simp only[DK,lR,Tree.agg.injEq,List.cons.injEq,Tree.int.injEq,true_and] at e;rw[← e.1] at h;simp[xD] at h
 refine⟨λx=>if ∃op ks,xD op ks/\x=lR op ks then((afG x,0,[],[],[],[]),true) else if ∃s t:List UInt8,s.length<=4194304/\t.length<=4194304/\x=DK s t then((4,0,eS x,eT x,[],[]),cuG m (.agg [.str (eT x),.str (eS x)])==0) else F x,λx hx=> ?_,λop ks h=>if_pos ⟨op,ks,h,rfl⟩,λs t hs ht=>(if_neg (hne s t)).trans (if_pos ⟨s,t,hs,ht,rfl⟩)⟩;by_cases h:∃op ks,xD op ks/\x=lR op ks
 ·simp only[if_pos h];obtain⟨op,ks,h,rfl⟩:=h;exact⟨(C3 m op ks h).1,λ_=>(C3 m op ks h).2⟩
 ·simp only[if_neg h];by_cases h2:∃s t:List UInt8,s.length<=4194304/\t.length<=4194304/\x=DK s t
  ·simp only[if_pos h2];obtain⟨s,t,hs,ht,rfl⟩:=h2;obtain⟨⟨r,rfl⟩,hr⟩:=SP m s t hs ht;exact⟨hr,λ_=>by simp[uX,DK,EP]⟩
  ·simp only[if_neg h2];exact hF x hx
def gO (m:Int):Tree->(Int×Int×List UInt8×List UInt8×List Tree×List Tree)×Bool:=(C4 m).choose
theorem C5 (m:Int):∀x,T .aK x->R1 (cf m) 153 x (.dr [(aM ((gO m x).1.1) ((gO m x).1.2.1) ((gO m x).1.2.2.1) ((gO m x).1.2.2.2.1) ((gO m x).1.2.2.2.2.1) ((gO m x).1.2.2.2.2.2)),.bool (gO m x).2])/\((gO m x).2=true->uX x):=(C4 m).choose_spec.1
theorem Wr (m:Int):∀x,T .aK x->R1 (cf m) 153 x (.dr [(aM ((gO m x).1.1) ((gO m x).1.2.1) ((gO m x).1.2.2.1) ((gO m x).1.2.2.2.1) ((gO m x).1.2.2.2.2.1) ((gO m x).1.2.2.2.2.2)),.bool (gO m x).2]):=λx h=>(C5 m x h).1
def pS (m:Int):Tree->Bool
 |.agg [.int k op,.int k2 n,.str s,.str t,.sl ns,.sl ks]=>(gO m (.agg [.int k op,.int k2 n,.str s,.str t,.sl ns,.sl ks])).2&&((gO m (.agg [.int k op,.int k2 n,.str s,.str t,.sl ns,.sl ks])).1.2.1==n)&&((gO m (.agg [.int k op,.int k2 n,.str s,.str t,.sl ns,.sl ks])).1.2.2.1==s)&&((gO m (.agg [.int k op,.int k2 n,.str s,.str t,.sl ns,.sl ks])).1.2.2.2.1==t)&&(((((gO m (.agg [.int k op,.int k2 n,.str s,.str t,.sl ns,.sl ks])).1.2.2.2.2.1.length:Nat):Int)==((ns.length:Nat):Int)))
 |_=>false
theorem SQ {m:Int}{x:Tree}(hx:T .aK x)(h:pS m x=true):uX x:=by
 have hx0:=hx;obtain⟨op,n,s,t,ns,ks,rfl,_⟩:=T.bX hx;simp only[pS,Bool.and_eq_true] at h;exact(C5 m _ hx0).2 h.1.1.1.1
inductive Rt:Tree->Prop
 |mk (op n:Int) (s t:List UInt8) (names kids:List Tree) (h:EP op names.length kids.length) (hk:∀k∈kids,Rt k):Rt (aM op n s t names kids)
theorem Ws (m:Int)(op n:Int)(s t:List UInt8)(ns ks:List Tree)(ln:ns.length<=4194304)(h00:0<=op)(hsb:s.length<=4194304)(htb:t.length<=4194304)(hns:∀y∈ns,T .string y)(lk:ks.length<=4194304)(hks:∀y∈ks,T .aK y)(fS:Tree->Int×Int×Bool)(hS:∀y∈ks,ai (cf m) 99 [.t y] [] (.ret (.t (.dr [.int .i64 (fS y).1,.int .i64 (fS y).2.1,.bool (fS y).2.2])) [] [])):ai (cf m) 99 [.t (aM op n s t ns ks)] [] (.ret (.t (.dr [.int .i64 (wg (pS m) fS (aM op n s t ns ks)).1,.int .i64 (wg (pS m) fS (aM op n s t ns ks)).2.1,.bool (wg (pS m) fS (aM op n s t ns ks)).2.2])) [] []):=by
 have hx:T .aK (aM op n s t ns ks):=.aK _ _ _ _ _ _ h00 hsb htb ln hns lk hks;obtain⟨ev,az,C6,e_self⟩:∃ev,aF (cf m) ev/\Has ev 153 (pz (λx=>T .aK x) (λx=>.dr [(aM (((gO m) x).1.1) (((gO m) x).1.2.1) (((gO m) x).1.2.2.1) (((gO m) x).1.2.2.2.1) (((gO m) x).1.2.2.2.2.1) (((gO m) x).1.2.2.2.2.2)),.bool ((gO m) x).2]))/\Has ev 99 (pz (λy=>y∈ks) λy=>.dr [.int .i64 (fS y).1,.int .i64 (fS y).2.1,.bool (fS y).2.2]):=⟨_,(av (cc (λx h=>Wr m x h)) (av (cc hS) aI)),aD,(aq rfl aD)⟩;refine ai.k7 ?_;have ZT:=C5 m;refine AX.start 76 1 Tryz.func99 rfl (by decide) rfl rfl (by decide) ?_;refine AX.frames ?_;have hp1:=(ZT (aM op n s t ns ks) hx).2;rcases br ((gO m (aM op n s t ns ks)).2) with hg2|hg2
 ·rcases br (((gO m (aM op n s t ns ks)).1.2.1==n)) with qu|qu
  ·have ZM:=eq_of_beq qu;rcases br (((gO m (aM op n s t ns ks)).1.2.2.1==s)) with Hu|Hu
   ·have ZQ:=eq_of_beq Hu;rcases br (((gO m (aM op n s t ns ks)).1.2.2.2.1==t)) with qj|qj
    ·have Ss:=eq_of_beq qj;have hE:pS m (aM op n s t ns ks)=(((((gO m (aM op n s t ns ks)).1.2.2.2.2.1).length:Nat):Int)==((ns.length:Nat):Int)):=by
      show(_&&_&&_&&_&&_)=_;simp only[hg2,qu,Hu,qj,Bool.and_true,Bool.true_and,Bool.false_and,Bool.and_false]
     refine kl (α:=Nat×Int×Int×Bool) ah 0 [] 76 0 [] [] [2,3,4,48,49,50] (λx=>⟨dU 76 [(2,.t (.int .i64 x.2.1)),(3,.t (.int .i64 x.2.2.1)),(4,.t (.bool x.2.2.2)),(48,.t (.sl ks)),(49,.t (.int .i64 ((ks.length:Nat):Int))),(50,.t (.int .i64 ((x.1:Nat):Int)))],[],0⟩) (λx=>(x.1<=ks.length)/\(x.2.1=(ks.take x.1).foldl (λa k=>max a (fS k).1) 0)/\(x.2.2.1=(ks.take x.1).foldl (λa k=>IntKind.wrap .i64 (a+(fS k).2.1)) 0)/\(x.2.2.2=(ks.take x.1).foldl (λo k=>o&&(fS k).2.2) (pS m (aM op n s t ns ks)))) (λx=>ks.length - x.1) (⟨0,0,0,(((((gO m (aM op n s t ns ks)).1.2.2.2.2.1).length:Nat):Int)==((ns.length:Nat):Int))⟩) (mN (Tryz.f99.body.getD .skip) 4) ([oC (cg C6 (x:=(aM op n s t ns ks)) hx)]++rq 6 (oB hg2) (rq 6 (oB qu) (rq 6 (oB Hu) (rq 8 (oB qj) ([]))))) ⟨Nat.zero_le _,rfl,rfl,hE.symm⟩ (λx hok=> ?_);obtain⟨Jg,OC,Wt,ZU⟩:=x;replace hok:(Jg<=ks.length)/\(OC=(ks.take Jg).foldl (λa k=>max a (fS k).1) 0)/\(Wt=(ks.take Jg).foldl (λa k=>IntKind.wrap .i64 (a+(fS k).2.1)) 0)/\(ZU=(ks.take Jg).foldl (λo k=>o&&(fS k).2.2) (pS m (aM op n s t ns ks))):=hok;obtain⟨aew,Br,Bt,Bu⟩:=hok;rcases br (decide (((Jg:Nat):Int)<((ks.length:Nat):Int))) with lM|lM
     ·have CX:=of_decide_eq_true lM;obtain⟨e8,U5⟩:=jX ks Jg;have afO:=(hks e8 (pE U5));obtain⟨C7,SS,SU,C8,mO,qp,rfl,afP,afQ,afR,afS,afT,afU,afV⟩:=T.bX afO;have acF:=cg e_self (x:=(aM C7 SS SU C8 mO qp)) (pE U5);rcases br (ZU) with tC|tC
      ·exact⟨.inl ⟨⟨Jg+1,(max OC ((fS (aM C7 SS SU C8 mO qp)).1)),(IntKind.wrap .i64 (Wt+(fS (aM C7 SS SU C8 mO qp)).2.1)),(fS (aM C7 SS SU C8 mO qp)).2.2⟩,⟨⟨(by show(Jg+1)<=ks.length;omega),((bO U5).trans (by rw[← Br])).symm,((bO U5).trans (by rw[← Bt])).symm,((bO U5).trans (by rw[← Bu];simp only[tC,Bool.true_and,Bool.false_and,Bool.and_true])).symm⟩,(by show(ks.length - (Jg+1))<(ks.length - Jg);omega)⟩⟩,kr ah 76 0 [] [2,3,4,48,49,50] [oB lM,oE U5,oC acF,oG .i64 OC ((fS (aM C7 SS SU C8 mO qp)).1),oZ,oB tC,oB tC,oI (Jg) (by omega)]⟩
      ·exact⟨.inl ⟨⟨Jg+1,(max OC ((fS (aM C7 SS SU C8 mO qp)).1)),(IntKind.wrap .i64 (Wt+(fS (aM C7 SS SU C8 mO qp)).2.1)),false⟩,⟨⟨(by show(Jg+1)<=ks.length;omega),((bO U5).trans (by rw[← Br])).symm,((bO U5).trans (by rw[← Bt])).symm,((bO U5).trans (by rw[← Bu];simp only[tC,Bool.true_and,Bool.false_and,Bool.and_true])).symm⟩,(by show(ks.length - (Jg+1))<(ks.length - Jg);omega)⟩⟩,kr ah 76 0 [] [2,3,4,48,49,50] [oB lM,oE U5,oC acF,oG .i64 OC ((fS (aM C7 SS SU C8 mO qp)).1),oZ,oB tC,oB tC,oI (Jg) (by omega)]⟩
     ·have CX:=of_decide_eq_false lM;refine kx ah [oB lM] ?_;have hres:wg (pS m) fS (aM op n s t ns ks)=((IntKind.wrap .i64 (OC+1)),(IntKind.wrap .i64 (Wt+1)),ZU):=by
       have hi:ks.take Jg=ks:=List.take_of_length_le (by omega);rw[hi] at Br Bt Bu;unfold wg;rw[show wH (aM op n s t ns ks)=ks from rfl,← Br,← Bt,← Bu];try rfl
      show ∃_:Unit,KE (cf m) (wh (cf m) _ 0 (.ret (.t (.dr [.int .i64 (wg (pS m) fS (aM op n s t ns ks)).1,.int .i64 (wg (pS m) fS (aM op n s t ns ks)).2.1,.bool (wg (pS m) fS (aM op n s t ns ks)).2.2])) [] [])) _ _ _;rw[hres];exact⟨(),kf ah [oZ,oZ]⟩
    ·have Ss:=ne_of_beq_false qj;have hE:pS m (aM op n s t ns ks)=false:=by
      show(_&&_&&_&&_&&_)=_;simp only[hg2,qu,Hu,qj,Bool.and_true,Bool.true_and,Bool.false_and,Bool.and_false]
     refine kl (α:=Nat×Int×Int×Bool) ah 0 [] 76 0 [] [] [2,3,4,48,49,50] (λx=>⟨dU 76 [(2,.t (.int .i64 x.2.1)),(3,.t (.int .i64 x.2.2.1)),(4,.t (.bool x.2.2.2)),(48,.t (.sl ks)),(49,.t (.int .i64 ((ks.length:Nat):Int))),(50,.t (.int .i64 ((x.1:Nat):Int)))],[],0⟩) (λx=>(x.1<=ks.length)/\(x.2.1=(ks.take x.1).foldl (λa k=>max a (fS k).1) 0)/\(x.2.2.1=(ks.take x.1).foldl (λa k=>IntKind.wrap .i64 (a+(fS k).2.1)) 0)/\(x.2.2.2=(ks.take x.1).foldl (λo k=>o&&(fS k).2.2) (pS m (aM op n s t ns ks)))) (λx=>ks.length - x.1) (⟨0,0,0,false⟩) (mN (Tryz.f99.body.getD .skip) 4) ([oC (cg C6 (x:=(aM op n s t ns ks)) hx)]++rq 6 (oB hg2) (rq 6 (oB qu) (rq 6 (oB Hu) (rq 8 (oB qj) ([]))))) ⟨Nat.zero_le _,rfl,rfl,hE.symm⟩ (λx hok=> ?_);obtain⟨uZ,ER,MJ,SV⟩:=x;replace hok:(uZ<=ks.length)/\(ER=(ks.take uZ).foldl (λa k=>max a (fS k).1) 0)/\(MJ=(ks.take uZ).foldl (λa k=>IntKind.wrap .i64 (a+(fS k).2.1)) 0)/\(SV=(ks.take uZ).foldl (λo k=>o&&(fS k).2.2) (pS m (aM op n s t ns ks))):=hok;obtain⟨acG,yV,yW,yX⟩:=hok;rcases br (decide (((uZ:Nat):Int)<((ks.length:Nat):Int))) with OD|OD
     ·have acH:=of_decide_eq_true OD;obtain⟨e13,DL⟩:=jX ks uZ;have acI:=(hks e13 (pE DL));obtain⟨tQ,A5,A6,tT,jI,lC,rfl,aex,aey,aez,aeA,aeB,aeC,aeD⟩:=T.bX acI;have zh8:=cg e_self (x:=(aM tQ A5 A6 tT jI lC)) (pE DL);rcases br (SV) with Lj|Lj
      ·exact⟨.inl ⟨⟨uZ+1,(max ER ((fS (aM tQ A5 A6 tT jI lC)).1)),(IntKind.wrap .i64 (MJ+(fS (aM tQ A5 A6 tT jI lC)).2.1)),(fS (aM tQ A5 A6 tT jI lC)).2.2⟩,⟨⟨(by show(uZ+1)<=ks.length;omega),((bO DL).trans (by rw[← yV])).symm,((bO DL).trans (by rw[← yW])).symm,((bO DL).trans (by rw[← yX];simp only[Lj,Bool.true_and,Bool.false_and,Bool.and_true])).symm⟩,(by show(ks.length - (uZ+1))<(ks.length - uZ);omega)⟩⟩,kr ah 76 0 [] [2,3,4,48,49,50] [oB OD,oE DL,oC zh8,oG .i64 ER ((fS (aM tQ A5 A6 tT jI lC)).1),oZ,oB Lj,oB Lj,oI (uZ) (by omega)]⟩
      ·exact⟨.inl ⟨⟨uZ+1,(max ER ((fS (aM tQ A5 A6 tT jI lC)).1)),(IntKind.wrap .i64 (MJ+(fS (aM tQ A5 A6 tT jI lC)).2.1)),false⟩,⟨⟨(by show(uZ+1)<=ks.length;omega),((bO DL).trans (by rw[← yV])).symm,((bO DL).trans (by rw[← yW])).symm,((bO DL).trans (by rw[← yX];simp only[Lj,Bool.true_and,Bool.false_and,Bool.and_true])).symm⟩,(by show(ks.length - (uZ+1))<(ks.length - uZ);omega)⟩⟩,kr ah 76 0 [] [2,3,4,48,49,50] [oB OD,oE DL,oC zh8,oG .i64 ER ((fS (aM tQ A5 A6 tT jI lC)).1),oZ,oB Lj,oB Lj,oI (uZ) (by omega)]⟩
     ·have acH:=of_decide_eq_false OD;refine kx ah [oB OD] ?_;have hres:wg (pS m) fS (aM op n s t ns ks)=((IntKind.wrap .i64 (ER+1)),(IntKind.wrap .i64 (MJ+1)),SV):=by
       have hi:ks.take uZ=ks:=List.take_of_length_le (by omega);rw[hi] at yV yW yX;unfold wg;rw[show wH (aM op n s t ns ks)=ks from rfl,← yV,← yW,← yX];try rfl
      show ∃_:Unit,KE (cf m) (wh (cf m) _ 0 (.ret (.t (.dr [.int .i64 (wg (pS m) fS (aM op n s t ns ks)).1,.int .i64 (wg (pS m) fS (aM op n s t ns ks)).2.1,.bool (wg (pS m) fS (aM op n s t ns ks)).2.2])) [] [])) _ _ _;rw[hres];exact⟨(),kf ah [oZ,oZ]⟩
   ·have ZQ:=ne_of_beq_false Hu;have hE:pS m (aM op n s t ns ks)=false:=by
     show(_&&_&&_&&_&&_)=_;simp only[hg2,qu,Hu,Bool.and_true,Bool.true_and,Bool.false_and,Bool.and_false]
    refine kl (α:=Nat×Int×Int×Bool) ah 0 [] 76 0 [] [] [2,3,4,48,49,50] (λx=>⟨dU 76 [(2,.t (.int .i64 x.2.1)),(3,.t (.int .i64 x.2.2.1)),(4,.t (.bool x.2.2.2)),(48,.t (.sl ks)),(49,.t (.int .i64 ((ks.length:Nat):Int))),(50,.t (.int .i64 ((x.1:Nat):Int)))],[],0⟩) (λx=>(x.1<=ks.length)/\(x.2.1=(ks.take x.1).foldl (λa k=>max a (fS k).1) 0)/\(x.2.2.1=(ks.take x.1).foldl (λa k=>IntKind.wrap .i64 (a+(fS k).2.1)) 0)/\(x.2.2.2=(ks.take x.1).foldl (λo k=>o&&(fS k).2.2) (pS m (aM op n s t ns ks)))) (λx=>ks.length - x.1) (⟨0,0,0,false⟩) (mN (Tryz.f99.body.getD .skip) 4) ([oC (cg C6 (x:=(aM op n s t ns ks)) hx)]++rq 6 (oB hg2) (rq 6 (oB qu) (rq 6 (oB Hu) (rq 8 oF ([]))))) ⟨Nat.zero_le _,rfl,rfl,hE.symm⟩ (λx hok=> ?_);obtain⟨u6,ES,MK,SW⟩:=x;replace hok:(u6<=ks.length)/\(ES=(ks.take u6).foldl (λa k=>max a (fS k).1) 0)/\(MK=(ks.take u6).foldl (λa k=>IntKind.wrap .i64 (a+(fS k).2.1)) 0)/\(SW=(ks.take u6).foldl (λo k=>o&&(fS k).2.2) (pS m (aM op n s t ns ks))):=hok;obtain⟨acJ,yY,yZ,y2⟩:=hok;rcases br (decide (((u6:Nat):Int)<((ks.length:Nat):Int))) with OE|OE
    ·have acK:=of_decide_eq_true OE;obtain⟨e18,DM⟩:=jX ks u6;have acL:=(hks e18 (pE DM));obtain⟨AE,Jh,Ji,AF,og,qK,rfl,aeE,aeF,aeG,aeH,aeI,aeJ,aeK⟩:=T.bX acL;have zh9:=cg e_self (x:=(aM AE Jh Ji AF og qK)) (pE DM);rcases br (SW) with zS|zS
     ·exact⟨.inl ⟨⟨u6+1,(max ES ((fS (aM AE Jh Ji AF og qK)).1)),(IntKind.wrap .i64 (MK+(fS (aM AE Jh Ji AF og qK)).2.1)),(fS (aM AE Jh Ji AF og qK)).2.2⟩,⟨⟨(by show(u6+1)<=ks.length;omega),((bO DM).trans (by rw[← yY])).symm,((bO DM).trans (by rw[← yZ])).symm,((bO DM).trans (by rw[← y2];simp only[zS,Bool.true_and,Bool.false_and,Bool.and_true])).symm⟩,(by show(ks.length - (u6+1))<(ks.length - u6);omega)⟩⟩,kr ah 76 0 [] [2,3,4,48,49,50] [oB OE,oE DM,oC zh9,oG .i64 ES ((fS (aM AE Jh Ji AF og qK)).1),oZ,oB zS,oB zS,oI (u6) (by omega)]⟩
     ·exact⟨.inl ⟨⟨u6+1,(max ES ((fS (aM AE Jh Ji AF og qK)).1)),(IntKind.wrap .i64 (MK+(fS (aM AE Jh Ji AF og qK)).2.1)),false⟩,⟨⟨(by show(u6+1)<=ks.length;omega),((bO DM).trans (by rw[← yY])).symm,((bO DM).trans (by rw[← yZ])).symm,((bO DM).trans (by rw[← y2];simp only[zS,Bool.true_and,Bool.false_and,Bool.and_true])).symm⟩,(by show(ks.length - (u6+1))<(ks.length - u6);omega)⟩⟩,kr ah 76 0 [] [2,3,4,48,49,50] [oB OE,oE DM,oC zh9,oG .i64 ES ((fS (aM AE Jh Ji AF og qK)).1),oZ,oB zS,oB zS,oI (u6) (by omega)]⟩
    ·have acK:=of_decide_eq_false OE;refine kx ah [oB OE] ?_;have hres:wg (pS m) fS (aM op n s t ns ks)=((IntKind.wrap .i64 (ES+1)),(IntKind.wrap .i64 (MK+1)),SW):=by
      have hi:ks.take u6=ks:=List.take_of_length_le (by omega);rw[hi] at yY yZ y2;unfold wg;rw[show wH (aM op n s t ns ks)=ks from rfl,← yY,← yZ,← y2];try rfl
     show ∃_:Unit,KE (cf m) (wh (cf m) _ 0 (.ret (.t (.dr [.int .i64 (wg (pS m) fS (aM op n s t ns ks)).1,.int .i64 (wg (pS m) fS (aM op n s t ns ks)).2.1,.bool (wg (pS m) fS (aM op n s t ns ks)).2.2])) [] [])) _ _ _;rw[hres];exact⟨(),kf ah [oZ,oZ]⟩
  ·have ZM:=ne_of_beq_false qu;have hE:pS m (aM op n s t ns ks)=false:=by
    show(_&&_&&_&&_&&_)=_;simp only[hg2,qu,Bool.and_true,Bool.true_and,Bool.false_and,Bool.and_false]
   refine kl (α:=Nat×Int×Int×Bool) ah 0 [] 76 0 [] [] [2,3,4,48,49,50] (λx=>⟨dU 76 [(2,.t (.int .i64 x.2.1)),(3,.t (.int .i64 x.2.2.1)),(4,.t (.bool x.2.2.2)),(48,.t (.sl ks)),(49,.t (.int .i64 ((ks.length:Nat):Int))),(50,.t (.int .i64 ((x.1:Nat):Int)))],[],0⟩) (λx=>(x.1<=ks.length)/\(x.2.1=(ks.take x.1).foldl (λa k=>max a (fS k).1) 0)/\(x.2.2.1=(ks.take x.1).foldl (λa k=>IntKind.wrap .i64 (a+(fS k).2.1)) 0)/\(x.2.2.2=(ks.take x.1).foldl (λo k=>o&&(fS k).2.2) (pS m (aM op n s t ns ks)))) (λx=>ks.length - x.1) (⟨0,0,0,false⟩) (mN (Tryz.f99.body.getD .skip) 4) ([oC (cg C6 (x:=(aM op n s t ns ks)) hx)]++rq 6 (oB hg2) (rq 6 (oB qu) (rq 14 oF ([])))) ⟨Nat.zero_le _,rfl,rfl,hE.symm⟩ (λx hok=> ?_);obtain⟨u7,EU,ML,SX⟩:=x;replace hok:(u7<=ks.length)/\(EU=(ks.take u7).foldl (λa k=>max a (fS k).1) 0)/\(ML=(ks.take u7).foldl (λa k=>IntKind.wrap .i64 (a+(fS k).2.1)) 0)/\(SX=(ks.take u7).foldl (λo k=>o&&(fS k).2.2) (pS m (aM op n s t ns ks))):=hok;obtain⟨acM,y5,y7,y8⟩:=hok;rcases br (decide (((u7:Nat):Int)<((ks.length:Nat):Int))) with OG|OG
   ·have acN:=of_decide_eq_true OG;obtain⟨e23,DN⟩:=jX ks u7;have acO:=(hks e23 (pE DN));obtain⟨AG,Jj,Jk,AH,oh,qL,rfl,aeL,aeM,aeN,aeO,aeP,aeQ,aeR⟩:=T.bX acO;have acP:=cg e_self (x:=(aM AG Jj Jk AH oh qL)) (pE DN);rcases br (SX) with zQ|zQ
    ·exact⟨.inl ⟨⟨u7+1,(max EU ((fS (aM AG Jj Jk AH oh qL)).1)),(IntKind.wrap .i64 (ML+(fS (aM AG Jj Jk AH oh qL)).2.1)),(fS (aM AG Jj Jk AH oh qL)).2.2⟩,⟨⟨(by show(u7+1)<=ks.length;omega),((bO DN).trans (by rw[← y5])).symm,((bO DN).trans (by rw[← y7])).symm,((bO DN).trans (by rw[← y8];simp only[zQ,Bool.true_and,Bool.false_and,Bool.and_true])).symm⟩,(by show(ks.length - (u7+1))<(ks.length - u7);omega)⟩⟩,kr ah 76 0 [] [2,3,4,48,49,50] [oB OG,oE DN,oC acP,oG .i64 EU ((fS (aM AG Jj Jk AH oh qL)).1),oZ,oB zQ,oB zQ,oI (u7) (by omega)]⟩
    ·exact⟨.inl ⟨⟨u7+1,(max EU ((fS (aM AG Jj Jk AH oh qL)).1)),(IntKind.wrap .i64 (ML+(fS (aM AG Jj Jk AH oh qL)).2.1)),false⟩,⟨⟨(by show(u7+1)<=ks.length;omega),((bO DN).trans (by rw[← y5])).symm,((bO DN).trans (by rw[← y7])).symm,((bO DN).trans (by rw[← y8];simp only[zQ,Bool.true_and,Bool.false_and,Bool.and_true])).symm⟩,(by show(ks.length - (u7+1))<(ks.length - u7);omega)⟩⟩,kr ah 76 0 [] [2,3,4,48,49,50] [oB OG,oE DN,oC acP,oG .i64 EU ((fS (aM AG Jj Jk AH oh qL)).1),oZ,oB zQ,oB zQ,oI (u7) (by omega)]⟩
   ·have acN:=of_decide_eq_false OG;refine kx ah [oB OG] ?_;have hres:wg (pS m) fS (aM op n s t ns ks)=((IntKind.wrap .i64 (EU+1)),(IntKind.wrap .i64 (ML+1)),SX):=by
     have hi:ks.take u7=ks:=List.take_of_length_le (by omega);rw[hi] at y5 y7 y8;unfold wg;rw[show wH (aM op n s t ns ks)=ks from rfl,← y5,← y7,← y8];try rfl
    show ∃_:Unit,KE (cf m) (wh (cf m) _ 0 (.ret (.t (.dr [.int .i64 (wg (pS m) fS (aM op n s t ns ks)).1,.int .i64 (wg (pS m) fS (aM op n s t ns ks)).2.1,.bool (wg (pS m) fS (aM op n s t ns ks)).2.2])) [] [])) _ _ _;rw[hres];exact⟨(),kf ah [oZ,oZ]⟩
 ·have hE:pS m (aM op n s t ns ks)=false:=by
   show(_&&_&&_&&_&&_)=_;simp only[hg2,Bool.and_true,Bool.true_and,Bool.false_and,Bool.and_false]
  refine kl (α:=Nat×Int×Int×Bool) ah 0 [] 76 0 [] [] [2,3,4,48,49,50] (λx=>⟨dU 76 [(2,.t (.int .i64 x.2.1)),(3,.t (.int .i64 x.2.2.1)),(4,.t (.bool x.2.2.2)),(48,.t (.sl ks)),(49,.t (.int .i64 ((ks.length:Nat):Int))),(50,.t (.int .i64 ((x.1:Nat):Int)))],[],0⟩) (λx=>(x.1<=ks.length)/\(x.2.1=(ks.take x.1).foldl (λa k=>max a (fS k).1) 0)/\(x.2.2.1=(ks.take x.1).foldl (λa k=>IntKind.wrap .i64 (a+(fS k).2.1)) 0)/\(x.2.2.2=(ks.take x.1).foldl (λo k=>o&&(fS k).2.2) (pS m (aM op n s t ns ks)))) (λx=>ks.length - x.1) (⟨0,0,0,false⟩) (mN (Tryz.f99.body.getD .skip) 4) ([oC (cg C6 (x:=(aM op n s t ns ks)) hx)]++rq 6 (oB hg2) (rq 20 oF ([]))) ⟨Nat.zero_le _,rfl,rfl,hE.symm⟩ (λx hok=> ?_);obtain⟨ve,EV,MM,SY⟩:=x;replace hok:(ve<=ks.length)/\(EV=(ks.take ve).foldl (λa k=>max a (fS k).1) 0)/\(MM=(ks.take ve).foldl (λa k=>IntKind.wrap .i64 (a+(fS k).2.1)) 0)/\(SY=(ks.take ve).foldl (λo k=>o&&(fS k).2.2) (pS m (aM op n s t ns ks))):=hok;obtain⟨acQ,y9,za,zb⟩:=hok;rcases br (decide (((ve:Nat):Int)<((ks.length:Nat):Int))) with OH|OH
  ·have acR:=of_decide_eq_true OH;obtain⟨e28,DO⟩:=jX ks ve;have acS:=(hks e28 (pE DO));obtain⟨AI,Jl,Jm,AJ,om,qM,rfl,aeS,aeT,aeU,aeV,aeW,aeX,aeY⟩:=T.bX acS;have acT:=cg e_self (x:=(aM AI Jl Jm AJ om qM)) (pE DO);rcases br (SY) with jQ|jQ
   ·exact⟨.inl ⟨⟨ve+1,(max EV ((fS (aM AI Jl Jm AJ om qM)).1)),(IntKind.wrap .i64 (MM+(fS (aM AI Jl Jm AJ om qM)).2.1)),(fS (aM AI Jl Jm AJ om qM)).2.2⟩,⟨⟨(by show(ve+1)<=ks.length;omega),((bO DO).trans (by rw[← y9])).symm,((bO DO).trans (by rw[← za])).symm,((bO DO).trans (by rw[← zb];simp only[jQ,Bool.true_and,Bool.false_and,Bool.and_true])).symm⟩,(by show(ks.length - (ve+1))<(ks.length - ve);omega)⟩⟩,kr ah 76 0 [] [2,3,4,48,49,50] [oB OH,oE DO,oC acT,oG .i64 EV ((fS (aM AI Jl Jm AJ om qM)).1),oZ,oB jQ,oB jQ,oI (ve) (by omega)]⟩
   ·exact⟨.inl ⟨⟨ve+1,(max EV ((fS (aM AI Jl Jm AJ om qM)).1)),(IntKind.wrap .i64 (MM+(fS (aM AI Jl Jm AJ om qM)).2.1)),false⟩,⟨⟨(by show(ve+1)<=ks.length;omega),((bO DO).trans (by rw[← y9])).symm,((bO DO).trans (by rw[← za])).symm,((bO DO).trans (by rw[← zb];simp only[jQ,Bool.true_and,Bool.false_and,Bool.and_true])).symm⟩,(by show(ks.length - (ve+1))<(ks.length - ve);omega)⟩⟩,kr ah 76 0 [] [2,3,4,48,49,50] [oB OH,oE DO,oC acT,oG .i64 EV ((fS (aM AI Jl Jm AJ om qM)).1),oZ,oB jQ,oB jQ,oI (ve) (by omega)]⟩
  ·have acR:=of_decide_eq_false OH;refine kx ah [oB OH] ?_;have hres:wg (pS m) fS (aM op n s t ns ks)=((IntKind.wrap .i64 (EV+1)),(IntKind.wrap .i64 (MM+1)),SY):=by
    have hi:ks.take ve=ks:=List.take_of_length_le (by omega);rw[hi] at y9 za zb;unfold wg;rw[show wH (aM op n s t ns ks)=ks from rfl,← y9,← za,← zb];try rfl
   show ∃_:Unit,KE (cf m) (wh (cf m) _ 0 (.ret (.t (.dr [.int .i64 (wg (pS m) fS (aM op n s t ns ks)).1,.int .i64 (wg (pS m) fS (aM op n s t ns ks)).2.1,.bool (wg (pS m) fS (aM op n s t ns ks)).2.2])) [] [])) _ _ _;rw[hres];exact⟨(),kf ah [oZ,oZ]⟩
theorem OI (m:Int):∃F:Tree->Int×Int×Bool,∀x,T .aK x->ai (cf m) 99 [.t x] [] (.ret (.t (.dr [.int .i64 (F x).1,.int .i64 (F x).2.1,.bool (F x).2.2])) [] [])/\((F x).2.2=true->Rt x)/\∃n,Dx n x/\F x=U3 (pS m) n x:=by
 have key:∀(k:K) (x:Tree),T k x->k=.aK->∃r:Int×Int×Bool,ai (cf m) 99 [.t x] [] (.ret (.t (.dr [.int .i64 r.1,.int .i64 r.2.1,.bool r.2.2])) [] [])/\(r.2.2=true->Rt x)/\∃n,Dx n x/\r=U3 (pS m) n x:=by
  intro k x h;induction h with
  | aK op n s t_ names kids h00 hsb htb h0 h1 h2 h3 ih1 ih3=>
   intro _
   obtain⟨fS,hS⟩:=jN (P:=λy=>y∈kids) (Q:=λy (r:Int×Int×Bool)=>ai (cf m) 99 [.t y] [] (.ret (.t (.dr [.int .i64 r.1,.int .i64 r.2.1,.bool r.2.2])) [] [])/\(r.2.2=true->Rt y)/\∃n,Dx n y/\r=U3 (pS m) n y) λy hy=>ih3 y hy rfl
   obtain⟨d,hd⟩:=abA (l:=kids) λy hy=>by obtain⟨n,h,_⟩:=(hS y hy).2.2;exact⟨n,h⟩
   have e:wg (pS m) fS (aM op n s t_ names kids)=U3 (pS m) (d+1) (aM op n s t_ names kids):=El λy hy=>by
    obtain⟨k,h,e⟩:=(hS y hy).2.2
    rw[e];exact Cb _ _ _ h (hd y hy)
   refine⟨_,Ws m op n s t_ names kids h0 h00 hsb htb h1 h2 h3 fS (λy hy=>(hS y hy).1),λh=> ?_,d+1,hd,e⟩
   obtain⟨h4,h5⟩:=Ie.1 h
   exact Rt.mk op n s t_ names kids (SQ (.aK op n s t_ names kids h00 hsb htb h0 h1 h2 h3) h4) λy hy=>(hS y hy).2.1 (h5 y hy)
  |_=>intro hk;cases hk
 exact jN λx hx=>key _ x hx rfl
theorem Ll (m:Int):∃F:Tree->Int,∀x,(T .aK x)->R1 (cf m) 57 x (.int .i64 (F x))/\(((F x)=0->Rt x)/\∃n,Dx n x/\(F x)=Kh (U3 (pS m) n x)):=by
 refine yB (P:=λx=>T .aK x) (mk:=λ(r:Int)=>.int .i64 r) (Post:=λx r=>(r=0->Rt x)/\∃n,Dx n x/\r=Kh (U3 (pS m) n x)) λx hx=> ?_
 show ∃r:{r:Int //(r=0->Rt x)/\∃n,Dx n x/\r=Kh (U3 (pS m) n x)},ai (cf m) 57 [.t x] [] (.ret (.t (.int .i64 r.1)) [] []);have dI:=hx;obtain⟨cv,n_1,s_1,qm,gK,bT,rfl,gh,dJ,tu,xB,lN,tv,xC⟩:=T.bX dI;obtain⟨zT,h_size⟩:=OI m;obtain⟨ev,az,ZV⟩:∃ev,aF (cf m) ev/\Has ev 99 (pz (λx=>T .aK x) (λx=>.dr [.int .i64 (zT x).1,.int .i64 (zT x).2.1,.bool (zT x).2.2])):=⟨_,(av (cc (λx h=>(h_size x h).1)) aI),aD⟩;refine AX.start 21 1 Tryz.func57 rfl (by decide) rfl rfl (by decide) ?_;refine AX.frames ?_;have hp2:=(h_size (aM cv n_1 s_1 qm gK bT) dI).2;have Wu:=cg ZV (x:=(aM cv n_1 s_1 qm gK bT)) dI;rcases br ((!(zT (aM cv n_1 s_1 qm gK bT)).2.2)) with cW|cW
 ·refine⟨⟨5, ?_⟩,kf ah [oC Wu,oB cW]⟩;exact⟨λh=>absurd h (by decide),by
   obtain⟨_,n,hn,e⟩:=hp2;refine⟨n,hn, ?_⟩;rw[← e];unfold Kh;rw[if_pos (k6 cW)]⟩
 ·rcases br (decide ((zT (aM cv n_1 s_1 qm gK bT)).1>16)) with iB|iB
  ·have th:=of_decide_eq_true iB;refine⟨⟨4, ?_⟩,kf ah [oC Wu,oB cW,oB iB]⟩;exact⟨λh=>absurd h (by decide),by
    obtain⟨_,n,hn,e⟩:=hp2;refine⟨n,hn, ?_⟩;rw[← e];unfold Kh;rw[if_neg (by rw[(fJ cW)];decide)];rw[if_pos (of_decide_eq_true iB)]⟩
  ·have th:=of_decide_eq_false iB;rcases br (decide ((zT (aM cv n_1 s_1 qm gK bT)).2.1>128)) with xQ|xQ
   ·have ZW:=of_decide_eq_true xQ;refine⟨⟨2, ?_⟩,kf ah [oC Wu,oB cW,oB iB,oB xQ]⟩;exact⟨λh=>absurd h (by decide),by
     obtain⟨_,n,hn,e⟩:=hp2;refine⟨n,hn, ?_⟩;rw[← e];unfold Kh;rw[if_neg (by rw[(fJ cW)];decide)];rw[if_neg (of_decide_eq_false iB)];rw[if_pos (of_decide_eq_true xQ)]⟩
   ·have ZW:=of_decide_eq_false xQ;refine⟨⟨0, ?_⟩,kf ah [oC Wu,oB cW,oB iB,oB xQ]⟩;exact⟨λ_=>hp2.1 (fJ cW),by
     obtain⟨_,n,hn,e⟩:=hp2;refine⟨n,hn, ?_⟩;rw[← e];unfold Kh;rw[if_neg (by rw[(fJ cW)];decide)];rw[if_neg (of_decide_eq_false iB)];rw[if_neg (of_decide_eq_false xQ)]⟩
end
end Go.Proofs.YtacmmaaabfhhoaaGreatDoor.w.e
namespace Go.Proofs.YtacmmaaabfhhoaaGreatDoor.w
open Go Go.Abs
def kR:Tree->Tree
 |.agg (.str a::_)=>.str a
 |_=>.str []
theorem MN {x y:Tree}:jH x y<0↔sOf x<sOf y:=Gw
theorem zU {x y:Tree}:jH x y=0↔sOf x=sOf y:=nD
theorem tD {x y z:Tree}(h1:jH x y<0)(h2:jH y z<0):jH x z<0:=by
 rw[MN] at*;exact List.lt_trans h1 h2
theorem oq {x:Tree}:¬jH x x<0:=λh=>by
 rw[zU.2 rfl] at h;exact absurd h (by decide)
theorem SZ {x y:Tree}(h:¬jH x y<0)(h2:¬jH y x<0):jH x y=0:=by
 rw[MN] at h h2;exact zU.2 (List.le_antisymm (List.not_lt.1 h2) (List.not_lt.1 h))
theorem GH {a b:List UInt8}:jH (.str a) (.str b)=0↔Tree.str a=Tree.str b:=by
 rw[zU];exact⟨λh=>by rw[show a=b from h],λh=>by injection h⟩
def pF (l:List Tree):Prop:=l.Pairwise λa b=>jH (kR a) (kR b)<0
theorem pF.at {l:List Tree}(h:pF l){i j:Nat}{a b:Tree}(hij:i<j)(ha:l[i]?=some a)(hb:l[j]?=some b):jH (kR a) (kR b)<0:=by
 obtain⟨h1,rfl⟩:=List.getElem?_eq_some_iff.1 ha;obtain⟨h2,rfl⟩:=List.getElem?_eq_some_iff.1 hb;exact List.pairwise_iff_getElem.1 h i j h1 h2 hij
theorem ZX {l:List Tree}{u x:Tree}{h:Nat}(he:l[h]?=some x)(hx:jH (kR x) u<0)(hr:pF l):∀e∈l.take (h+1),jH (kR e) u<0:=λe hm=>by
 obtain⟨i,hi⟩:=List.getElem?_of_mem hm;rw[List.getElem?_take] at hi;split at hi
 ·rename_i hlt;by_cases hih:i=h
  ·subst hih;rw[hi] at he;cases he;exact hx
  ·exact tD (hr.at (by omega) hi he) hx
 ·cases hi
theorem ZY {l:List Tree}{u x:Tree}{h:Nat}(he:l[h]?=some x)(hx:¬jH (kR x) u<0)(hr:pF l):∀e∈l.drop h,¬jH (kR e) u<0:=λe hm=>by
 obtain⟨i,hi⟩:=List.getElem?_of_mem hm;rw[List.getElem?_drop] at hi;cases i with
 |zero=>rw[Nat.add_zero,he] at hi;cases hi;exact hx
 |succ i=>exactλq=>hx (tD (hr.at (by omega) he hi) q)
def o9 (l:List Tree)(u:Tree)(r:Int×Bool):Prop:=∃k:Nat,r.1=(k:Int)/\k<=l.length/\(r.2=true↔∃e,l[k]?=some e/\kR e=u)/\(pF l->(∀e∈l.take k,jH (kR e) u<0)/\∀e∈l.drop k,¬jH (kR e) u<0)
theorem o9.here {l:List Tree}{r:Int×Bool}{k:Nat}{e:Tree}(h:o9 l (kR e) r)(hr:pF l)(he:l[k]?=some e):r=((k:Int),true):=by
 obtain⟨k2,h1,h2,h3,h4⟩:=h;obtain⟨h5,h6⟩:=h4 hr;obtain⟨a,b⟩:=r;have hk:k2=k:=by
  rcases Nat.lt_trichotomy k2 k with g|g|g
  ·have hlt:k<l.length:=(List.getElem?_eq_some_iff.1 he).1;have hx:l[k2]?=some l[k2]:=List.getElem?_eq_getElem (by omega);exact absurd (hr.at g hx he) (h6 _ (List.mem_of_getElem? (i:=0) (by rw[List.getElem?_drop,Nat.add_zero];exact hx)))
  ·exact g
  ·exact absurd (h5 e (List.mem_of_getElem? (i:=k) (by rw[List.getElem?_take,if_pos g];exact he))) oq
 subst hk;have h1:a=(k2:Int):=h1;have h3:b=true:=h3.2 ⟨e,he,rfl⟩;rw[h1,h3]
theorem o9.none {l:List Tree}{u:Tree}{r:Int×Bool}(h:o9 l u r)(hn:∀e∈l,kR e≠u):r.2=false:=by
 obtain⟨k,_,_,h3,_⟩:=h;rw[Bool.eq_false_iff];intro g;obtain⟨e,he,hu⟩:=h3.1 g;exact hn e (List.mem_of_getElem? he) hu
theorem Lm {l:List Tree}{k:Nat}{E Y:Tree}{c:Int}(he:l[k]?=some E)(hc:c=jH (kR E) Y)(hE:∃s,kR E=.str s)(hY:∃s,Y=.str s):((c==0)=true↔∃e,l[k]?=some e/\kR e=Y):=by
 obtain⟨s,hE⟩:=hE;obtain⟨s2,rfl⟩:=hY;subst hc;constructor
 ·intro h;have h:=eq_of_beq h;rw[hE] at h;exact⟨E,he,hE.trans (GH.1 h)⟩
 ·rintro ⟨e,h1,h2⟩;rw[he] at h1;cases h1;rw[h2,GH.2 rfl];rfl
def xE (l:List Tree):Prop:=∀(k:Nat) a b,l[k]?=some a->l[k+1]?=some b->¬jH (kR b) (kR a)<0
def DP (l:List Tree)(i:Nat):Prop:=∀(k:Nat) a b,i<=k->l[k]?=some a->l[k+1]?=some b->¬jH (kR b) (kR a)<0
theorem DP.last {l:List Tree}:DP l (l.length - 1):=λk a b hk h1 h2=>by
 have h3:=(List.getElem?_eq_some_iff.1 h2).1;omega
theorem DP.step {l:List Tree}{i:Nat}{a b:Tree}(h:DP l i)(ha:l[i - 1]?=some a)(hb:l[i]?=some b)(hi:0<i)(hn:¬jH (kR b) (kR a)<0):DP l (i - 1):=λk x y hk h1 h2=>by
 by_cases e:i<=k
 ·exact h k x y e h1 h2
 ·obtain rfl:k=i - 1:=by omega
  rw[h1] at ha;rw[show i - 1+1=i by omega,hb] at h2;cases ha;cases h2;exact hn
theorem DP.all {l:List Tree}(h:DP l 0):xE l:=λk a b h1 h2=>h k a b (Nat.zero_le _) h1 h2
theorem xE.not {l:List Tree}{i:Nat}{a b:Tree}(ha:l[i - 1]?=some a)(hb:l[i]?=some b)(hi:0<i)(hn:jH (kR b) (kR a)<0):¬xE l:=λh=>h (i - 1) a b ha (by rw[show i - 1+1=i by omega];exact hb) hn
theorem xE.ab4 {l:List Tree}(h:xE l)(hn:(l.map kR).Nodup)(hl:∀e∈l,∃s,kR e=.str s):pF l:=by
 have adj:∀(k:Nat) a b,l[k]?=some a->l[k+1]?=some b->jH (kR a) (kR b)<0:=λk a b h1 h2=>by
  refine Decidable.byContradiction λg=> ?_
  have h3:=SZ g (h k a b h1 h2);obtain⟨s,ea⟩:=hl a (List.mem_of_getElem? h1);obtain⟨s2,eb⟩:=hl b (List.mem_of_getElem? h2);have h4:kR a=kR b:=by
   rw[ea,eb] at h3 ⊢;exact GH.1 h3
  have n1:=(List.getElem?_eq_some_iff.1 h1);have n2:=(List.getElem?_eq_some_iff.1 h2);have h5:=List.pairwise_iff_getElem.1 hn k (k+1) (by simpa using n1.1) (by simpa using n2.1) (by omega);obtain⟨m1,rfl⟩:=n1;obtain⟨m2,rfl⟩:=n2;simp only[List.getElem_map] at h5;exact h5 h4
 have far:∀(d k:Nat) a b,l[k]?=some a->l[k+1+d]?=some b->jH (kR a) (kR b)<0:=by
  intro d;induction d with
  |zero=>exactλk a b h1 h2=>adj k a b h1 h2
  |succ d ih=>
   intro k a b h1 h2
   have hlt:=(List.getElem?_eq_some_iff.1 h2).1
   have hx:l[k+1+d]?=some l[k+1+d]:=List.getElem?_eq_getElem (by omega)
   exact tD (ih k a _ h1 hx) (adj (k+1+d) _ b hx h2)
 refine List.pairwise_iff_getElem.2 λi j hi hj hij=> ?_
 exact far (j - i - 1) i _ _ (List.getElem?_eq_getElem hi) (by rw[show i+1+(j - i - 1)=j by omega];exact List.getElem?_eq_getElem hj)
def Ln (x:Tree):Prop:=∃s,x=.str s
theorem afW {P:iP}{kt:TypeId}(hok:∀b s,uk P b kt (.t (.str s))=true):KEq P kt .string Ln where
 same:=by
  rintro _ ⟨s,rfl⟩;have r:((⟨s.toArray⟩:ByteArray)==⟨s.toArray⟩)=true:=by rw[Kz];exact beq_self_eq_true _
  exact⟨by rw[Ex,r],.string ⟨s.toArray⟩,rfl,r⟩
 other:=by
  rintro _ _ ⟨s,rfl⟩ ⟨k,rfl⟩ hne;rw[Ex];have:((⟨s.toArray⟩:ByteArray)==⟨k.toArray⟩)=false:=by
   rw[Bool.eq_false_iff];intro h;rw[Kz] at h;have h1:=eq_of_beq h;simp only at h1;have e1:s=k:=by simpa using congrArg Array.toList h1
   exact hne (by rw[e1])
  rw[this]
 ok:=by
  rintro _ b ⟨s,rfl⟩;exact hok b s
theorem EW {x:Tree}:∀{es:List (TV×TV×Nat)} {i:Nat},rT es x i=none->∀e∈es,e.1≠ .t x
 | [],_,_=>λe he=>by cases he
 | (k,v,b)::r,i,h=>λe he=>by
   unfold rT at h
   split at h
   · cases h
   · rename_i hk
     rcases List.mem_cons.1 he with rfl|he
     · exact hk
     · exact EW h e he
def S0 (es:List (TV×TV×Nat))(L:List Tree):Prop:=∃ks:List Tree,es.map (λe=>e.1)=ks.map TV.t/\ks.Nodup/\∀y,y∈ks↔y∈L.map kR
theorem S0.nil:S0 [] []:=⟨[],rfl,List.nodup_nil,λy=>by simp⟩
theorem S0.step {es:List (TV×TV×Nat)}{l:List Tree}{i c:Nat}{e x:Tree}{v:Int}(h:S0 es (l.take i))(hk:KM Ln es)(he:l[i]?=some e)(hx:kR e=x):S0 (U4 es c x v) (l.take (i+1)):=by
 obtain⟨ks,h1,h2,h3⟩:=h;have hm:∀y,y∈(l.take (i+1)).map kR↔y∈(l.take i).map kR\/y=x:=λy=>by
  rw[Es he,List.map_append,List.mem_append,List.map_singleton,List.mem_singleton,hx]
 unfold U4;split
 ·rename_i j w b hf;obtain⟨_,h4,_⟩:=Bo hk 0 j w b hf;rw[Nat.sub_zero] at h4;have h5:(es.map λe=>e.1)[j]?=some (.t x):=by rw[List.getElem?_map,h4];rfl
  have hxk:x∈ks:=by
   rw[h1,List.getElem?_map] at h5;obtain⟨z,hz,e2⟩:=Option.map_eq_some_iff.1 h5;cases e2;exact List.mem_of_getElem? hz
  refine⟨ks, ?_,h2,λy=> ?_⟩
  ·rw[ List.map_set,← h1];apply List.ext_getElem?;intro q;rw[List.getElem?_set];split
   ·rename_i e3;subst e3;split
    ·exact h5.symm
    ·rename_i h6;exact absurd (List.getElem?_eq_some_iff.1 h5).1 h6
   ·rfl
  ·rw[hm,← h3];exact⟨.inl,λq=>q.elim id λq=>q▸hxk⟩
 ·rename_i hf;have hxk:x∉ks:=λq=>by
   have h6:TV.t x∈es.map λe=>e.1:=by rw[h1];exact List.mem_map_of_mem q
   obtain⟨z,hz,e2⟩:=List.mem_map.1 h6;exact EW hf z hz e2
  refine⟨ks++[x], ?_, ?_,λy=> ?_⟩
  ·rw[List.map_append,List.map_append,h1];rfl
  ·rw[List.nodup_append];exact⟨h2,by simp,λa ha b hb=>by rw[List.mem_singleton.1 hb];exactλq=>hxk (q▸ha)⟩
  ·rw[hm,← h3,List.mem_append,List.mem_singleton]
theorem S0.lt {es:List (TV×TV×Nat)}{l:List Tree}(h:S0 es l):es.length<l.length↔¬(l.map kR).Nodup:=by
 obtain⟨ks,h1,h2,h3⟩:=h;have h4:es.length=ks.length:=by simpa using congrArg List.length h1
 have h5:=K9 h2 h3;rw[List.length_map] at h5;rw[h4];exact h5
end Go.Proofs.YtacmmaaabfhhoaaGreatDoor.w
namespace Go.Proofs.YtacmmaaabfhhoaaGreatDoor.w.e
open Go Go.Abs
set_option maxRecDepth 100000
set_option maxHeartbeats 2000000
noncomputable section
theorem S1 (m:Int):∃F:Tree->Bool,∀x,(T .bB x)->R1 (cf m) 98 x (.bool (F x))/\(True):=by
 refine yB (P:=λx=>T .bB x) (mk:=λ(r:Bool)=>.bool r) (Post:=λx r=>True) λx hx=> ?_
 show ∃r:{r:Bool // True},ai (cf m) 98 [.t x] [] (.ret (.t (.bool r.1)) [] []);have dI:=hx;obtain⟨type_1,jW,rfl,gh,dJ⟩:=T.jz dI;obtain⟨Jc,Jd⟩:=CV m;obtain⟨ev,az,Jf⟩:∃ev,aF (cf m) ev/\Has ev 48 (pz (λx=>T .bB x) (λx=>.int .i64 (Jc x))):=⟨_,(av (cc (λx h=>(Jd x h).1)) aI),aD⟩;refine AX.start 6 1 Tryz.func98 rfl (by decide) rfl rfl (by decide) ?_;refine AX.frames ?_;have hp2:=(Jd (.agg [.str type_1,.str jW]) dI).2;refine⟨⟨((Jc (.agg [.str type_1,.str jW])) != 0), ?_⟩,kf ah [oC (cg Jf (x:=.agg [.str type_1,.str jW]) dI)]⟩;trivial
theorem OJ (m:Int):∃F:Tree->Tree->Int,∀x y,(T .bN x/\y=.fn (.func 98))->R2 (cf m) 152 x y (.int .i64 (F x y))/\(True):=by
 refine qZ (P:=λx y=>T .bN x/\y=.fn (.func 98)) (mk:=λ(r:Int)=>.int .i64 r) (Post:=λx y r=>True) λx y hx=> ?_
 obtain⟨hx,hy⟩:=hx;show ∃r:{r:Int // True},ai (cf m) 152 [.t x,.t y] [] (.ret (.t (.int .i64 r.1)) [] []);have dI:=hx;obtain⟨v_1,rfl,gh,dJ⟩:=T.uW dI;subst hy;obtain⟨Yi,acU⟩:=S1 m;obtain⟨ev,az,acV⟩:∃ev,aF (cf m) ev/\Has ev 98 (pz (λx=>T .bB x) (λx=>.bool (Yi x))):=⟨_,(av (cc (λx h=>(acU x h).1)) aI),aD⟩;refine AX.start 19 2 Tryz.func152 rfl (by decide) rfl rfl (by decide) ?_;refine AX.frames ?_;refine kl (α:=Nat) ah 0 [] 19 0 [] [] [0,1,7,8] (λx=>⟨dU 19 [(0,.t (.sl v_1)),(1,.t (.fn (.func 98))),(7,.t (.int .i64 ((v_1.length:Nat):Int))),(8,.t (.int .i64 ((x:Nat):Int)))],[],0⟩) (λx=>(x<=v_1.length)) (λx=>v_1.length - x) 0 (mN (Tryz.f152.body.getD .skip) 2) [] (by show(0<=v_1.length);first|trivial|omega|(refine⟨?_, ?_⟩<;>first|omega|exact SM.nil)|simp) (λx hok=> ?_);obtain⟨i_2,tX⟩:∃y,y=x:=⟨x,rfl⟩;subst tX;replace hok:(i_2<=v_1.length):=hok;have tj:=hok;rcases br (decide (((i_2:Nat):Int)<((v_1.length:Nat):Int))) with cW|cW
 ·have tq:=of_decide_eq_true cW;obtain⟨e4,pM⟩:=jX v_1 i_2;have o6:=(dJ e4 (pE pM));obtain⟨xF,kE,rfl,xA,zV⟩:=T.jz o6;have acW:=cg acV (x:=.agg [.str xF,.str kE]) o6;rcases br ((Yi (.agg [.str xF,.str kE]))) with kN|kN
  ·refine kx ah [oB cW,oE pM,oC acW,oB kN] ?_;refine⟨⟨((i_2:Nat):Int), ?_⟩,kf ah []⟩;trivial
  ·exact⟨.inl ⟨i_2+1,⟨(by show(i_2+1)<=v_1.length;omega),(by show(v_1.length - (i_2+1))<(v_1.length - i_2);omega)⟩⟩,kr ah 19 0 [] [0,1,7,8] [oB cW,oE pM,oC acW,oB kN,oI (i_2) (by omega)]⟩
 ·have tq:=of_decide_eq_false cW;refine kx ah [oB cW] ?_;refine⟨⟨-1, ?_⟩,kf ah []⟩;trivial
theorem OL (m:Int):∃F:Tree->Tree->Bool,∀x y,(T .bN x/\y=.fn (.func 98))->R2 (cf m) 97 x y (.bool (F x y))/\(True):=by
 refine qZ (P:=λx y=>T .bN x/\y=.fn (.func 98)) (mk:=λ(r:Bool)=>.bool r) (Post:=λx y r=>True) λx y hx=> ?_
 obtain⟨hx,hy⟩:=hx;show ∃r:{r:Bool // True},ai (cf m) 97 [.t x,.t y] [] (.ret (.t (.bool r.1)) [] []);have dI:=hx;obtain⟨v_1,rfl,gh,dJ⟩:=T.uW dI;subst hy;obtain⟨S3,ZZ⟩:=OJ m;obtain⟨ev,az,Z0⟩:∃ev,aF (cf m) ev/\Has ev 152 (ug (λx y=>T .bN x/\y=.fn (.func 98)) (λx y=>.int .i64 (S3 x y))):=⟨_,(av (eC (λx y h=>(ZZ x y h).1)) aI),aD⟩;refine AX.start 9 2 Tryz.func97 rfl (by decide) rfl rfl (by decide) ?_;refine AX.frames ?_;refine⟨⟨decide ((S3 (.sl v_1) (.fn (.func 98)))>=0), ?_⟩,kf ah [oC (bY Z0 (x:=.sl v_1) (y:=.fn (.func 98)) ⟨dI,rfl⟩)]⟩;trivial
def Pv:Tree->Prop
 |.agg [.int _ k,.sl us,_]=>(k=1\/k=2)->us≠ []
 |_=>False
theorem Wv (m:Int):∃F:Tree->Tree->Bool,∀x y,(T .string x/\T .bI y)->R2 (cf m) 56 x y (.bool (F x y))/\((F x y)=true->Pv y):=by
 refine qZ (P:=λx y=>T .string x/\T .bI y) (mk:=λ(r:Bool)=>.bool r) (Post:=λx y r=>r=true->Pv y) λx y hx=> ?_
 obtain⟨hx,hy⟩:=hx;show ∃r:{r:Bool // r=true->Pv y},ai (cf m) 56 [.t x,.t y] [] (.ret (.t (.bool r.1)) [] []);have dI:=hx;obtain⟨v_1,rfl,gh⟩:=T.cN dI;have oc:=hy;obtain⟨C9,ec,vg,rfl,xw,ig,Z1⟩:=T.s7 oc;obtain⟨S4,Z2⟩:=OL m;obtain⟨I4,Sd⟩:=Gu m;obtain⟨ev,az,iE,Se⟩:∃ev,aF (cf m) ev/\Has ev 97 (ug (λx y=>T .bN x/\y=.fn (.func 98)) (λx y=>.bool (S4 x y)))/\Has ev 88 (pz (λx=>PS x) (λx=>.bool (I4 x))):=⟨_,(av (eC (λx y h=>(Z2 x y h).1)) (av (cc (λx h=>(Sd x h))) aI)),aD,(aq rfl aD)⟩;refine AX.start 59 2 Tryz.func56 rfl (by decide) rfl rfl (by decide) ?_;refine AX.frames ?_;rcases br ((S4 (.sl ec) (.fn (.func 98)))) with cW|cW
 ·refine⟨⟨false, ?_⟩,kf ah [oC (bY iE (x:=.sl ec) (y:=.fn (.func 98)) ⟨(.bN _ aQ ig),rfl⟩),oB cW]⟩;intro h;first|exact absurd (show false=true from h) (by decide)|(intro hk;refineλe=> ?_;subst e;simp_all;done)|(intro hk;exfalso;simp_all;omega)
 ·rcases br ((C9==0)) with iB|iB
  ·have th:=eq_of_beq iB;rcases br ((((ec.length:Nat):Int)==0)) with qj|qj
   ·have Ss:=eq_of_beq qj;refine⟨⟨(vg==[]), ?_⟩,kf ah ([oC (bY iE (x:=.sl ec) (y:=.fn (.func 98)) ⟨(.bN _ aQ ig),rfl⟩),oB cW,oB iB]++rq 4 (oB qj) ([]))⟩;intro h;first|exact absurd (show false=true from h) (by decide)|(intro hk;refineλe=> ?_;subst e;simp_all;done)|(intro hk;exfalso;simp_all;omega)
   ·have Ss:=ne_of_beq_false qj;refine⟨⟨false, ?_⟩,kf ah ([oC (bY iE (x:=.sl ec) (y:=.fn (.func 98)) ⟨(.bN _ aQ ig),rfl⟩),oB cW,oB iB]++rq 4 (oB qj) ([]))⟩;intro h;first|exact absurd (show false=true from h) (by decide)|(intro hk;refineλe=> ?_;subst e;simp_all;done)|(intro hk;exfalso;simp_all;omega)
  ·have th:=ne_of_beq_false iB;rcases br ((C9==1)) with kN|kN
   ·have Lp:=eq_of_beq kN;rcases br ((C9==2)) with ql|ql
    ·have ZS:=eq_of_beq ql;rcases br ((v_1==[97,99,116,105,111,110])) with ja|ja
     ·have GF:=eq_of_beq ja;rcases br (decide (((ec.length:Nat):Int)>=1)) with Bq|Bq
      ·have Sv:=of_decide_eq_true Bq;rcases br (decide (((ec.length:Nat):Int)<=16)) with tC|tC
       ·have Sw:=of_decide_eq_true tC;refine⟨⟨(vg==[]), ?_⟩,kf ah ([oC (bY iE (x:=.sl ec) (y:=.fn (.func 98)) ⟨(.bN _ aQ ig),rfl⟩),oB cW,oB iB,oB kN,oB kN,oB ql,oB ql,oB ql,oB ja]++rq 4 (oB Bq) (rq 4 (oB tC) ([])))⟩;intro h;first|exact absurd (show false=true from h) (by decide)|(intro hk;refineλe=> ?_;subst e;simp_all;done)|(intro hk;exfalso;simp_all;omega)
       ·have Sw:=of_decide_eq_false tC;refine⟨⟨false, ?_⟩,kf ah ([oC (bY iE (x:=.sl ec) (y:=.fn (.func 98)) ⟨(.bN _ aQ ig),rfl⟩),oB cW,oB iB,oB kN,oB kN,oB ql,oB ql,oB ql,oB ja]++rq 4 (oB Bq) (rq 4 (oB tC) ([])))⟩;intro h;first|exact absurd (show false=true from h) (by decide)|(intro hk;refineλe=> ?_;subst e;simp_all;done)|(intro hk;exfalso;simp_all;omega)
      ·have Sv:=of_decide_eq_false Bq;refine⟨⟨false, ?_⟩,kf ah ([oC (bY iE (x:=.sl ec) (y:=.fn (.func 98)) ⟨(.bN _ aQ ig),rfl⟩),oB cW,oB iB,oB kN,oB kN,oB ql,oB ql,oB ql,oB ja]++rq 4 (oB Bq) (rq 4 oF ([])))⟩;intro h;first|exact absurd (show false=true from h) (by decide)|(intro hk;refineλe=> ?_;subst e;simp_all;done)|(intro hk;exfalso;simp_all;omega)
     ·have GF:=ne_of_beq_false ja;rcases br (decide (((ec.length:Nat):Int)>=1)) with yQ|yQ
      ·have acX:=of_decide_eq_true yQ;rcases br (decide (((ec.length:Nat):Int)<=1)) with kT|kT
       ·have Sz:=of_decide_eq_true kT;refine⟨⟨(vg==[]), ?_⟩,kf ah ([oC (bY iE (x:=.sl ec) (y:=.fn (.func 98)) ⟨(.bN _ aQ ig),rfl⟩),oB cW,oB iB,oB kN,oB kN,oB ql,oB ql,oB ql,oB ja]++rq 4 (oB yQ) (rq 4 (oB kT) ([])))⟩;intro h;first|exact absurd (show false=true from h) (by decide)|(intro hk;refineλe=> ?_;subst e;simp_all;done)|(intro hk;exfalso;simp_all;omega)
       ·have Sz:=of_decide_eq_false kT;refine⟨⟨false, ?_⟩,kf ah ([oC (bY iE (x:=.sl ec) (y:=.fn (.func 98)) ⟨(.bN _ aQ ig),rfl⟩),oB cW,oB iB,oB kN,oB kN,oB ql,oB ql,oB ql,oB ja]++rq 4 (oB yQ) (rq 4 (oB kT) ([])))⟩;intro h;first|exact absurd (show false=true from h) (by decide)|(intro hk;refineλe=> ?_;subst e;simp_all;done)|(intro hk;exfalso;simp_all;omega)
      ·have acX:=of_decide_eq_false yQ;refine⟨⟨false, ?_⟩,kf ah ([oC (bY iE (x:=.sl ec) (y:=.fn (.func 98)) ⟨(.bN _ aQ ig),rfl⟩),oB cW,oB iB,oB kN,oB kN,oB ql,oB ql,oB ql,oB ja]++rq 4 (oB yQ) (rq 4 oF ([])))⟩;intro h;first|exact absurd (show false=true from h) (by decide)|(intro hk;refineλe=> ?_;subst e;simp_all;done)|(intro hk;exfalso;simp_all;omega)
    ·have ZS:=ne_of_beq_false ql;rcases br (decide (((ec.length:Nat):Int)>=1)) with CZ|CZ
     ·have acY:=of_decide_eq_true CZ;rcases br (decide (((ec.length:Nat):Int)<=1)) with C0|C0
      ·have SA:=of_decide_eq_true C0;refine⟨⟨(vg==[]), ?_⟩,kf ah ([oC (bY iE (x:=.sl ec) (y:=.fn (.func 98)) ⟨(.bN _ aQ ig),rfl⟩),oB cW,oB iB,oB kN,oB kN,oB ql,oB ql,oB ql,oF]++rq 4 (oB CZ) (rq 4 (oB C0) ([])))⟩;intro h;first|exact absurd (show false=true from h) (by decide)|(intro hk;refineλe=> ?_;subst e;simp_all;done)|(intro hk;exfalso;simp_all;omega)
      ·have SA:=of_decide_eq_false C0;refine⟨⟨false, ?_⟩,kf ah ([oC (bY iE (x:=.sl ec) (y:=.fn (.func 98)) ⟨(.bN _ aQ ig),rfl⟩),oB cW,oB iB,oB kN,oB kN,oB ql,oB ql,oB ql,oF]++rq 4 (oB CZ) (rq 4 (oB C0) ([])))⟩;intro h;first|exact absurd (show false=true from h) (by decide)|(intro hk;refineλe=> ?_;subst e;simp_all;done)|(intro hk;exfalso;simp_all;omega)
     ·have acY:=of_decide_eq_false CZ;refine⟨⟨false, ?_⟩,kf ah ([oC (bY iE (x:=.sl ec) (y:=.fn (.func 98)) ⟨(.bN _ aQ ig),rfl⟩),oB cW,oB iB,oB kN,oB kN,oB ql,oB ql,oB ql,oF]++rq 4 (oB CZ) (rq 4 oF ([])))⟩;intro h;first|exact absurd (show false=true from h) (by decide)|(intro hk;refineλe=> ?_;subst e;simp_all;done)|(intro hk;exfalso;simp_all;omega)
   ·have Lp:=ne_of_beq_false kN;rcases br ((C9==2)) with gD|gD
    ·have SB:=eq_of_beq gD;rcases br ((v_1==[97,99,116,105,111,110])) with hc16|hc16
     ·have acZ:=eq_of_beq hc16;rcases br (decide (((ec.length:Nat):Int)>=1)) with q4|q4
      ·have ac0:=of_decide_eq_true q4;rcases br (decide (((ec.length:Nat):Int)<=16)) with C1|C1
       ·have SC:=of_decide_eq_true C1;refine⟨⟨(vg==[]), ?_⟩,kf ah ([oC (bY iE (x:=.sl ec) (y:=.fn (.func 98)) ⟨(.bN _ aQ ig),rfl⟩),oB cW,oB iB,oB kN]++rq 4 (oB gD) ([oB hc16]++rq 4 (oB q4) (rq 4 (oB C1) ([]))))⟩;intro h;first|exact absurd (show false=true from h) (by decide)|(intro hk;refineλe=> ?_;subst e;simp_all;done)|(intro hk;exfalso;simp_all;omega)
       ·have SC:=of_decide_eq_false C1;refine⟨⟨false, ?_⟩,kf ah ([oC (bY iE (x:=.sl ec) (y:=.fn (.func 98)) ⟨(.bN _ aQ ig),rfl⟩),oB cW,oB iB,oB kN]++rq 4 (oB gD) ([oB hc16]++rq 4 (oB q4) (rq 4 (oB C1) ([]))))⟩;intro h;first|exact absurd (show false=true from h) (by decide)|(intro hk;refineλe=> ?_;subst e;simp_all;done)|(intro hk;exfalso;simp_all;omega)
      ·have ac0:=of_decide_eq_false q4;refine⟨⟨false, ?_⟩,kf ah ([oC (bY iE (x:=.sl ec) (y:=.fn (.func 98)) ⟨(.bN _ aQ ig),rfl⟩),oB cW,oB iB,oB kN]++rq 4 (oB gD) ([oB hc16]++rq 4 (oB q4) (rq 4 oF ([]))))⟩;intro h;first|exact absurd (show false=true from h) (by decide)|(intro hk;refineλe=> ?_;subst e;simp_all;done)|(intro hk;exfalso;simp_all;omega)
     ·have acZ:=ne_of_beq_false hc16;rcases br (decide (((ec.length:Nat):Int)>=1)) with s8|s8
      ·have ac1:=of_decide_eq_true s8;rcases br (decide (((ec.length:Nat):Int)<=1)) with zS|zS
       ·have ac2:=of_decide_eq_true zS;refine⟨⟨(vg==[]), ?_⟩,kf ah ([oC (bY iE (x:=.sl ec) (y:=.fn (.func 98)) ⟨(.bN _ aQ ig),rfl⟩),oB cW,oB iB,oB kN]++rq 4 (oB gD) ([oB hc16]++rq 4 (oB s8) (rq 4 (oB zS) ([]))))⟩;intro h;first|exact absurd (show false=true from h) (by decide)|(intro hk;refineλe=> ?_;subst e;simp_all;done)|(intro hk;exfalso;simp_all;omega)
       ·have ac2:=of_decide_eq_false zS;refine⟨⟨false, ?_⟩,kf ah ([oC (bY iE (x:=.sl ec) (y:=.fn (.func 98)) ⟨(.bN _ aQ ig),rfl⟩),oB cW,oB iB,oB kN]++rq 4 (oB gD) ([oB hc16]++rq 4 (oB s8) (rq 4 (oB zS) ([]))))⟩;intro h;first|exact absurd (show false=true from h) (by decide)|(intro hk;refineλe=> ?_;subst e;simp_all;done)|(intro hk;exfalso;simp_all;omega)
      ·have ac1:=of_decide_eq_false s8;refine⟨⟨false, ?_⟩,kf ah ([oC (bY iE (x:=.sl ec) (y:=.fn (.func 98)) ⟨(.bN _ aQ ig),rfl⟩),oB cW,oB iB,oB kN]++rq 4 (oB gD) ([oB hc16]++rq 4 (oB s8) (rq 4 oF ([]))))⟩;intro h;first|exact absurd (show false=true from h) (by decide)|(intro hk;refineλe=> ?_;subst e;simp_all;done)|(intro hk;exfalso;simp_all;omega)
    ·have SB:=ne_of_beq_false gD;rcases br ((C9==3)) with Lq|Lq
     ·have ac3:=eq_of_beq Lq;rcases br ((((ec.length:Nat):Int)==0)) with tY|tY
      ·have SD:=eq_of_beq tY;rcases br ((!(v_1==[97,99,116,105,111,110]))) with Jn|Jn
       ·have ac4:=ne_of_beq_false (k6 Jn);refine⟨⟨(I4 (.str vg)), ?_⟩,kf ah [oC (bY iE (x:=.sl ec) (y:=.fn (.func 98)) ⟨(.bN _ aQ ig),rfl⟩),oB cW,oB iB,oB kN,oB gD,oB Lq,oB tY,oB tY,oB tY,oB Jn,oB Jn,oB Jn,oC (cg Se (x:=.str vg) ⟨_,rfl⟩),oB Jn]⟩;intro h;first|exact absurd (show false=true from h) (by decide)|(intro hk;refineλe=> ?_;subst e;simp_all;done)|(intro hk;exfalso;simp_all;omega)
       ·have ac4:=eq_of_beq (fJ Jn);refine⟨⟨false, ?_⟩,kf ah ([oC (bY iE (x:=.sl ec) (y:=.fn (.func 98)) ⟨(.bN _ aQ ig),rfl⟩),oB cW,oB iB,oB kN,oB gD,oB Lq,oB tY,oB tY,oB tY]++rq 4 (oB Jn) ([]))⟩;intro h;first|exact absurd (show false=true from h) (by decide)|(intro hk;refineλe=> ?_;subst e;simp_all;done)|(intro hk;exfalso;simp_all;omega)
      ·have SD:=ne_of_beq_false tY;refine⟨⟨false, ?_⟩,kf ah ([oC (bY iE (x:=.sl ec) (y:=.fn (.func 98)) ⟨(.bN _ aQ ig),rfl⟩),oB cW,oB iB,oB kN,oB gD,oB Lq,oB tY,oB tY,oB tY]++rq 4 oF ([]))⟩;intro h;first|exact absurd (show false=true from h) (by decide)|(intro hk;refineλe=> ?_;subst e;simp_all;done)|(intro hk;exfalso;simp_all;omega)
     ·have ac3:=ne_of_beq_false Lq;refine⟨⟨false, ?_⟩,kf ah [oC (bY iE (x:=.sl ec) (y:=.fn (.func 98)) ⟨(.bN _ aQ ig),rfl⟩),oB cW,oB iB,oB kN,oB gD,oB Lq]⟩;intro h;first|exact absurd (show false=true from h) (by decide)|(intro hk;refineλe=> ?_;subst e;simp_all;done)|(intro hk;exfalso;simp_all;omega)
end
end Go.Proofs.YtacmmaaabfhhoaaGreatDoor.w.e
