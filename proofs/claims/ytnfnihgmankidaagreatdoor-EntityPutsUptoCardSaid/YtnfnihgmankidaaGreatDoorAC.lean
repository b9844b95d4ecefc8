/- strconv.FormatInt of minus three: one number of the table of tens is all it reads. -/
import Derived.Test.YtnfnihgmankidaaGreatDoorFmt
import Derived.Test.YtnfnihgmankidaaGreatDoorK
import Derived.Test.YtnfnihgmankidaaGreatDoorC
import Derived.Test.YtnfnihgmankidaaGreatDoorF
import Derived.WalkKit
import Derived.OwnWalkIn
import Derived.TacticsInMore
import Derived.Shelf.Spec.SlicesInsert
import Derived.Lib.AppendZerosOnto
import Derived.Laws.NewBlocks
import Derived.Lib.Overlaps
import Derived.Test.YtnfnihgmankidaaGreatDoorN
set_option linter.unusedVariables false
set_option linter.unusedSimpArgs false
namespace Go.Proofs.Zl
open Go.Shelf Go.RowKit Go.Sort Go.Lib
variable {P:Program}{ρ:Ren}
set_option maxHeartbeats 2000000
set_option maxRecDepth 100000
theorem nd3 (L:LaysM.n284 P ρ)(w:World)(hcell:w.cell? ⟨(ρ.g 17),0,none⟩=some (.int .u64 1)):
 Calls P (ρ.f 284) #[.int .u64 3] w λe w'=>e=.returned (.int .i64 1)/\w'=w:=by
 have mixed:=L.mixed
 have t53:=L.t53;have a53:=L.a53;have z53:=L.z53;have v53:=L.v53
 have t3:=L.t3;have a3:=L.a3;have z3:=L.z3;have v3:=L.v3
 have t212:=L.t212;have a212:=L.a212;have z212:=L.z212;have v212:=L.v212
 have t0:=L.t0;have a0:=L.a0;have z0:=L.z0;have v0:=L.v0
 have t4:=L.t4;have a4:=L.a4;have z4:=L.z4;have v4:=L.v4
 have ajz:∀args w,(callFunc (ρ.f 129) args).run P w=.ok (.enter (ρ.f 129) args) w:=enters_of L.f129 (by kernel_rfl) rfl
 have ajA:∀args w,(callFunc (ρ.f 317) args).run P w=.ok (.enter (ρ.f 317) args) w:=enters_of L.f317 (by kernel_rfl) rfl
 have ajB:∀args w,(callFunc (ρ.f 318) args).run P w=.ok (.enter (ρ.f 318) args) w:=enters_of L.f318 (by kernel_rfl) rfl
 have b3:Lib.bitLen 3=2:=by decide
 have l2:Lib.l10 2=0:=by decide
 have c1:=Any.bits_Len64 (P:=P) (ρ:=ρ) {L with} 3 w (by omega) (by omega)
 have c2:=Any.internal_strconv_log10Pow2 (P:=P) (ρ:=ρ) {L with} 2 (by omega) w
 go_enter L.f284,Body.n284_ntmps ρ
 go_wp2_with (first
  |(go_at_fn (ρ.f 129);refine c1.mono ?_;rintro e w' ⟨rfl,rfl⟩)
  |(go_at_fn (ρ.f 317);refine c2.mono ?_;rintro e w' ⟨rfl,rfl⟩)
  |(go_at_fn (ρ.f 318);refine(Any.internal_strconv_bool2_int {L with} _ _).mono ?_;rintro e w' ⟨rfl,rfl⟩))
 all_goals go_ret
 all_goals (refine⟨?_,rfl⟩;trivial)
set_option maxHeartbeats 6400000 in
theorem fi3 (L:LaysM.n246 P ρ)(w:World)(hcell:w.cell? ⟨(ρ.g 17),0,none⟩=some (.int .u64 1)):
 Calls P (ρ.f 246) #[.int .i64 (-3),.int .i64 10] w λe w'=>e=.returned (.string ⟨[45,51].toArray⟩)/\∃k os,w'=grow (w.drewN k) os:=by
 have mixed:=L.mixed
 have t2:=L.t2;have a2:=L.a2;have z2:=L.z2;have v2:=L.v2
 have t3:=L.t3;have a3:=L.a3;have z3:=L.z3;have v3:=L.v3
 have t9:=L.t9;have a9:=L.a9;have z9:=L.z9;have v9:=L.v9
 have t4:=L.t4;have a4:=L.a4;have z4:=L.z4;have v4:=L.v4
 have t171:=L.t171;have a171:=L.a171;have z171:=L.z171;have v171:=L.v171
 have t0:=L.t0;have a0:=L.a0;have z0:=L.z0;have v0:=L.v0
 have t53:=L.t53;have a53:=L.a53;have z53:=L.z53;have v53:=L.v53
 have t37:=L.t37;have a37:=L.a37;have z37:=L.z37;have v37:=L.v37
 have t5:=L.t5;have a5:=L.a5;have z5:=L.z5;have v5:=L.v5
 have t173:=L.t173;have a173:=L.a173;have z173:=L.z173;have v173:=L.v173
 have ajC:∀args w,(callFunc (ρ.f 283) args).run P w=.ok (.enter (ρ.f 283) args) w:=enters_of L.f283 (by kernel_rfl) rfl
 have ajD:∀args w,(callFunc (ρ.f 284) args).run P w=.ok (.enter (ρ.f 284) args) w:=enters_of L.f284 (by kernel_rfl) rfl
 have ajE:∀args w,(callFunc (ρ.f 285) args).run P w=.ok (.enter (ρ.f 285) args) w:=enters_of L.f285 (by kernel_rfl) rfl
 have hwr:IntKind.u64.wrap (-IntKind.u64.wrap (-3))=3:=by rw[IntKind.wrap_u64,IntKind.wrap_u64];omega
 have hal:P.arrayLen (ρ.t 171)=24:=by simp[Program.arrayLen,L.t171]
 have ajF:∀W,(Instr.sliceAt (ρ.t 171) (.pointer (some ⟨w.heap.size,0,none⟩)) (some (.int .i64 1)) (some (.int .i64 2)) none).run P W=.ok (.slice (some ⟨w.heap.size,1,none⟩) 1 23) W:=λW=>by
  rw[run_sliceAt_array_lh W (ρ.t 171) ⟨w.heap.size,0,none⟩ (by simp[Program.arrayLen,Program.elem,L.t171]) .i64 .i64 1 2 (by omega) (by omega) (by rw[hal];omega)];go_simp
 have hH0:=Lib.holds_zero w (ρ.t 171) 1 (by omega)
 have hfmt:=Any.internal_strconv_formatBase10 {L with} w.heap.size 1 23 3 (Array.replicate 1 0) (w.alloc (.cells Lib.zeros24 (ρ.t 171))) hH0 (by rw[Array.size_replicate];omega) (by omega) (by rw[Array.size_replicate];omega)
 rw[Array.size_replicate] at hfmt
 have HH0:=Lib.hid hH0
 have acC:(w.alloc (.cells Lib.zeros24 (ρ.t 171))).cell? ⟨(ρ.g 17),0,none⟩=some (.int .u64 1):=by
  rw[World.cell?_alloc_old]
  ·exact hcell
  ·unfold World.cell? at hcell;simp only at hcell;split at hcell
   ·rename_i hh;exact Nat.ne_of_lt (Array.getElem?_eq_some_iff.1 hh).1
   ·cases hcell
 have hnd:=nd3 (P:=P) (ρ:=ρ) {L with} _ acC
 clear hH0 hal
 go_enter L.f246,Body.n246_ntmps ρ
 go_wp2_with (first
  |(go_at_fn (ρ.f 284);refine hnd.mono ?_;rintro e w' ⟨rfl,rfl⟩))
 go_at_fn (ρ.f 285)
 refine hfmt.mono ?_
 rintro e w' ⟨rfl,k,v',dk,rfl,hF⟩
 have hc0:((putRow (λ(b:UInt8)=>Value.int .u8 (b.toNat:Int)) (w.alloc (.cells Lib.zeros24 (ρ.t 171))) w.heap.size 1 dk).drewN k).cell? ⟨w.heap.size,0,none⟩=some (.int .u8 0):=by
  rw[World.cell?_drewN,cell?_putRow_other _ _ _ _ _ _ (Or.inr (Or.inl (Nat.zero_lt_one))),World.cell?_alloc_new];exact Lib.zeros24_at 0 (by omega)
 have hf0:((putRow (λ(b:UInt8)=>Value.int .u8 (b.toNat:Int)) (w.alloc (.cells Lib.zeros24 (ρ.t 171))) w.heap.size 1 dk).drewN k).frozen? ⟨w.heap.size,0,none⟩=false:=by
  rw[World.frozen?_drewN,frozen?_putRow];exact World.frozen?_alloc_new _ _ _ _
 have hal:P.arrayLen (ρ.t 171)=24:=by simp[Program.arrayLen,L.t171]
 have ajG:∀W,(Instr.sliceAt (ρ.t 171) (.pointer (some ⟨w.heap.size,0,none⟩)) none (some (.int .i64 2)) none).run P W=.ok (.slice (some ⟨w.heap.size,0,none⟩) 2 24) W:=λW=>by
  rw[run_sliceAt_array_h W (ρ.t 171) ⟨w.heap.size,0,none⟩ (by simp[Program.arrayLen,Program.elem,L.t171]) .i64 2 (by omega) (by rw[hal];omega)];go_simp
 clear hal
 have hcv:(convert (ρ.t 37) (ρ.t 9) (.slice (some ⟨w.heap.size,0,none⟩) 2 24)).run P (((putRow (λ(b:UInt8)=>Value.int .u8 (b.toNat:Int)) (w.alloc (.cells Lib.zeros24 (ρ.t 171))) w.heap.size 1 dk).drewN k).setCell ⟨w.heap.size,0,none⟩ (.int .u8 45))=.ok (.string ⟨[45,51].toArray⟩) (((putRow (λ(b:UInt8)=>Value.int .u8 (b.toNat:Int)) (w.alloc (.cells Lib.zeros24 (ρ.t 171))) w.heap.size 1 dk).drewN k).setCell ⟨w.heap.size,0,none⟩ (.int .u8 45)):=by
  have hd:Lib.decDigits 3=[51]:=by kernel_rfl
  have hn:Lib.nDigits 3=1:=by kernel_rfl
  have hF':FmtInv (Lib.nDigits 3) 3 0 v' dk:=by rw[hn];exact hF
  have h:=run_convert_bytes_back (P:=P) (((putRow (λ(b:UInt8)=>Value.int .u8 (b.toNat:Int)) (w.alloc (.cells Lib.zeros24 (ρ.t 171))) w.heap.size 1 dk).drewN k).setCell ⟨w.heap.size,0,none⟩ (.int .u8 45)) (ρ.t 37) (ρ.t 9) (ρ.t 5) ⟨w.heap.size,0,none⟩ 24 (45::Lib.decDigits 3) L.t37 L.t5 L.t9 (λj hj=>by
   rw[Lib.add_plain];cases j with
   |zero=>exact World.cell?_setCell_same _ _ _ hc0
   | succ i=>
     have hi:i<(Lib.decDigits 3).length:=by simpa using hj
     rw[World.cell?_setCell_other _ _ _ _ (by simp),List.getElem_cons_succ,Lib.row_is_numeral hF' i hi,World.cell?_drewN,show 0+(i+1)=1+i by omega]
     exact cell?_putRow (λ(b:UInt8)=>Value.int .u8 (b.toNat:Int)) _ w.heap.size 1 _ dk HH0.out (by rw[hF.size,Array.size_replicate]) i (by rw[hF.size];rw[hd] at hi;simpa using hi))
  rw[hd] at h;exact h
 go_wp2
 go_ret
 obtain⟨os,eo⟩:=Lib.fin_neg w (.cells Lib.zeros24 (ρ.t 171)) dk k (.int .u8 45)
 exact⟨rfl,k,os,eo⟩
theorem fm3 (L:LaysM.n173 P ρ)(w:World)(hcell:w.cell? ⟨(ρ.g 17),0,none⟩=some (.int .u64 1)):
 Calls P (ρ.f 173) #[.int .i64 (-3),.int .i64 10] w λe w'=>e=.returned (.string ⟨[45,51].toArray⟩)/\∃k os,w'=grow (w.drewN k) os:=by
 have mixed:=L.mixed
 have t2:=L.t2;have a2:=L.a2;have z2:=L.z2;have v2:=L.v2
 have t3:=L.t3;have a3:=L.a3;have z3:=L.z3;have v3:=L.v3
 have t9:=L.t9;have a9:=L.a9;have z9:=L.z9;have v9:=L.v9
 have ajH:∀args w,(callFunc (ρ.f 246) args).run P w=.ok (.enter (ρ.f 246) args) w:=enters_of L.f246 (by kernel_rfl) rfl
 go_enter L.f173,Body.n173_ntmps ρ
 go_wp2_with (go_at_fn (ρ.f 246);refine(fi3 {L with} _ hcell).mono ?_;rintro e w' ⟨rfl,k,os,rfl⟩)
 go_ret
 exact⟨rfl,k,os,rfl⟩
end Go.Proofs.Zl
namespace Go.Proofs
open Go.RowKit Go.Sort Go.Lib
theorem Tryz.Zl (w:World)(h:w.cell? ⟨4,0,none⟩=some (.int .u64 1)):
 Calls Tryz.prog 107 #[.int .i64 (-3),.int .i64 10] w λe w'=>e=.returned (.string ⟨[45,51].toArray⟩)/\∃k os,w'=grow (w.drewN k) os:=Zl.fm3 Tryz.laysM173 w h
end Go.Proofs
noncomputable section
namespace Go.Abs
open Go
def V9:List TV->Option (List Tree)
 | []=>some []
 |.t x::r=>match V9 r with|some l=>some (x::l)|none=>none
 |_=>none
theorem Jv:∀{a:List TV} {l:List Tree},V9 a=some l->a=l.map .t
 | [],l,h=>by cases h;rfl
 | .t x::r,l,h=>by
   simp only[V9] at h
   split at h
   · rename_i l' e
     cases h
     rw[Jv e];rfl
   · cases h
 |.cc::_,_,h=>by cases h
 |.jS _::_,_,h=>by cases h
 |.ref _ _ _::_,_,h=>by cases h
 |.ptr _ _::_,_,h=>by cases h
 |.map _::_,_,h=>by cases h
 |.js _ _ _::_,_,h=>by cases h
 |.jt _ _::_,_,h=>by cases h
 |.any::_,_,h=>by cases h
 |.fn _ _ _::_,_,h=>by cases h
 |.iface _ _::_,_,h=>by cases h
 |.agg _::_,_,h=>by cases h
 |.cv _::_,_,h=>by cases h
def Fe (a b:List Tree):Bool:=B0 (B1 30) a b
theorem GZ {a b:List Tree}(h:Fe a b=true):a=b:=wu (wA 30) h
def PU (k:List Tree):List (List Tree×Tree)->Option Tree
 | []=>none
 |(a,v)::r=>cond (Fe k a) (some v) (PU k r)
theorem Ff {k:List Tree}{v:Tree}:∀{tab:List (List Tree×Tree)},PU k tab=some v->(k,v)∈tab
 | [],h=>by cases h
 | (a,u)::r,h=>by
  simp only[PU] at h
  cases hb:Fe k a with
  |false=>rw[hb] at h;exact List.mem_cons_of_mem _ (Ff h)
  |true=>
   rw[hb] at h
   obtain rfl:=GZ hb
   obtain rfl:u=v:=by simpa using h
   exact List.mem_cons_self
def kK (tab:List (List Tree×Tree)):iy:=λ_ args aU=>match aU with
 | []=>match V9 args with
  |some ts=>match PU ts tab with
   |some v=>some (.ret (.t v) [] [])
   |none=>none
  |none=>none
 |_=>none
theorem mU {C:cE}{g:FuncId}{tab:List (List Tree×Tree)}(h0:∀p∈tab,aq C g (p.1.map .t) [] (.ret (.t p.2) [] [])):gu C g (kK tab):=by
 intro ev aC args aU r h G w vs hw hg had hH hv;unfold kK at h;split at h
 ·split at h
  ·rename_i ts e;split at h
   ·rename_i v hf;cases h;obtain rfl:=Jv e;exact h0 _ (Ff hf) G w vs hw hg had hH hv
   ·cases h
  ·cases h
 ·cases h
def yh (C:cE)(fuel:Nat)(f:FuncId)(s:iy):iy:=λev args aU=>match s ev args aU with
 |some r=>some r
 |none=>QS C ev fuel f args aU
theorem Fg {C:cE}{fuel:Nat}{g:FuncId}{s:iy}(hm:C.P.prog.follows .mixedOrders=true)(h0:gu C g s):gu C g (yh C fuel g s):=by
 intro ev aC args aU r h G w vs hw hg had hH hv;unfold yh at h;split at h
 ·rename_i r' e;cases h;exact h0 ev aC args aU r e G w vs hw hg had hH hv
 ·exact Is hm aC h hw hg had hH hv
def PV (ty:TypeId)(x v y:Tree):iy:=λ_ args aU=>match args,aU with
 | [.ptr (.arg 0) 0],[.cells ty' [.t x']]=>cond (Nat.beq ty' ty) (cond (B1 30 x' x) (some (.ret (.t v) [.cells ty [.t y]] [])) none) none
 |_,_=>none
theorem Wa {C:cE}{g:FuncId}{ty:TypeId}{x v y:Tree}(h0:aq C g [.ptr (.arg 0) 0] [.cells ty [.t x]] (.ret (.t v) [.cells ty [.t y]] [])):gu C g (PV ty x v y):=by
 intro ev aC args aU r h G w vs hw hg had hH hv;unfold PV at h;split at h
 ·rename_i ty' x';cases hb:Nat.beq ty' ty with
  |false=>rw[hb] at h;cases h
  | true=>
    cases hs:B1 30 x' x with
    |false=>rw[hb,hs] at h;cases h
    | true=>
      rw[hb,hs] at h
      obtain rfl:=Nat.eq_of_beq_eq_true hb
      obtain rfl:=wA _ _ _ hs
      cases h
      exact h0 G w vs hw hg had hH hv
 ·cases h
end Go.Abs
end
namespace Go.Abs
open Go
section
variable {C:cE}{ev:aW}{f:FuncId}{st:St}
theorem BA {P:Program}{ops ops':Array Oper}{Q:Exit->Act->World->Prop}{i i':Nat}{o:Oper}{s:Array Edge}{K:Act->World->Prop}{a:Act}{w:World}(h1:ops[i]?=some o)(h2:ops'[i']?=some {o with after:=s})(hg:o.guard=none)(h:wpOp P ops' Q i' K a w):wpOp P ops Q i K a w:=by
 unfold wpOp at h ⊢;rw[h2] at h;rw[h1];have e1:Region.wanted o (yielded ops a.tmps)=true:=by simp[Region.wanted,hg]
 have e2:Region.wanted {o with after:=s} (yielded ops' a.tmps)=true:=by simp[Region.wanted,hg]
 simp only[e1,e2,if_true] at h ⊢;exact h
theorem yj {P:Program}{ops ops':Array Oper}{Q:Exit->Act->World->Prop}{σ:Nat->Nat}(hσ:∀i,σ (σ i)=i)(q:Nat)
 (hsz:ops'.size=ops.size)(hlt:∀i,i<ops.size->σ i<ops.size)
 (hop:∀i o,ops[i]?=some o->o.guard=none/\∃s,ops'[σ i]?=some {o with after:=s}/\(∀e∈s,Region.binds .any e=true->e.on=σ q\/∃e2∈o.after,Region.binds .any e2=true/\e.on=σ e2.on)/\(∀e∈o.after,Region.binds .any e=true->∃e2∈s,Region.binds .any e2=true/\e2.on=σ e.on)):
 ∀(fuel:Nat) (listed eZ:Array Bool) (a:Act) (w:World),listed.size=ops.size->eZ.size=ops.size->(∀i,eZ[σ i]?=listed[i]?)->listed[q]?=some true->wpAny P .any ops' Q fuel eZ a w->wpAny P .any ops Q fuel listed a w:=by
 have fwd:∀(listed eZ:Array Bool),(∀i,eZ[σ i]?=listed[i]?)->listed[q]?=some true->∀i,i∈Region.ready .any ops listed->σ i∈Region.ready .any ops' eZ:=by
  intro listed eZ hl hq i hi;rw[mem_ready] at hi ⊢;obtain⟨h1,o,h2,h3⟩:=hi;obtain⟨_,s,h4,h5,_⟩:=hop i o h2;refine⟨by rw[Array.getD_eq_getD_getElem?] at h1 ⊢;rw[hl];exact h1,_,h4,λe he hb=> ?_⟩;rcases h5 e he hb with h6|⟨e2,h6,h7,h8⟩
  ·rw[h6,Array.getD_eq_getD_getElem?,hl,hq];rfl
  ·have:=h3 e2 h6 h7;rw[Array.getD_eq_getD_getElem?] at this ⊢;rw[h8,hl];exact this
 have bwd:∀(listed eZ:Array Bool),eZ.size=ops.size->(∀i,eZ[σ i]?=listed[i]?)->∀j,j∈Region.ready .any ops' eZ->σ j∈Region.ready .any ops listed:=by
  intro listed eZ hs hl j hj;rw[mem_ready] at hj ⊢;obtain⟨h1,o',h2,h3⟩:=hj;have hjl:j<ops.size:=by have:=(Array.getElem?_eq_some_iff.1 h2).1;omega
  have hjs:=hlt j hjl;obtain⟨_,s,h4,_,h5⟩:=hop (σ j) _ (Array.getElem?_eq_getElem hjs);rw[hσ,h2] at h4;refine⟨by rw[Array.getD_eq_getD_getElem?] at h1 ⊢;rw[← hl,hσ];exact h1,_,Array.getElem?_eq_getElem hjs,λe he hb=> ?_⟩;obtain⟨e2,h6,h7,h8⟩:=h5 e he hb;have e9:e2∈o'.after:=by
   have:=Option.some.inj h4;rw[this];exact h6
  have:=h3 e2 e9 h7;rw[Array.getD_eq_getD_getElem?] at this ⊢;rw[h8,hl] at this;exact this
 intro fuel
 induction fuel with
 | zero=>
   intro listed eZ a w hs hs' hl hq h
   refine⟨List.eq_nil_iff_forall_not_mem.2 λi hi=> ?_,h.2⟩
   have:=fwd listed eZ hl hq i hi
   rw[h.1] at this;cases this
 | succ fuel ih=>
   intro listed eZ a w hs hs' hl hq h
   refine⟨λhr=>h.1 (List.eq_nil_iff_forall_not_mem.2 λj hj=> ?_),λi hi=> ?_⟩
   · have:=bwd listed eZ hs' hl j hj
     rw[hr] at this;cases this
   · have hm:=fwd listed eZ hl hq i hi
     have hi2:=hi
     rw[mem_ready] at hi2
     obtain⟨_,o,h2,_⟩:=hi2
     obtain⟨hg,s,h4,_,_⟩:=hop i o h2
     have hil:i<ops.size:=(Array.getElem?_eq_some_iff.1 h2).1
     refine BA h2 h4 hg (wpOp_mono (λa w hk=>ih (listed.setIfInBounds i true) (eZ.setIfInBounds (σ i) true) a w (by simpa using hs) (by simpa using hs') (λj=> ?_) ?_ hk) (h.2 _ hm))
     · rw[Array.getElem?_setIfInBounds,Array.getElem?_setIfInBounds]
       by_cases e:i=j
       · subst e
         rw[if_pos rfl,if_pos rfl,hs,hs',if_pos hil,if_pos (hlt i hil)]
       · rw[if_neg e,if_neg (λh=>e (by rw[← hσ i,h,hσ])),hl]
     · rw[Array.getElem?_setIfInBounds]
       split
       · rename_i e;subst e;rw[if_pos (by omega)]
       · exact hq
theorem PW {l l':List Oper}{recs L6:List Rec}{s0:tN}{D:Nat->Bool}:∀{n:Nat},(∀j,j<n->D j=true->l[j]?=l'[j]? /\recs[j]?=L6[j]?)->fP l recs s0 D n=fP l' L6 s0 D n
 |0,_=>rfl
 | n+1,h=>by
  have ih:=PW (l:=l) (l':=l') (recs:=recs) (L6:=L6) (s0:=s0) (D:=D) (n:=n) λj hj hd=>h j (by omega) hd
  unfold fP
  rw[ih]
  cases hD:D n with
  |false=>cases l[n]? <;>cases recs[n]? <;>cases l'[n]? <;>cases L6[n]? <;>rfl
  |true=>
   obtain⟨h1,h2⟩:=h n (by omega) hD
   rw[h1,h2]
def xX (p i:Nat):Nat:=if i=p then p+1 else if i=p+1 then p else i
theorem G4 (p i:Nat):xX p (xX p i)=i:=by
 unfold xX;split
 ·subst_vars;simp
 ·split
  ·subst_vars;simp
  ·simp_all
structure Oa (ops qZ q3:Array Oper)(p:Nat)(x y:Oper):Prop where
 hx:ops[p]?=some x
 hy:ops[p+1]?=some y
 guard:∀(i:Nat) (o:Oper),ops[i]?=some o->o.guard=none
 szA:qZ.size=ops.size
 szB:q3.size=ops.size
 eqA:∀i,i≠p+1->qZ[i]?=ops[i]?
 afK:qZ[p+1]?=some {y with after:=y.after.push ⟨p,.data⟩}
 eqB:∀i,i≠p->i≠p+1->q3[i]?=ops[i]?
 acD:q3[p]?=some y
 aid:q3[p+1]?=some {x with after:=x.after.push ⟨p,.data⟩}
 sym:∀(i:Nat) (o:Oper),ops[i]?=some o->i≠p->i≠p+1->∀e∈o.after,Region.binds .any e=true->∃e2∈o.after,Region.binds .any e2=true/\e2.on=xX p e.on
 nox:∀e∈x.after,e.on≠p/\e.on≠p+1
 noy:∀e∈y.after,e.on≠p/\e.on≠p+1
theorem Oa.toA {ops qZ q3:Array Oper}{p:Nat}{x y:Oper}(h:Oa ops qZ q3 p x y){P:Program}{Q:Exit->Act->World->Prop}(fuel:Nat)(listed:Array Bool)(a:Act)(w:World)(hs:listed.size=ops.size)(hq:listed[p]?=some true)(hw:wpAny P .any qZ Q fuel listed a w):wpAny P .any ops Q fuel listed a w:=
 yj (σ:=id) (λ_=>rfl) p h.szA (λ_ h=>h) (λi o ho=>by
  refine⟨h.guard i o ho, ?_⟩;by_cases hi:i=p+1
  ·subst hi;rw[h.hy] at ho;cases ho;refine⟨_,h.afK,λe he hb=> ?_,λe he hb=>⟨e,by simp[he],hb,rfl⟩⟩;rcases Array.mem_push.1 he with he|he
   ·exact .inr ⟨e,he,hb,rfl⟩
   ·subst he;exact .inl rfl
  ·exact⟨o.after,(h.eqA i hi).trans ho,λe he hb=>.inr ⟨e,he,hb,rfl⟩,λe he hb=>⟨e,he,hb,rfl⟩⟩) fuel listed listed a w hs hs (λ_=>rfl) hq hw
theorem Oa.toB {ops qZ q3:Array Oper}{p:Nat}{x y:Oper}(h:Oa ops qZ q3 p x y){P:Program}{Q:Exit->Act->World->Prop}(fuel:Nat)(listed eZ:Array Bool)(a:Act)(w:World)(hs:listed.size=ops.size)(hs':eZ.size=ops.size)(hl:∀i,eZ[xX p i]?=listed[i]?)(hq:listed[p+1]?=some true)(hw:wpAny P .any q3 Q fuel eZ a w):wpAny P .any ops Q fuel listed a w:=by
 have hlt:p+1<ops.size:=(Array.getElem?_eq_some_iff.1 h.hy).1;have s1:xX p p=p+1:=by simp[xX]
 have s2:xX p (p+1)=p:=by simp[xX]
 have s3:∀i,i≠p->i≠p+1->xX p i=i:=λi h1 h2=>by simp[xX,h1,h2]
 refine yj (σ:=xX p) (G4 p) (p+1) h.szB (λi hi=>by unfold xX;split<;>(try split)<;>omega) (λi o ho=> ?_) fuel listed eZ a w hs hs' hl hq hw;refine⟨h.guard i o ho, ?_⟩;by_cases h1:i=p
 ·subst h1;rw[h.hx] at ho;cases ho;rw[s1];refine⟨_,h.aid,λe he hb=> ?_,λe he hb=>⟨e,by simp[he],hb,(s3 _ (h.nox e he).1 (h.nox e he).2).symm⟩⟩;rcases Array.mem_push.1 he with he|he
  ·exact .inr ⟨e,he,hb,(s3 _ (h.nox e he).1 (h.nox e he).2).symm⟩
  ·subst he;exact .inl s2.symm
 ·by_cases h2:i=p+1
  ·subst h2;rw[h.hy] at ho;cases ho;rw[s2];exact⟨_,h.acD,λe he hb=>.inr ⟨e,he,hb,(s3 _ (h.noy e he).1 (h.noy e he).2).symm⟩,λe he hb=>⟨e,he,hb,(s3 _ (h.noy e he).1 (h.noy e he).2).symm⟩⟩
  ·rw[s3 i h1 h2];refine⟨o.after,(h.eqB i h1 h2).trans ho,λe he hb=>.inr ?_,λe he hb=> ?_⟩
   ·obtain⟨e2,h3,h4,h5⟩:=h.sym i o ho h1 h2 e he hb;exact⟨e2,h3,h4,by rw[h5,G4]⟩
   ·obtain⟨e2,h3,h4,h5⟩:=h.sym i o ho h1 h2 e he hb;exact⟨e2,h3,h4,h5⟩
structure BB (C:cE)(ev:aW)(f:FuncId)(ops:Array Oper)(st:St)(recs:List Rec):Prop where
 runs:yw C ev f ops (jH ops.toList []) st.tick 0 ops.toList {slots:=st.slots,H:=st.H} none=some recs
 free:jx ops ops.toList recs (jH ops.toList []) ops.toList recs 0=true
 back:qv 0 ops.toList=true
 calm:iq 0 recs=none
theorem BB.drawn {ops:Array Oper}{recs:List Rec}(h:BB C ev f ops st recs):sO C ev f ops st recs:=by
 obtain⟨h1,h2⟩:=OL (l:=ops.toList) (recs:=recs) (s0:=s0 st) (D:=λ_=>true) (λ_=>rfl) (i:=0) h.runs (by simp) (by simp);exact⟨by simpa using h1,λj o ho=>by have:=h2 j o ho;simpa using this,λi j x y rx ry hij hx hy yF S0=>(Ib h.free hij hx hy yF S0).imp (λh=>h) .inl,h.back⟩
noncomputable def Cz (ops:Array Oper)(st:St)(recs:List Rec):St:={slots:=(u6 ops.toList recs {slots:=st.slots,H:=st.H}).slots,H:=(u6 ops.toList recs {slots:=st.slots,H:=st.H}).H,tick:=st.tick+ops.size}
theorem BB.Cz {ops:Array Oper}{recs:List Rec}(h:BB C ev f ops st recs):Go.Abs.Cz ops st recs={slots:=(fP ops.toList recs (s0 st) (λ_=>true) ops.size).slots,H:=(fP ops.toList recs (s0 st) (λ_=>true) ops.size).H,tick:=st.tick+ops.size}:=by
 have h1:=h.drawn.len;have Dw:u6 ops.toList recs {slots:=st.slots,H:=st.H}=fP ops.toList recs (s0 st) (λ_=>true) ops.size:=by
  have:=Gq (l:=ops.toList) (recs:=recs) (s0:=s0 st) (D:=λ_=>true) (λ_=>rfl) (os:=ops.toList) (rs:=recs) (i:=0) (by simp[h1]) (by simp) (by simp);simpa [fP] using this
 unfold Go.Abs.Cz;rw[Dw]
theorem BB.any (aC:aI C ev){ops:Array Oper}{recs:List Rec}(h:BB C ev f ops st recs){G0:Gh}{w0:World}{a0:Act}(hst:vG C G0 w0 st a0){Q:Exit->Act->World->Prop}(hQ:∀ex a' w',Good C G0 w0 a0 .normal (Go.Abs.Cz ops st recs) ex a' w'->Q ex a' w')
 {fuel:Nat}{listed:Array Bool}{G:Gh}{w:World}{a:Act}(hsz:listed.size=ops.size)(hc:listed.toList.countP (· ==false)<=fuel)(hi:pF C ops st recs G0 w0 a0 (λj=>listed.getD j false) G w a):wpAny C.P .any ops Q fuel listed a w:=
 Kh aC h.drawn hst hQ (λ_=>⟨rfl,h.Cz⟩) (λj v u l hp=>by rw[h.calm] at hp;cases hp) fuel listed G w a hsz hc hi
theorem BB.step (aC:aI C ev){ops:Array Oper}{recs:List Rec}(h:BB C ev f ops st recs){G0:Gh}{w0:World}{a0:Act}{Q:Exit->Act->World->Prop}(hQ:∀ex a' w',Good C G0 w0 a0 .normal (Go.Abs.Cz ops st recs) ex a' w'->Q ex a' w')
 {listed:Array Bool}{G:Gh}{w:World}{a:Act}(hsz:listed.size=ops.size)(hi:pF C ops st recs G0 w0 a0 (λj=>listed.getD j false) G w a){i:Nat}(hmem:i∈Region.ready .any ops listed){K:Act->World->Prop}
 (hnext:∀{G':Gh} {w':World} {a':Act},pF C ops st recs G0 w0 a0 (j4 (λj=>listed.getD j false) i) G' w' a'->K a' w'):wpOp C.P ops Q i K a w:=
 Dv aC h.drawn hQ (λj v u l hp=>by rw[h.calm] at hp;cases hp) hsz hi hmem hnext
theorem Ce {listed:Array Bool}{i:Nat}(hi:i<listed.size):(λj=>(listed.setIfInBounds i true).getD j false)=j4 (λj=>listed.getD j false) i:=by
 funext j;simp only[j4];by_cases e1:j=i
 ·subst e1;rw[Array.getD_eq_getD_getElem?,Array.getElem?_setIfInBounds_self_of_lt hi];simp
 ·rw[if_neg e1,getD_set_ne false (λh=>e1 h.symm)]
theorem AJ {listed:Array Bool}{i fuel:Nat}(hi:i<listed.size)(hn:listed[i]?=some false)(hc:listed.toList.countP (· ==false)<=fuel+1):(listed.setIfInBounds i true).toList.countP (· ==false)<=fuel:=by
 rw[Array.toList_setIfInBounds,List.countP_set (by simpa using hi)];have h1:(listed.toList[i]'(by simpa using hi)==false)=true:=by
  rw[Array.getElem?_eq_getElem hi] at hn;simpa using hn
 rw[if_pos h1];have h2:(if((true:Bool)==false)=true then 1 else 0)=0:=rfl;rw[h2];omega
theorem RF {ops:Array Oper}{listed:Array Bool}{i:Nat}(hsz:listed.size=ops.size)(h:i∈Region.ready .any ops listed):i<ops.size/\listed[i]?=some false:=by
 rw[mem_ready] at h;obtain⟨h1,o,h2,_⟩:=h;have hl:=(Array.getElem?_eq_some_iff.1 h2).1;refine⟨hl, ?_⟩;rw[Array.getD_eq_getD_getElem?,Array.getElem?_eq_getElem (by omega)] at h1;rw[Array.getElem?_eq_getElem (by omega)];simpa using h1
set_option maxHeartbeats 1000000 in
theorem Oc (hm:C.P.prog.follows .mixedOrders=true)(aC:aI C ev){id:Nat}{ops qZ q3:Array Oper}{p:Nat}{x y:Oper}(hb:Oa ops qZ q3 p x y){wZ yl:List Rec}(hA:BB C ev f qZ st wZ)(hB:BB C ev f q3 st yl)
 (hsame:∀j,j≠p->j≠p+1->wZ[j]?=yl[j]?){G:Gh}{w:World}{a:Act}(hst:vG C G w st a){Q:Exit->Act->World->Prop}
 (hQA:∀ex a' w',Good C G w a .normal (Go.Abs.Cz qZ st wZ) ex a' w'->Q ex a' w')(hQB:∀ex a' w',Good C G w a .normal (Go.Abs.Cz q3 st yl) ex a' w'->Q ex a' w'):(Code.region id ops true).wp C.P Q a w:=by
 refine wp_region_any hm ?_
 have hstep:dz G w G {w with drawn:=w.drawn+1}:=⟨.refl G,⟨hst.wf.F,hst.wf.inj,hst.wf.lt⟩,λ_ _ _=>⟨rfl,rfl⟩,λ_ _ _=>⟨rfl,λ_=>rfl⟩,λ_ h=>.inl h,λk h=>.inl ⟨k,h,rfl,.inl rfl⟩,Nat.le_refl _,rfl,rfl,rfl⟩
 have jk:vG C G {w with drawn:=w.drawn+1} st a:=⟨hstep.wf,hst.iT,hst.slots,hst.heap,hst.fresh⟩
 have Zm:∀ex a' w',Good C G {w with drawn:=w.drawn+1} a .normal (Go.Abs.Cz qZ st wZ) ex a' w'->Q ex a' w':=λex a' w' hg=>hQA ex a' w' (Good.comp hstep rfl hg)
 have acE:∀ex a' w',Good C G {w with drawn:=w.drawn+1} a .normal (Go.Abs.Cz q3 st yl) ex a' w'->Q ex a' w':=λex a' w' hg=>hQB ex a' w' (Good.comp hstep rfl hg)
 generalize ({w with drawn:=w.drawn+1}:World)=w0 at jk Zm acE
 have ajI:p+1<ops.size:=(Array.getElem?_eq_some_iff.1 hb.hy).1
 have key:∀(   fuel:Nat) (listed:Array Bool) (G':Gh) (w':World) (a':Act),listed.size=ops.size->listed.toList.countP (· ==false)<=fuel->listed[p]?=some false->listed[p+1]?=some false->pF C qZ st wZ G w0 a (λj=>listed.getD j false) G' w' a'->wpAny C.P .any ops Q fuel listed a' w':=by
  intro fuel;induction fuel with
  | zero=>
    intro listed G' w' a' hs hc h1 _ _
    have:0<listed.toList.countP (· ==false):=List.countP_pos_iff.2 ⟨false,by
      have:=List.mem_of_getElem? (l:=listed.toList) (i:=p) (a:=false) (by simpa using h1)
      exact this,rfl⟩
    omega
  | succ fuel ih=>
    intro listed G' w' a' hs hc h1 h2 hi
    have hsA:listed.size=qZ.size:=by rw[hb.szA];exact hs
    have hsB:listed.size=q3.size:=by rw[hb.szB];exact hs
    have acF:∀i,i≠p+1->i∈Region.ready .any ops listed->i∈Region.ready .any qZ listed:=λi hne hmem=>by
      rw[mem_ready] at hmem ⊢
      rw[hb.eqA i hne];exact hmem
    refine⟨λhr=> ?_,λi hmem=> ?_⟩
    · have hall:=(hA.any aC jk Zm (fuel:=fuel+1) hsA hc hi).1
      refine hall (List.eq_nil_iff_forall_not_mem.2 λj hj=> ?_)
      have hj2:j∈Region.ready .any ops listed:=by
        rw[mem_ready] at hj ⊢
        by_cases e:j=p+1
        · subst e
          obtain⟨h3,o,h4,h5⟩:=hj
          rw[hb.afK] at h4;cases h4
          exact⟨h3,_,hb.hy,λe he hbd=>h5 e (by simp[he]) hbd⟩
        · rw[← hb.eqA j e];exact hj
      rw[hr] at hj2;cases hj2
    · obtain⟨ hil,hni⟩:=RF hs hmem
      have XL:=AJ (by omega) hni hc
      by_cases e2:i=p+1
      · subst e2
        have hnp:∀j,j<ops.size->listed.getD j false=true->j≠p/\j≠p+1:=λj hj hd=>by
          constructor<;>intro e<;>subst e<;>rw[Array.getD_eq_getD_getElem?] at hd
          · rw[h1] at hd;cases hd
          · rw[h2] at hd;cases hd
        have Dw:∀n,n=ops.size->fP qZ.toList wZ (s0 st) (λj=>listed.getD j false) n=fP q3.toList yl (s0 st) (λj=>listed.getD j false) n:=λn hn=>PW λj hj hd=>by
          obtain⟨h3,h4⟩:=hnp j (by omega) hd
          refine⟨?_,hsame j h3 h4⟩
          have:=(hb.eqA j h4).trans (hb.eqB j h3 h4).symm
          simpa using this
        have hiB:pF C q3 st yl G w0 a (λj=>listed.getD j false) G' w' a':=by
          refine⟨hi.step,hi.iT,hi.defers, ?_, ?_, ?_, ?_, ?_⟩
          · have:=hi.slots;rw[Dw _ hb.szA] at this;rw[hb.szB,← hb.szA];exact this
          · have:=hi.heap;rw[Dw _ hb.szA] at this;rw[hb.szB,← hb.szA];exact this
          · have:=hi.fresh;rw[hb.szA] at this;rw[hb.szB];exact this
          · intro j o hd ho e he hbd
            have hjl:j<ops.size:=by have:=(List.getElem?_eq_some_iff.1 ho).1;simp at this;rw[hb.szB] at this;exact this
            obtain⟨h3,h4⟩:=hnp j hjl hd
            refine hi.closed j o hd ?_ e he hbd
            have:=(hb.eqA j h4).trans (hb.eqB j h3 h4).symm
            have ho':q3[j]?=some o:=by simpa using ho
            simpa using this.trans ho'
          · intro j r v u l hd hr
            have hjl:j<ops.size:=by
              rcases Nat.lt_or_ge j ops.size with h|h
              · exact h
              · rw[Array.getD_eq_getD_getElem?,Array.getElem?_eq_none (by omega)] at hd;cases hd
            obtain⟨h3,h4⟩:=hnp j hjl hd
            exact hi.calm j r v u l hd (by rw[hsame j h3 h4];exact hr)
        have afL:p∈Region.ready .any q3 listed:=by
          rw[mem_ready] at hmem ⊢
          obtain⟨h3,o,h4,h5⟩:=hmem
          rw[hb.hy] at h4;cases h4
          exact⟨by rw[Array.getD_eq_getD_getElem?,h1];rfl,_,hb.acD,h5⟩
        have hsp:(listed.setIfInBounds (p+1) true).size=ops.size:=by simpa using hs
        have afM:(listed.setIfInBounds p true).size=ops.size:=by simpa using hs
        refine BA (s:=y.after) hb.hy hb.acD (hb.guard _ _ hb.hy) (hB.step aC acE hsB hiB afL λhi'=> ?_)
        rw[← Ce (by omega)] at hi'
        refine hb.toB fuel _ (listed.setIfInBounds p true) _ _ hsp afM (λj=> ?_) (by rw[Array.getElem?_setIfInBounds,if_pos rfl,if_pos (by omega)]) (hB.any aC jk acE (by rw[hb.szB];exact afM) (AJ (by omega) h1 hc) hi')
        rw[Array.getElem?_setIfInBounds,Array.getElem?_setIfInBounds]
        unfold xX
        by_cases e3:j=p
        · subst e3
          rw[if_pos rfl,if_neg (by omega),if_neg (by omega),h1,h2]
        · by_cases e4:j=p+1
          · subst e4
            rw[if_neg e3,if_pos rfl,if_pos rfl,if_pos rfl,if_pos (by omega),if_pos (by omega)]
          · rw[if_neg e3,if_neg e4,if_neg (λh=>e3 h.symm),if_neg (λh=>e4 h.symm)]
      · have afN:=acF i e2 hmem
        have aaL:=hmem
        rw[mem_ready] at aaL
        obtain⟨_,o,ho,_⟩:=aaL
        refine BA (s:=o.after) ho ((hb.eqA i e2).trans ho) (hb.guard _ _ ho) (hA.step aC Zm hsA hi afN λhi'=> ?_)
        rw[← Ce (by omega)] at hi'
        have hsp:(listed.setIfInBounds i true).size=ops.size:=by simpa using hs
        by_cases e1:i=p
        · subst e1
          exact hb.toA fuel _ _ _ hsp (by rw[Array.getElem?_setIfInBounds,if_pos rfl,if_pos (by omega)]) (hA.any aC jk Zm (by rw[hb.szA];exact hsp) XL hi')
        · exact ih _ _ _ _ hsp XL (by rw[Array.getElem?_setIfInBounds,if_neg e1];exact h1) (by rw[Array.getElem?_setIfInBounds,if_neg e2];exact h2) hi'
 have afO:∀j,j<ops.size->(Array.replicate ops.size false)[j]?=some false:=λj hj=>by rw[Array.getElem?_replicate,if_pos hj]
 refine key ops.size _ G w0 a (by simp) (by simp[List.countP_replicate]) (afO p (by omega)) (afO (p+1) (by omega)) ?_
 have hno:∀j,(Array.replicate ops.size false).getD j false=false:=λj=>by
  rw[Array.getD_eq_getD_getElem?,Array.getElem?_replicate];split<;>rfl
 have hnone:fP qZ.toList wZ (s0 st) (λj=>(Array.replicate ops.size false).getD j false) qZ.size=s0 st:=by
  rw[om (m:=0) (by omega) (λj _ hj=>hno j)];rfl
 refine⟨Step.refl jk.wf _ _,jk.iT,rfl,by rw[hnone];exact jk.slots,by rw[hnone];exact jk.heap,λq hq=> ?_,λj o hD=> ?_,λj r v u l hD=> ?_⟩
 ·obtain⟨n,q',e1,h3⟩:=jk.fresh q hq;exact⟨n,q',e1,.inl h3⟩
 ·rw[hno] at hD;cases hD
 ·rw[hno] at hD;cases hD
theorem AW.Zn (hm:C.P.prog.follows .mixedOrders=true)(aC:aI C ev){id:Nat}{ops qZ q3:Array Oper}{p:Nat}{x y:Oper}(hb:Oa ops qZ q3 p x y){wZ yl:List Rec}(hA:BB C ev f qZ st wZ)(hB:BB C ev f q3 st yl)
 (hsame:∀j,j≠p->j≠p+1->wZ[j]?=yl[j]?){Q:aK->St->Prop}(hqA:Q .normal (Go.Abs.Cz qZ st wZ))(hqB:Q .normal (Go.Abs.Cz q3 st yl)):AW C (.region id ops true) st Q:=
 λG0 w0 G w a _ hs hst=>Oc hm aC hb hA hB hsame hst (λ_ _ _ hg=>⟨_,_,hqA,Good.comp hs rfl hg⟩) (λ_ _ _ hg=>⟨_,_,hqB,Good.comp hs rfl hg⟩)
def mkA (ops:Array Oper)(p:Nat):Array Oper:=ops.setIfInBounds (p+1) {ops.getD (p+1) default with after:=(ops.getD (p+1) default).after.push ⟨p,.data⟩}
def mkB (ops:Array Oper)(p:Nat):Array Oper:=(ops.setIfInBounds p (ops.getD (p+1) default)).setIfInBounds (p+1) {ops.getD p default with after:=(ops.getD p default).after.push ⟨p,.data⟩}
def aaM (ops:Array Oper)(p:Nat):Bool:=decide (p+1<ops.size)&&(List.range ops.size).all λi=>match ops[i]? with
 |none=>true
 |some o=>o.guard.isNone&&(if i=p\/i=p+1 then o.after.toList.all λe=>decide (e.on≠p/\e.on≠p+1) else o.after.toList.all λe=> !(Region.binds .any e)||o.after.toList.any λe2=>Region.binds .any e2&&decide (e2.on=xX p e.on))
theorem Zo {ops:Array Oper}{p:Nat}(h:aaM ops p=true):Oa ops (mkA ops p) (mkB ops p) p (ops.getD p default) (ops.getD (p+1) default):=by
 unfold aaM at h;rw[Bool.and_eq_true] at h;have hlt:=of_decide_eq_true h.1;have hall:∀(i:Nat) (o:Oper),ops[i]?=some o->o.guard=none/\((i=p\/i=p+1)->∀e∈o.after,e.on≠p/\e.on≠p+1)/\(¬(i=p\/i=p+1)->∀e∈o.after,Region.binds .any e=true->∃e2∈o.after,Region.binds .any e2=true/\e2.on=xX p e.on):=by
  intro i o ho;have h1:=List.all_eq_true.1 h.2 i (List.mem_range.2 (Array.getElem?_eq_some_iff.1 ho).1);rw[ho] at h1;simp only[Bool.and_eq_true,Option.isNone_iff_eq_none] at h1;refine⟨h1.1,λhi e he=> ?_,λhi e he hbd=> ?_⟩
  ·have h2:=h1.2;rw[if_pos hi] at h2;exact of_decide_eq_true (List.all_eq_true.1 h2 e (by simpa using he))
  ·have h2:=h1.2;rw[if_neg hi] at h2;have h3:=List.all_eq_true.1 h2 e (by simpa using he);rw[hbd] at h3;simp only[Bool.not_true,Bool.false_or] at h3;obtain⟨e2,h4,h5⟩:=List.any_eq_true.1 h3;rw[Bool.and_eq_true] at h5;exact⟨e2,by simpa using h4,h5.1,of_decide_eq_true h5.2⟩
 have hg:∀i,i<ops.size->ops[i]?=some (ops.getD i default):=λi hi=>by
  rw[Array.getD_eq_getD_getElem?,Array.getElem?_eq_getElem hi];rfl
 have hx:=hg p (by omega);have hy:=hg (p+1) hlt;refine⟨hx,hy,λi o ho=>(hall i o ho).1,by simp[mkA],by simp[mkB],λi hi=> ?_, ?_,λi h1 h2=> ?_, ?_, ?_,λi o ho h1 h2=>(hall i o ho).2.2 (by omega),(hall _ _ hx).2.1 (.inl rfl),(hall _ _ hy).2.1 (.inr rfl)⟩
 ·unfold mkA;rw[Array.getElem?_setIfInBounds,if_neg (λe=>hi e.symm)]
 ·unfold mkA;rw[Array.getElem?_setIfInBounds,if_pos rfl,if_pos hlt]
 ·unfold mkB;rw[Array.getElem?_setIfInBounds,if_neg (λe=>h2 e.symm),Array.getElem?_setIfInBounds,if_neg (λe=>h1 e.symm)]
 ·unfold mkB;rw[Array.getElem?_setIfInBounds,if_neg (by omega),Array.getElem?_setIfInBounds,if_pos rfl,if_pos (by omega)]
 ·unfold mkB;rw[Array.getElem?_setIfInBounds,if_pos rfl,if_pos (by simpa using hlt)]
noncomputable def Wb (C:cE)(ev:aW)(f:FuncId)(ops:Array Oper)(st:St):List Rec:=(yw C ev f ops (jH ops.toList []) st.tick 0 ops.toList {slots:=st.slots,H:=st.H} none).getD []
noncomputable def Wc (C:cE)(ev:aW)(f:FuncId)(ops:Array Oper)(st:St):Bool:=match yw C ev f ops (jH ops.toList []) st.tick 0 ops.toList {slots:=st.slots,H:=st.H} none with
 |none=>false
 |some recs=>jx ops ops.toList recs (jH ops.toList []) ops.toList recs 0&&(qv 0 ops.toList&&(iq 0 recs).isNone)
theorem PX {ops:Array Oper}(h:Wc C ev f ops st=true):BB C ev f ops st (Wb C ev f ops st):=by
 unfold Wc at h;unfold Wb;split at h
 ·cases h
 ·rename_i recs he;simp only[Bool.and_eq_true,Option.isNone_iff_eq_none] at h;exact⟨by rw[he];rfl,by rw[he];exact h.1,h.2.1,by rw[he];exact h.2.2⟩
theorem Zp {p:Nat}{r r':List Rec}(h1:r.take p=r'.take p)(h2:r.drop (p+2)=r'.drop (p+2)):∀j,j≠p->j≠p+1->r[j]?=r'[j]?:=λj hp hq=>by
 rcases Nat.lt_or_ge j p with h|h
 ·have:=congrArg (λl=>l[j]?) h1;simpa [List.getElem?_take,h] using this
 ·have:=congrArg (λl=>l[j - (p+2)]?) h2;simp only[List.getElem?_drop] at this;rwa [show p+2+(j - (p+2))=j by omega] at this
def aie:Option (aK×St)->St
 |some (_,st)=>st
 |none=>⟨[],[],0⟩
def okN:Option (aK×St)->Bool
 |some (.normal,_)=>true
 |_=>false
theorem AW.Wd {fuel:Nat}(hm:C.P.prog.follows .mixedOrders=true)(aC:aI C ev){c:Code}{Q:aK->St->Prop}(h:okN (evalCode C ev f fuel c st)=true)(hq:Q .normal (aie (evalCode C ev f fuel c st))):AW C c st Q:=by
 generalize hz:evalCode C ev f fuel c st=z at h hq;match z,h with
 |some (.normal,st'),_=>exact AW.eval hm aC hz hq
end
end Go.Abs
namespace Go.Proofs.YtnfnihgmankidaaGreatDoor.w
open Go Go.Abs Go.RowKit Go.Shelf Go.Lib
set_option maxRecDepth 100000
theorem xP (b o j:Nat):(⟨b,o,none⟩:Addr).add j=⟨b,o+j,none⟩:=by unfold Addr.add;split<;>simp_all
theorem lI {P:Program}{T K:Nat}{w:World}{dT sT Zq:TypeId}{b o so sb dLen dCap sLen sCap:Nat}{us X:List Value}{ty:TypeId}{fr:Nat×Nat}(hu:P.underlying dT=some (.slice T))(hs:(P.info? T).map (·.size)=some K)(hn:us.length=Nat.min sLen dLen*K)
 (hsrc:∀j v,us[j]?=some v->w.cell? ⟨sb,so+j,none⟩=some v)(hb:w.heap[b]?=some (.cells X.toArray ty fr))(mX:l5 X.toArray fr)(hfit:o+us.length<=X.length)(h1:∀v∈us,Go.Abs.one v=true):
 (Builtin.copy_ #[dT,sT] Zq #[.slice (some ⟨b,o,none⟩) dLen dCap,.slice (some ⟨sb,so,none⟩) sLen sCap]).run P w=.ok (goInt (Nat.min sLen dLen)) (World.aS w b (over X o us).toArray ty fr):=by
 have hl:=run_loadCells_list (P:=P) (w:=w) ⟨sb,so,none⟩ us (λj v h=>by rw[xP];exact hsrc j v h)
 rw[hn] at hl
 have hst:=gI (P:=P) (b:=b) (o:=o) us w 0 X h1 hb mX (by simpa using hfit)
 rw[Nat.add_zero] at hst
 cases hq:P.info? T with
 |none=>simp[hq] at hs
 |some i=>
  have hi:i.size=K:=by simpa [hq] using hs
  simp[Builtin.copy_,run_underlying hu,Builtin.lenOf,Builtin.firstCells,sizeOf,typeInfo,hq,hi,hl,hst]
theorem acG {w:World}{b o:Nat}{X:Array Value}{ty:TypeId}(h:w.heap[b]?=some (.cells X ty (0,0))):w.frozen? ⟨b,o,none⟩=false:=by
 simp[World.frozen?,h]
theorem Cf {P:Program}{w:World}{tS tR e:TypeId}(ht:P.underlying tS=some (.slice e)){size:Nat}(hz:∀w,(Go.sizeOf e).run P w=.ok size w)
 {vb vo b o la ca lb cb:Nat}(hne:vb≠b){tA tB:TypeId}{kA kB:Nat}(hsa:w.shape? vb=some (tA,kA))(hsb:w.shape? b=some (tB,kB))(hkA:kA≠0)(hkB:kB≠0)(hfb:∀q,w.frozen? ⟨b,q,none⟩=false):
 (Extern.SlicesOverlaps.overlaps #[tS,tS] #[tR] #[.slice (some ⟨vb,vo,none⟩) la ca,.slice (some ⟨b,o,none⟩) lb cb]).run P w=.ok (.bool false) w:=by
 have hnb:(vb != b)=true:=by simpa using hne
 have XE:(vb==b)=false:=by simpa using hne
 change Sem.run P (α:=Value) (do
  let some t:=(#[tS,tS]:Array TypeId)[0]? |stuck "slices.overlaps: no parameter types"
  let .slice elem ← underlying t|stuck "slices.overlaps: slice type expected"
  let size ← Go.sizeOf elem
  match(some (⟨vb,vo,none⟩:Addr):Option Addr),(some (⟨b,o,none⟩:Addr):Option Addr) with
  | some a,some b=>
    if la=0\/lb=0\/size=0 then pure (Value.bool false)
    else if a.block != b.block&&(← frozen a)&&(← frozen b) then unsupported .addressObserved
    else do
      if a.block != b.block then do
        noView a;noView b
        if ← mayBeOne a b then return Value.bool ((← choose (.extern "sameAddr.stringBytes" 2))==1)
      pure (Value.bool (a.block==b.block&&a.off<b.off+lb*size&&b.off<a.off+la*size))
  |_,_=>pure (Value.bool false)) w=_
 by_cases h0:la=0\/lb=0\/size=0
 ·simp[run_underlying ht,hz,h0]
 ·cases kB with
  |zero=>exact absurd rfl hkB
  | succ kB=>
    cases kA with
    |zero=>exact absurd rfl hkA
    | succ kA=>
      cases Cm:w.frozen? ⟨vb,vo,none⟩<;>cases Cn:w.frozen? ⟨vb,kA+1,none⟩<;>
        simp[run_underlying ht,hz,h0,hnb,XE,frozen,noView,viewAt,mayBeOne,stringish,shape,Sem.run,hsa,hsb,hfb,Cm,Cn]
theorem mV {w:World}{b:Nat}{us:Array Value}{ty:TypeId}{fr:Nat×Nat}(h:w.heap[b]?=some (.cells us ty fr))(o:Nat):w.cell? ⟨b,o,none⟩=us[o]?:=by
 simp[World.cell?,h]
theorem Fh {w:World}{b c:Nat}(h:b≠c)(vs:Array Value)(ty:TypeId)(fr:Nat×Nat)(o:Nat):(World.aS w b vs ty fr).cell? ⟨c,o,none⟩=w.cell? ⟨c,o,none⟩:=by
 simp only[World.cell?,gp h]
theorem Fi (a b:List Tree):flat (a++b)=flat a++flat b:=by simp[flat]
theorem Fj {G:Gh}{w:World}(hw:WF G w){vs:List Tree}{K:Nat}{ag:Bool}(Sc:vs≠ [])(hu:dU ag K vs){z:Value}(hz:VR G (.t (.sl vs)) z):
 ∃b o c V,z=.slice (some ⟨b,o,none⟩) vs.length c/\(∀k,(∀q,G.F k q=none)->b≠k\/vs.length*K=0)/\(∀(j:Nat) v,V[j]?=some v->w.cell? ⟨b,o+j,none⟩=some v)/\cB G ((flat vs).map TV.t) V/\(vs.length*K≠0->∃Y ty fr,w.heap[b]?=some (.cells Y ty fr)):=by
 cases hz with
 | t _ _ hz=>
   generalize hl:vs=l at hz
   cases hz with
   |AO a c=>exact absurd hl Sc
   | sl bD es b o cap vals hne hc hue hF OI=>
     subst hl
     have hlen:(flat vs).length=vs.length*K:=by have:=hu.length;simpa using this
     refine⟨b,o,cap,(List.range (vs.length*K)).map vals,rfl,λk hk=> ?_,λj v hj=> ?_,⟨by simp[hlen],λj c v hc hv=> ?_⟩,λhp=> ?_⟩
     · by_cases h0:vs.length*K=0
       · exact .inr h0
       · refine .inl λe=> ?_
         have:=hF 0 _ (List.getElem?_eq_getElem (by omega))
         rw[e,hk] at this
         cases this
     · rw[List.getElem?_map] at hj
       obtain⟨q,hq,rfl⟩:=Option.map_eq_some_iff.1 hj
       obtain⟨h1,h2⟩:=List.getElem?_eq_some_iff.1 hq
       simp at h1 h2
       subst h2
       obtain⟨Y,ty,fr,h3,h4⟩:=hw.F _ _ _ (hF j _ (List.getElem?_eq_getElem (by omega)))
       rw[mV h3];exact h4
     · rw[List.getElem?_map] at hc hv
       obtain⟨x,hx,rfl⟩:=Option.map_eq_some_iff.1 hc
       obtain⟨q,hq,rfl⟩:=Option.map_eq_some_iff.1 hv
       obtain⟨h1,h2⟩:=List.getElem?_eq_some_iff.1 hq
       simp at h1 h2
       subst h2
       exact .t _ _ (OI j x hx)
     · obtain⟨Y,ty,fr,h3,_⟩:=hw.F _ _ _ (hF 0 _ (List.getElem?_eq_getElem (by omega)))
       exact⟨Y,ty,fr,h3⟩
theorem G5 {L vs:List Tree}{ag:Bool}{K n i:Nat}(Jw:dU ag K L)(hn:n=L.length)(hi:i<n):
 (flat (L.take i++vs++L.drop i)).map TV.t=((flat L).map TV.t).take (i*K)++(flat vs).map TV.t++((flat L).map TV.t).drop (i*K):=by
 rw[Fi,Fi,A3 Jw.lens,A1 Jw.lens]
 simp[List.map_take,List.map_drop]
theorem G6 {X V us:List Value}{a b c:Nat}(hV:V.length=b)(hu:us.length=c)(hX:a+b+c<=X.length):(over (over X (a+b) us) a V).take (a+b+c)=X.take a++V++us:=by
 have h1:(X.take (a+b)).length=a+b:=by rw[List.length_take];omega
 have e1:over X (a+b) us=X.take (a+b)++(us++X.drop (a+b+us.length)):=by unfold over;rw[List.append_assoc]
 have e2:(over X (a+b) us).take a=X.take a:=by
  rw[e1,List.take_append_of_le_length (by omega),List.take_take,Nat.min_eq_left (by omega)]
 have e3:(over X (a+b) us).drop (a+b)=us++X.drop (a+b+us.length):=by rw[e1];exact List.drop_left' h1
 have e4:over (over X (a+b) us) a V=(X.take a++V++us)++X.drop (a+b+us.length):=by
  rw[show over (over X (a+b) us) a V=(over X (a+b) us).take a++V++(over X (a+b) us).drop (a+V.length) from rfl,e2,hV,e3,List.append_assoc,List.append_assoc,List.append_assoc]
 rw[e4];exact List.take_left' (by simp only[List.length_append,List.length_take];omega)
theorem G7 {P V us:List Value}{a b c:Nat}(hV:V.length=b)(hu:us.length=c)(hP:a+b+c<=P.length):(over (over P a V) (a+b) us).take (a+b+c)=P.take a++V++us:=by
 have h1:(P.take a++V).length=a+b:=by simp only[List.length_append,List.length_take];omega
 have e1:over P a V=(P.take a++V)++P.drop (a+V.length):=rfl;have e2:(over P a V).take (a+b)=P.take a++V:=by rw[e1];exact List.take_left' h1
 rw[show over (over P a V) (a+b) us=(over P a V).take (a+b)++us++(over P a V).drop (a+b+us.length) from rfl,e2];exact List.take_left' (by simp only[List.length_append,List.length_take];omega)
theorem Od:∃i0 z,Tryz.prog.info? 30=some i0/\i0.zero=some z/\i0.size=7/\i0.bytes=96/\z.cells.size=7:=⟨_,_,rfl,rfl,rfl,rfl,rfl⟩
theorem acH (w:World):(Go.sizeOf 30).run Tryz.prog w=.ok 7 w:=by
 obtain⟨i0,z,h1,h2,h3,_⟩:=Od;simp[Go.sizeOf,Go.typeInfo,h1,h3]
theorem aif {w:World}{vb vo b o la ca lb cb:Nat}{Y X:Array Value}{Wf ty:TypeId}{Zr:Nat×Nat}(hne:vb≠b)(hY:w.heap[vb]?=some (.cells Y Wf Zr))(hX:w.heap[b]?=some (.cells X ty (0,0)))(h0:X.size≠0)(hY0:Y.size≠0):
 (callFunc 199 #[.slice (some ⟨vb,vo,none⟩) la ca,.slice (some ⟨b,o,none⟩) lb cb]).run Tryz.prog w=.ok (.value (.bool false)) w:=by
 rw[run_callFunc_extern Tryz.func199 (by kernel_rfl) (by kernel_rfl) (by kernel_rfl) (e:=Extern.SlicesOverlaps.overlaps #[28,28] #[4]) (by kernel_rfl),
  Cf (P:=Tryz.prog) Tryz.underlying28 (size:=7) acH hne (tA:=Wf) (kA:=Y.size) (tB:=ty) (kB:=X.size) (by simp[World.shape?,hY]) (by simp[World.shape?,hX]) hY0 h0 (λq=>acG hX)]
 rfl
set_option maxHeartbeats 4000000 in
theorem acI {w:World}{b vb vo n c i m vc:Nat}{X V:List Value}{Y:Array Value}{ty Wf:TypeId}{Zr:Nat×Nat}(hi:i<n)(hm:0<m)(hroom:n+m<=c)(hbig:n+m<=16777216)(hvb:vb≠b)
 (hX:w.heap[b]?=some (.cells X.toArray ty (0,0)))(pg:X.length=c*7)(hY:w.heap[vb]?=some (.cells Y Wf Zr))
 (hV:∀j v,V[j]?=some v->w.cell? ⟨vb,vo+j,none⟩=some v)(AK:V.length=m*7)(L7:∀v∈X.take (n*7),Go.Abs.one v=true)(RG:∀v∈V,Go.Abs.one v=true):
 Calls Tryz.prog 157 #[.slice (some ⟨b,0,none⟩) n c,.int .i64 (i:Int),.slice (some ⟨vb,vo,none⟩) m vc] w λe w'=>
  e=.returned (.slice (some ⟨b,0,none⟩) (n+m) c)/\w'=World.aS w.drew b (over (over X ((i+m) *7) ((X.drop (i*7)).take ((n - i) *7))) (i*7) V).toArray ty (0,0):=by
 have hX0:X.toArray.size≠0:=by simp;intro e;rw[e] at pg;simp at pg;omega
 have hY0:Y.size≠0:=λe=>by
  have h:=hV 0 _ (List.getElem?_eq_getElem (by omega));rw[mV hY] at h;have:=(Array.getElem?_eq_some_iff.1 h).1;omega
 have Qo:∀o la ca lb cb,(callFunc 199 #[.slice (some ⟨vb,vo,none⟩) la ca,.slice (some ⟨b,o,none⟩) lb cb]).run Tryz.prog w=.ok (.value (.bool false)) w:=λo la ca lb cb=>aif hvb hY hX hX0 hY0
 have hz1:¬((m:Int)=0):=by omega
 have C7:¬((i:Int)=(n:Int)):=by omega
 have hw1:IntKind.i64.wrap ((i:Int)+(m:Int))=(i:Int)+(m:Int):=by rw[IntKind.wrap_i64];omega
 have hw2:IntKind.i64.wrap ((n:Int)+(m:Int))=(n:Int)+(m:Int):=by rw[IntKind.wrap_i64];omega
 have hb1:(0:Int)<=(i:Int)+(m:Int):=by omega
 have hb5:(0:Int)<=(n:Int)+(m:Int):=by omega
 have hin:i<=n:=by omega
 have htn:((i:Int)+(m:Int)).toNat=i+m:=by omega
 have aih:((n:Int)+(m:Int)).toNat=n+m:=by omega
 have hb2:¬(c=i+m):=by omega
 have hb3:(i:Int)<=(n:Int)+(m:Int):=by omega
 have hb4:¬(c=i):=by omega
 have hgt:¬((c:Int)<(n:Int)+(m:Int)):=by omega
 have mixed:Tryz.prog.follows .mixedOrders=true:=by kernel_rfl
 have hs:(Tryz.prog.info? 30).map (·.size)=some 7:=by
  obtain⟨i0,z,h1,h2,h3,_⟩:=Od;rw[h1,Option.map_some,h3]
 obtain⟨us,ko⟩:∃us,us=(X.drop (i*7)).take ((n - i) *7):=⟨_,rfl⟩
 have q6:us.length=(n - i) *7:=by rw[ko,List.length_take,List.length_drop,pg];omega
 have hmin:Nat.min (n+m - i) (n+m - (i+m))=n - i:=by simp only[Nat.min_def];split<;>omega
 have ve:Nat.min m (n+m - i)=m:=by simp only[Nat.min_def];split<;>omega
 have Jx:∀j v,us[j]?=some v->X[i*7+j]?=some v:=λj v h=>by
  rw[ko,List.getElem?_take] at h;split at h
  ·rwa [List.getElem?_drop] at h
  ·cases h
 have xT:∀v∈us,Go.Abs.one v=true:=λv h=>by
  refine L7 v ?_;rw[ko] at h;obtain⟨j,hj⟩:=List.getElem?_of_mem h;rw[List.getElem?_take] at hj;split at hj
  ·rw[List.getElem?_drop] at hj;exact List.mem_of_getElem? (i:=i*7+j) (by rw[List.getElem?_take,if_pos (by omega)];exact hj)
  ·cases hj
 obtain⟨X1,hX1⟩:∃X1,X1=over X ((i+m) *7) us:=⟨_,rfl⟩
 have Wg:X1.length=c*7:=by rw[hX1,bK (by rw[q6,pg];omega),pg]
 have acJ:∀ty' dc sc,(Builtin.copy_ #[28,28] ty' #[.slice (some ⟨b,(i+m) *7,none⟩) (n+m - (i+m)) dc,.slice (some ⟨b,i*7,none⟩) (n+m - i) sc]).run Tryz.prog w.drew=.ok (goInt ((n - i:Nat):Int)) (World.aS w.drew b X1.toArray ty (0,0)):=λty' dc sc=>by
  have h:=lI (P:=Tryz.prog) (w:=w.drew) (dT:=28) (sT:=28) (Zq:=ty') (b:=b) (o:=(i+m) *7) (sb:=b) (so:=i*7) (dLen:=n+m - (i+m)) (dCap:=dc) (sLen:=n+m - i) (sCap:=sc) (us:=us) (X:=X) (ty:=ty) (fr:=(0,0)) Tryz.underlying28 hs (by rw[hmin,q6]) (λj v h=>(mV (w:=w.drew) hX _).trans (by simpa using Jx j v h)) hX (λo _ h=>by omega) (by rw[q6,pg];omega) xT;rw[hmin,← hX1] at h;exact h
 have Qn:b<w.drew.heap.size:=(Array.getElem?_eq_some_iff.1 hX).1
 have aii:∀ty' dc,(Builtin.copy_ #[28,28] ty' #[.slice (some ⟨b,i*7,none⟩) (n+m - i) dc,.slice (some ⟨vb,vo,none⟩) m vc]).run Tryz.prog (World.aS w.drew b X1.toArray ty (0,0))=.ok (goInt ((m:Nat):Int)) (World.aS w.drew b (over X1 (i*7) V).toArray ty (0,0)):=λty' dc=>by
  have h:=lI (P:=Tryz.prog) (w:=World.aS w.drew b X1.toArray ty (0,0)) (dT:=28) (sT:=28) (Zq:=ty') (b:=b) (o:=i*7) (sb:=vb) (so:=vo) (dLen:=n+m - i) (dCap:=dc) (sLen:=m) (sCap:=vc) (us:=V) (X:=X1) (ty:=ty) (fr:=(0,0)) Tryz.underlying28 hs (by rw[ve,AK]) (λj v h=>by rw[Fh (λe=>hvb e.symm)];exact hV j v h) (bH Qn _ _ _) (λo _ h=>by omega) (by rw[AK,Wg];omega) RG;rw[ve,gZ] at h;exact h
 rw[← ko,← hX1]
 clear ko hX1
 go_enter Tryz.func157,Tryz.ntmps157
 go_wp2_with (simp only[Qo])
 go_region_law_o (refine step_copy_runI rfl _ _ 28 28 rfl _ _ (by simp[Act.eval,Act.put]) (by simp[Act.eval,Act.put]) (acJ _ _ _) ?_)
 go_wp2
 go_ret
 exact⟨rfl,rfl⟩
theorem aij (z:Array Value):∀n,(Builtin.zeroCells z n).size=n*z.size:=by
 intro n;simp[Builtin.zeroCells]
set_option maxHeartbeats 4000000 in
theorem acK {w:World}{b vb vo n c i m vc:Nat}{X V:List Value}{ty:TypeId}(hi:i<n)(hm:0<m)(hnc:n<=c)(hroom:c<n+m)(hbig:n+m<=16777216)
 (hX:w.heap[b]?=some (.cells X.toArray ty (0,0)))(pg:X.length=c*7)(hvw:vb<w.heap.size)
 (hV:∀j v,V[j]?=some v->w.cell? ⟨vb,vo+j,none⟩=some v)(AK:V.length=m*7)(L7:∀v∈X.take (n*7),Go.Abs.one v=true)(RG:∀v∈V,Go.Abs.one v=true):
 ∃ (G:Nat) (R:List Value),n+m<=G/\R.length=(G - i) *7/\Calls Tryz.prog 157 #[.slice (some ⟨b,0,none⟩) n c,.int .i64 (i:Int),.slice (some ⟨vb,vo,none⟩) m vc] w λe w'=>
  e=.returned (.slice (some ⟨w.heap.size,0,none⟩) (n+m) G)/\w'=World.aS (World.ck w.drew (.cells (X.take (i*7)++R).toArray 30)).drew w.heap.size (over (over (X.take (i*7)++R) (i*7) V) ((i+m) *7) ((X.drop (i*7)).take ((n - i) *7))).toArray 30 (0,0):=by
 obtain⟨i0,z,hi0,hz0,hzs,hzb,hzl⟩:=Od
 have mixed:Tryz.prog.follows .mixedOrders=true:=by kernel_rfl
 have hs:(Tryz.prog.info? 30).map (·.size)=some 7:=by rw[hi0,Option.map_some,hzs]
 obtain⟨G,hG⟩:∃G,G=grownCap w (n+m) c 30:=⟨_,rfl⟩
 have hGn:n+m<=G:=by rw[hG];exact grownCap_ge w _ _ _
 have aik:G<=9223372036854775807:=by
  have:=grownCap_le_maxLen w (n+m) c 30 (by unfold maxLen;omega);rw[← hG] at this;unfold maxLen at this;omega
 obtain⟨R,hR⟩:∃R,R=(Builtin.zeroCells z.cells (n+m - i)).toList++(Builtin.zeroCells z.cells (G - (n+m))).toList:=⟨_,rfl⟩
 have Se:R.length=(G - i) *7:=by
  rw[hR];simp only[List.length_append,Array.length_toList,aij,hzl];omega
 refine⟨G,R,hGn,Se, ?_⟩
 have hik:i+(n+m - i)=n+m:=by omega
 have hkk:(n:Int)+(m:Int) - (i:Int)=((n+m - i:Nat):Int):=by omega
 have htl:(X.take (i*7)).length=i*7:=by rw[List.length_take];omega
 have hold:(Builtin.firstCells i0.size i (.slice (some ⟨b,0,none⟩) i c)).run Tryz.prog w.drew=.ok (X.take (i*7)).toArray w.drew:=by
  have h:=run_loadCells_list (P:=Tryz.prog) (w:=w.drew) ⟨b,0,none⟩ (X.take (i*7)) (λj v h=>by
   rw[xP,Nat.zero_add];refine(mV (w:=w.drew) hX _).trans ?_;rw[List.getElem?_take] at h;split at h
   ·simpa using h
   ·cases h)
  rw[htl] at h;rw[hzs];exact h
 obtain⟨P1,L8⟩:∃P1,P1=X.take (i*7)++R:=⟨_,rfl⟩
 have hPl:P1.length=G*7:=by rw[L8,List.length_append,htl,Se];omega
 have hrz:∀ty',(Builtin.append_ #[28,3] ty' #[.slice (some ⟨b,0,none⟩) i c,.int .i64 ((n:Int)+(m:Int) - (i:Int))]).run Tryz.prog w=
  .ok (.slice (some ⟨w.heap.size,0,none⟩) (n+m) G) (World.ck w.drew (.cells P1.toArray 30)):=λty'=>by
  have h:=Lib.run_append_grow_zeros (P:=Tryz.prog) w 28 3 ty' 30 i0 z .i64 .i64 Tryz.underlying28 Tryz.underlying3 hi0 hz0 (some ⟨b,0,none⟩) i c (X.take (i*7)) hold (n+m - i) (by omega) (by rw[hzs];omega) (by omega) (by omega) (by rw[hzb];omega) (by
   rw[hzb,hik];have:=Go.Abs.nextslicecap_le (n:=n+m) (c:=c) hroom;omega)
  rw[hik,← hG] at h
  rw[hkk,h]
  have e:(X.take (i*7)).toArray++Builtin.zeroCells z.cells (n+m - i)++Builtin.zeroCells z.cells (G - (n+m))=P1.toArray:=by
   apply Array.toList_inj.1;rw[L8,hR];simp
  rw[e]
  rfl
 obtain⟨us,ko⟩:∃us,us=(X.drop (i*7)).take ((n - i) *7):=⟨_,rfl⟩
 have q6:us.length=(n - i) *7:=by rw[ko,List.length_take,List.length_drop,pg];omega
 have hmin:Nat.min (n - i) (n+m - (i+m))=n - i:=by simp only[Nat.min_def];split<;>omega
 have ve:Nat.min m (n+m - i)=m:=by simp only[Nat.min_def];split<;>omega
 have Jx:∀j v,us[j]?=some v->X[i*7+j]?=some v:=λj v h=>by
  rw[ko,List.getElem?_take] at h;split at h
  ·rwa [List.getElem?_drop] at h
  ·cases h
 have xT:∀v∈us,Go.Abs.one v=true:=λv h=>by
  refine L7 v ?_;rw[ko] at h;obtain⟨j,hj⟩:=List.getElem?_of_mem h;rw[List.getElem?_take] at hj;split at hj
  ·rw[List.getElem?_drop] at hj;exact List.mem_of_getElem? (i:=i*7+j) (by rw[List.getElem?_take,if_pos (by omega)];exact hj)
  ·cases hj
 obtain⟨X2,FZ⟩:∃X2,X2=over P1 (i*7) V:=⟨_,rfl⟩
 have acL:X2.length=G*7:=by rw[FZ,bK (by rw[AK,hPl];omega),hPl]
 obtain⟨W1,hW1⟩:∃W1,W1=World.ck w.drew (.cells P1.toArray 30):=⟨_,rfl⟩
 have hN1:W1.heap[w.heap.size]?=some (.cells P1.toArray 30):=by rw[hW1];exact iJ w.drew _
 have acM:w.heap.size<W1.heap.size:=(Array.getElem?_eq_some_iff.1 hN1).1
 have L9:∀c,c<w.heap.size->W1.heap[c]?=w.heap[c]?:=λc hc=>by rw[hW1];exact jZ (w:=w.drew) hc
 have hbw:b<w.heap.size:=(Array.getElem?_eq_some_iff.1 hX).1
 have acN:∀ty' dc,(Builtin.copy_ #[28,28] ty' #[.slice (some ⟨w.heap.size,i*7,none⟩) (n+m - i) dc,.slice (some ⟨vb,vo,none⟩) m vc]).run Tryz.prog W1=.ok (goInt ((m:Nat):Int)) (World.aS W1 w.heap.size X2.toArray 30 (0,0)):=λty' dc=>by
  have h:=lI (P:=Tryz.prog) (w:=W1) (dT:=28) (sT:=28) (Zq:=ty') (b:=w.heap.size) (o:=i*7) (sb:=vb) (so:=vo) (dLen:=n+m - i) (dCap:=dc) (sLen:=m) (sCap:=vc) (us:=V) (X:=P1) (ty:=30) (fr:=(0,0)) Tryz.underlying28 hs (by rw[ve,AK]) (λj v h=>by have h9:=hV j v h;simp only[World.cell?,L9 vb hvw] at h9 ⊢;exact h9) hN1 (λo _ h=>by omega) (by rw[AK,hPl];omega) RG;rw[ve,← FZ] at h;exact h
 have Wh:∀(W:World),W.heap=(World.aS W1 w.heap.size X2.toArray 30 (0,0)).heap->∀ty' dc sc,(Builtin.copy_ #[28,28] ty' #[.slice (some ⟨w.heap.size,(i+m) *7,none⟩) (n+m - (i+m)) dc,.slice (some ⟨b,i*7,none⟩) (n - i) sc]).run Tryz.prog W=.ok (goInt ((n - i:Nat):Int)) (World.aS W w.heap.size (over X2 ((i+m) *7) us).toArray 30 (0,0)):=λW hW ty' dc sc=>by
  have h:=lI (P:=Tryz.prog) (w:=W) (dT:=28) (sT:=28) (Zq:=ty') (b:=w.heap.size) (o:=(i+m) *7) (sb:=b) (so:=i*7) (dLen:=n+m - (i+m)) (dCap:=dc) (sLen:=n - i) (sCap:=sc) (us:=us) (X:=X2) (ty:=30) (fr:=(0,0)) Tryz.underlying28 hs (by rw[hmin,q6]) (λj v h=>by
   have h9:W.heap[b]?=some (.cells X.toArray ty (0,0)):=by rw[hW,gp (Nat.ne_of_gt hbw),L9 b hbw];exact hX
   exact(mV h9 _).trans (by simpa using Jx j v h)) (by rw[hW];exact bH acM _ _ _) (λo _ h=>by omega) (by rw[q6,acL];omega) xT
  rw[hmin] at h;exact h
 rw[← ko,← L8,← FZ]
 subst hW1
 have hz1:¬((m:Int)=0):=by omega
 have C7:¬((i:Int)=(n:Int)):=by omega
 have hz3:(c:Int)<(n:Int)+(m:Int):=by omega
 have hw1:IntKind.i64.wrap ((i:Int)+(m:Int))=(i:Int)+(m:Int):=by rw[IntKind.wrap_i64];omega
 have hw2:IntKind.i64.wrap ((n:Int)+(m:Int))=(n:Int)+(m:Int):=by rw[IntKind.wrap_i64];omega
 have hw3:IntKind.i64.wrap ((n:Int)+(m:Int) - (i:Int))=(n:Int)+(m:Int) - (i:Int):=by rw[IntKind.wrap_i64];omega
 have hb1:(0:Int)<=(i:Int)+(m:Int):=by omega
 have hin:i<=n:=by omega
 have htn:((i:Int)+(m:Int)).toNat=i+m:=by omega
 have hb3:(i:Int)<=(n:Int)+(m:Int):=by omega
 have hb6:(i:Int)<=(n:Int):=by omega
 have hb4:¬(c=i):=by omega
 have hGi:¬(G=i):=by omega
 have ail:¬(G=i+m):=by omega
 have acO:=Wh (World.aS (World.ck w.drew (.cells P1.toArray 30)) w.heap.size X2.toArray 30 (0,0)).drew rfl
 clear Wh
 clear hkk hik hold hR hG Se ko L8 FZ hN1
 go_enter Tryz.func157,Tryz.ntmps157
 go_wp2_with (first
  |(at_builtin;refine Lib.wpList_append_run _ rfl _ _ _ _ rfl _ _ rfl rfl _ _ (hrz _) ?_)
  |(at_builtin;refine wpList_copy_runI _ rfl _ _ 28 28 rfl _ _ rfl rfl (acN _ _) ?_))
 go_region_law_o (refine step_copy_runI rfl _ _ 28 28 rfl _ _ (by simp[Act.eval,Act.put]) (by simp[Act.eval,Act.put]) (acO 3 (G - (i+m)) (c - i)) ?_)
 go_wp2
 go_ret
 exact⟨rfl,gZ (World.ck w.drew (.cells P1.toArray 30)).drew _ _ _ _ _ _ _⟩
set_option maxHeartbeats 2000000 in
theorem Wi (m:Int){L vs:List Tree}{n i:Nat}(hLl:L.length<=4194304)(Jw:dU true 7 L)(hn:n=L.length)(hi:i<n)(Sc:vs≠ [])(hvl:vs.length<=4194304)(Qf:dU true 7 vs):
 aq (cf m) 157 [.ref (.arg 0) 0 n,.t (.int .i64 (i:Int)),.t (.sl vs)] [.arr (30,true) 7 false ((flat L).map .t)] (.ret (.ref (.arg 0) 0 (n+vs.length)) [.arr (30,true) 7 false ((flat (L.take i++vs++L.drop i)).map .t)] []):=by
 intro G w xs hw hg had hH hv
 obtain⟨x,xs1,rfl,hx,hv⟩:=hv.fQ
 obtain⟨y,z,rfl,hy,hz⟩:=hv.two
 obtain⟨hd,ho⟩:=hH (.arg 0) _ rfl
 obtain⟨_,cap,us,ty,fr,ha,hh,⟨mX,hty,hun⟩,hsz,hcl,ko,hF⟩:=ho
 obtain rfl:fr=(0,0):=hun (by decide)
 obtain rfl:ty=30:=hty
 have Zs:((flat L).map TV.t).length=n*7:=by rw[Jw.length,hn]
 rw[Zs] at ha hcl ko
 obtain rfl:=hy.jP
 obtain rfl:x=.slice (some ⟨G.mu (.arg 0),0,none⟩) n cap:=by
  cases hx with
  | ref k off len n' bD cap' v hd' og hle' ho' vz=>
    rw[ha] at og;cases og
    obtain⟨a,rfl,h2⟩:=vz (by omega)
    have:=h2 (by omega)
    subst this;rfl
 have hpv:0<vs.length:=by cases vs with|nil=>exact absurd rfl Sc|cons=>simp
 obtain⟨vb,vo,vc,V,rfl,hvb,hVc,hVr,hVY⟩:=Fj hw Sc Qf hz
 obtain⟨Y,Wf,Zr,hY⟩:=hVY (by omega)
 have hvb:=(hvb (G.mu (.arg 0)) (λq=>hF q (.inl rfl))).resolve_right (by omega)
 have AK:V.length=vs.length*7:=by rw[hVr.1,Qf.length]
 have RG:=mh hVr Qf.ku
 have L7:∀v∈us.toList.take (n*7),Go.Abs.one v=true:=mh ko Jw.ku
 have pg:us.toList.length=cap*7:=by simpa using hsz
 have hX:w.heap[G.mu (.arg 0)]?=some (.cells us.toList.toArray 30 (0,0)):=by rw[Array.toArray_toList];exact hh
 have afP:n*7<=us.toList.length:=by simpa using hcl
 have en:∀args w,(callFunc 157 args).run Tryz.prog w=.ok (.enter 157 args) w:=enters_of Tryz.func157 (by kernel_rfl) rfl
 have hn':((flat (L.take i++vs++L.drop i)).map TV.t).length=(n+vs.length) *7:=by
  rw[((Jw.take i).append Qf |>.append (λx hx=>Jw x (List.mem_of_mem_drop hx))).length];simp only[List.length_append,List.length_take,List.length_drop];congr 1;omega
 have hlt:n*7<(n+vs.length) *7:=by omega
 have Bc:cB G (((flat L).map TV.t).take (i*7)++(flat vs).map TV.t++((flat L).map TV.t).drop (i*7)) ((us.toList.take (n*7)).take (i*7)++V++(us.toList.take (n*7)).drop (i*7)):=((ko.take _).append hVr).append (ko.drop _)
 have hnew:(us.toList.take (n*7)).take (i*7)++V++(us.toList.take (n*7)).drop (i*7)=us.toList.take (i*7)++V++(us.toList.drop (i*7)).take ((n - i) *7):=by
  rw[List.take_take,Nat.min_eq_left (by omega),List.drop_take];congr 2;omega
 rw[hnew,← G5 Jw hn hi] at Bc
 have og:G.arr (.arg 0)=some (n*7,7,cap):=ha
 by_cases hfit:n+vs.length<=cap
 ·refine .inl ⟨en _ _,Calls.mono (acI hi hpv hfit (by omega) hvb hX pg hY hVc AK L7 RG) ?_⟩;rintro e w' ⟨rfl,rfl⟩;obtain⟨X2,FZ⟩:∃X2,X2=over (over us.toList ((i+vs.length) *7) ((us.toList.drop (i*7)).take ((n - i) *7))) (i*7) V:=⟨_,rfl⟩;have q6:((us.toList.drop (i*7)).take ((n - i) *7)).length=(n - i) *7:=by rw[List.length_take,List.length_drop,pg];omega
  have Ma:X2.length=cap*7:=by rw[FZ,bK (by rw[AK,bK (by rw[q6,pg];omega),pg];omega),bK (by rw[q6,pg];omega),pg]
  have Wj:X2.take ((n+vs.length) *7)=us.toList.take (i*7)++V++(us.toList.drop (i*7)).take ((n - i) *7):=by
   rw[FZ,show(i+vs.length) *7=i*7+vs.length*7 by omega,show(n+vs.length) *7=i*7+vs.length*7+(n - i) *7 by omega];exact G6 AK q6 (by rw[pg];omega)
  rw[← FZ];have s1:=gq (w:=w.drew) (vs:=X2) hw.drew hd (Gh.fW og (by decide)) hX (λq ⟨uu,hq⟩=>by rw[hF q (.inl rfl)] at hq;cases hq);have s2:=grow_step (n':=(n+vs.length) *7) s1.wf og hlt (λ_=>False);have st:=((fH hw (λ_=>True) (λk=>k.dS=true)).trans (s1.trans s2)).mono (W':=λ_=>True) (N':=λk=>k.dS=true) (λ_ _ _=>trivial) (λ_ h=>by rcases h with h|h|h<;>first|exact h|exact h.elim);have vF:(G.grow (.arg 0) (G.mu (.arg 0)) ((n+vs.length) *7,7,cap)).mu (.arg 0)=G.mu (.arg 0):=by simp[Gh.grow]
  refine⟨_,_,rfl,st,rfl,λk o ho=> ?_,λ_ _ h=>by simp at h, ?_⟩
  ·match k,ho with
   | 0,ho=>
     obtain rfl:=Option.some.inj ho
     refine⟨hd,by decide,cap,X2.toArray,30,(0,0),by rw[hn'];simp[Gh.grow],by rw[vF];exact bH (w:=w.drew) (hw.lt _ hd) _ _ _,⟨λ_ _ h=>by omega,rfl,λ_=>rfl⟩,by simpa using Ma,by rw[hn',List.size_toArray,Ma];omega, ?_,λq _=>by rw[vF];exact hF q (.inl rfl)⟩
     rw[hn',List.toList_toArray,Wj]
     exact Bc.mono (k4 _ og hlt)
  ·refine .ref (.arg 0) 0 (n+vs.length) ((n+vs.length) *7) 7 cap _ hd (by simp[Gh.grow]) (by rw[Nat.zero_add];exact Nat.le_refl _) ⟨_,_,rfl⟩ λ_=>⟨_,by simp;rfl,λ_=>by simp[Gh.grow]⟩
 ·have hbs:vb<w.heap.size:=(Array.getElem?_eq_some_iff.1 hY).1;obtain⟨c2,R,cW,Se,rK⟩:=acK (c:=cap) (vc:=vc) hi hpv (by omega) (by omega) (by omega) hX pg hbs hVc AK L7 RG;refine .inl ⟨en _ _,Calls.mono rK ?_⟩;rintro e w' ⟨rfl,rfl⟩;obtain⟨P1,L8⟩:∃P1,P1=us.toList.take (i*7)++R:=⟨_,rfl⟩;have q6:((us.toList.drop (i*7)).take ((n - i) *7)).length=(n - i) *7:=by rw[List.length_take,List.length_drop,pg];omega
  have BL:(us.toList.take (i*7)).length=i*7:=by rw[List.length_take,pg];omega
  have Fk:P1.length=c2*7:=by rw[L8,List.length_append,BL,Se];omega
  have acP:P1.take (i*7)=us.toList.take (i*7):=by rw[L8];exact List.take_left' BL
  rw[← L8];obtain⟨X3,hX3⟩:∃X3,X3=over (over P1 (i*7) V) ((i+vs.length) *7) ((us.toList.drop (i*7)).take ((n - i) *7)):=⟨_,rfl⟩;have Wk:X3.length=c2*7:=by rw[hX3,bK (by rw[q6,bK (by rw[AK,Fk];omega),Fk];omega),bK (by rw[AK,Fk];omega),Fk]
  have acQ:X3.take ((n+vs.length) *7)=us.toList.take (i*7)++V++(us.toList.drop (i*7)).take ((n - i) *7):=by
   rw[hX3,show(i+vs.length) *7=i*7+vs.length*7 by omega,show(n+vs.length) *7=i*7+vs.length*7+(n - i) *7 by omega,← acP];exact G7 AK q6 (by rw[Fk];omega)
  rw[← hX3];have s1:=A4 (w:=w.drew) (n':=(n+vs.length) *7) (c':=c2) hw.drew og hlt (.cells P1.toArray 30) (λ_=>False);obtain⟨G2,RH⟩:∃G2,G2=G.grow (.arg 0) w.drew.heap.size ((n+vs.length) *7,7,c2):=⟨_,rfl⟩;have vF:G2.mu (.arg 0)=w.heap.size:=by rw[RH];simp[Gh.grow]
  have hF2:G2.F=G.F:=by rw[RH];rfl
  have Oe:G2.arr (.arg 0)=some ((n+vs.length) *7,7,c2):=by rw[RH];simp[Gh.grow]
  have hd2:G2.dom (.arg 0):=by rw[RH];exact hd
  have hle2:G.le G2:=by rw[RH];exact k4 _ og hlt
  have hblk:(World.ck w.drew (.cells P1.toArray 30)).drew.heap[w.heap.size]?=some (.cells P1.toArray 30 (0,0)):=iJ w.drew _;have Wl:∀q,G2.F w.heap.size q=none:=λq=>by rw[hF2];exact hw.Ge q
  rw[← RH] at s1;have s2:=fH s1.wf (λ_=>False) (λ_=>False);have s3:=gq (w:=(World.ck w.drew (.cells P1.toArray 30)).drew) (k:=.arg 0) (vs:=X3) s2.wf hd2 (Gh.fW Oe (by decide)) (by rw[vF];exact hblk) (λq ⟨uu,hq⟩=>by rw[vF,Wl q] at hq;cases hq);rw[vF] at s3;have st:=((fH hw (λ_=>True) (λk=>k.dS=true)).trans (s1.trans (s2.trans s3))).mono (W':=λ_=>True) (N':=λk=>k.dS=true) (λ_ _ _=>trivial) (λ_ h=>by rcases h with h|h|h|h<;>first|exact h|exact h.elim);refine⟨_,G2,rfl,st,rfl,λk o ho=> ?_,λ_ _ h=>by simp at h, ?_⟩
  ·match k,ho with
   | 0,ho=>
     obtain rfl:=Option.some.inj ho
     refine⟨hd2,by decide,c2,X3.toArray,30,(0,0),by rw[hn',Oe],by rw[vF];exact bH (Array.getElem?_eq_some_iff.1 hblk).1 _ _ _,⟨λ_ _ h=>by omega,rfl,λ_=>rfl⟩,by simpa using Wk,by rw[hn',List.size_toArray,Wk];omega, ?_,λq _=>by rw[vF];exact Wl q⟩
     rw[hn',List.toList_toArray,acQ]
     exact Bc.mono hle2
  ·refine .ref (.arg 0) 0 (n+vs.length) ((n+vs.length) *7) 7 c2 _ hd2 Oe (by rw[Nat.zero_add];exact Nat.le_refl _) ⟨_,_,rfl⟩ λ_=>⟨_,by simp;rfl,λ_=>by rw[vF,Nat.zero_mul]⟩
end Go.Proofs.YtnfnihgmankidaaGreatDoor.w
