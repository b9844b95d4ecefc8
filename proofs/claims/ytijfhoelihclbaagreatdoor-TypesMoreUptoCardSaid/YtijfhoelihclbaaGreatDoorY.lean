/- More of it. -/
import Derived.Test.YtijfhoelihclbaaGreatDoorV
import Derived.Test.YtijfhoelihclbaaGreatDoorW
import Derived.Test.YtijfhoelihclbaaGreatDoorX
namespace Go.Proofs.YtijfhoelihclbaaGreatDoor.w
open Go Go.Abs
set_option linter.unusedVariables false
set_option maxRecDepth 100000
set_option maxHeartbeats 1000000
noncomputable section
theorem eF {α β:Type}[Inhabited β]{P:α→Prop}{Q:α→β→Prop}(h:∀a,P a→∃b,Q a b):∃f:α→β,∀a,P a→Q a (f a):=
  Classical.axiomOfChoice (r:=fun a b=>P a→Q a b) fun a=>by
    by_cases hp:P a
    · obtain⟨b,hb⟩:=h a hp
      exact⟨b,fun _=>hb⟩
    · exact⟨default,fun h=>absurd h hp⟩
theorem rL {C:dI}{β:Type}[Inhabited β]{g:FuncId}{P:Tree→Prop}(mk:β→Tree)(h:∀x,P x→∃r:β,ay C g [.t x] [] (.ret (.t (mk r)) [] [])):∃f:Tree→β,∀x,P x→ay C g [.t x] [] (.ret (.t (mk (f x))) [] []):=eF h
theorem xd {C:dI}{β:Type}[Inhabited β]{g:FuncId}{P:Tree→Tree→Prop}(mk:β→Tree)(h:∀x y,P x y→∃r:β,ay C g [.t x,.t y] [] (.ret (.t (mk r)) [] [])):
  ∃f:Tree→Tree→β,∀x y,P x y→ay C g [.t x,.t y] [] (.ret (.t (mk (f x y))) [] []):=by
 obtain⟨f,hf⟩:=eF (α:=Tree×Tree) (P:=fun p=>P p.1 p.2) (Q:=fun p r=>ay C g [.t p.1,.t p.2] [] (.ret (.t (mk r)) [] [])) fun p hp=>h p.1 p.2 hp
 exact⟨fun x y=>f (x,y),fun x y hp=>hf (x,y) hp⟩
def PI (x:Tree):Prop:=∃n,x=.int .u8 n
def PS (x:Tree):Prop:=∃s,x=.str s
def PA (e:Tree):Prop:=∃nm k s o a,e=.agg [.str nm,.int .u8 k,.str s,.sl o,.sl a]
def t1 {β:Type}(mk:β→Tree)(P:Tree→Prop)(f:Tree→β):List TV→List aV→Option bG:=ct1 P fun x=>.ret (.t (mk (f x))) [] []
def t2 {β:Type}(mk:β→Tree)(P:Tree→Tree→Prop)(f:Tree→Tree→β):List TV→List aV→Option bG:=ct2 P fun x y=>.ret (.t (mk (f x y))) [] []
theorem uC {C:dI}{β:Type}{g:FuncId}{mk:β→Tree}{P:Tree→Prop}{f:Tree→β}(h:∀x,P x→ay C g [.t x] [] (.ret (.t (mk (f x))) [] [])):kY C g (t1 mk P f):=abu h
theorem DZ {C:dI}{β:Type}{g:FuncId}{mk:β→Tree}{P:Tree→Tree→Prop}{f:Tree→Tree→β}(h:∀x y,P x y→ay C g [.t x,.t y] [] (.ret (.t (mk (f x y))) [] [])):kY C g (t2 mk P f):=SX h
theorem uD {β:Type}{g:FuncId}{mk:β→Tree}{P:Tree→Prop}{f:Tree→β}{ev:aW}{x:Tree}(h:P x):nj g (t1 mk P f) ev g [.t x] []=some (.ret (.t (mk (f x))) [] []):=abv h
theorem D1 {β:Type}{g:FuncId}{mk:β→Tree}{P:Tree→Tree→Prop}{f:Tree→Tree→β}{ev:aW}{x y:Tree}(h:P x y):nj g (t2 mk P f) ev g [.t x,.t y] []=some (.ret (.t (mk (f x y))) [] []):=SY h
theorem MY (m:Int):∃f:Tree→Bool,∀x,PI x→ay (cf m) 141 [.t x] [] (.ret (.t (.bool (f x))) [] []):=by
 obtain⟨fd,hd⟩:=rL (C:=cf m) (g:=139) (P:=PI) Tree.bool (fun x ⟨n,e⟩=>e▸Kl aH n)
 obtain⟨fl,hl⟩:=rL (C:=cf m) (g:=142) (P:=PI) Tree.bool (fun x ⟨n,e⟩=>e▸QW aH n)
 refine rL (P:=PI) Tree.bool fun x ⟨n,e⟩=>e▸T5 (ax (uC hl) (ax (uC hd) aH)) (fun n=>fl (.int .u8 n)) (fun n=>fd (.int .u8 n)) (fun n=>uD ⟨n,rfl⟩) (fun n=>ot rfl (uD ⟨n,rfl⟩)) n
def D2 (s:List UInt8):Tree:=.sl (s.map fun b=>.int .u8 b.toNat)
theorem Uc (m:Int):∃f:Tree→Tree→Bool,∀x y,((∃s:List UInt8,s.length≤64∧x=D2 s)∧y=.fn (.func 141))→ay (cf m) 140 [.t x,.t y] [] (.ret (.t (.bool (f x y))) [] []):=by
 obtain⟨f1,h1⟩:=MY m
 obtain⟨fi,hi⟩:=xd (C:=cf m) (g:=181) (P:=fun x y=>(∃s:List UInt8,s.length≤64∧x=D2 s)∧y=.fn (.func 141)) (Tree.int .i64) (fun x y ⟨⟨s,hs,e⟩,e2⟩=>by
  subst e;subst e2
  have hform:∀e∈s.map (fun b:UInt8=>Tree.int .u8 b.toNat),∃n,e=.int .u8 n:=fun e he=>by obtain⟨b,_,rfl⟩:=List.mem_map.1 he;exact⟨_,rfl⟩
  exact abZ (ax (uC h1) aH) _ (by rw[List.length_map];omega) hform 141 f1 (fun e he=>uD (hform e he)))
 exact xd Tree.bool fun x y hp=>ab0 (ax (DZ hi) aH) x y (fi x y) (D1 hp)
theorem Ud (m:Int):∃f:Tree→Tree→Bool,∀x y,(x=.sl (vB.map .str)∧PS y)→ay (cf m) 69 [.t x,.t y] [] (.ret (.t (.bool (f x y))) [] []):=by
 obtain⟨fi,hi⟩:=xd (C:=cf m) (g:=108) (P:=fun x y=>x=.sl (vB.map .str)∧PS y) (Tree.int .i64) (fun x y ⟨e,s,e2⟩=>by
  subst e;subst e2
  exact ab4 aH _ (by decide) (fun e he=>by obtain⟨b,_,rfl⟩:=List.mem_map.1 he;exact⟨_,rfl⟩) s)
 exact xd Tree.bool fun x y hp=>ab5 (ax (DZ hi) aH) x y (fi x y) (D1 hp)
theorem Q0 (m:Int):∃f:Tree→Bool,∀x,PS x→ay (cf m) 107 [.t x] [] (.ret (.t (.bool (f x))) [] []):=by
 obtain⟨fd,hd⟩:=rL (C:=cf m) (g:=139) (P:=PI) Tree.bool (fun x ⟨n,e⟩=>e▸Kl aH n)
 obtain⟨fb,hb⟩:=Uc m
 obtain⟨fc,hc⟩:=Ud m
 have hw:kY (cf m) 70 (nG ou tD):=fun args aX r h=>live.DY m tD aH args aX r h
 refine rL (P:=PS) Tree.bool fun x ⟨s,e⟩=>e▸Yu (ev:=nj 70 (nG ou tD) (nj 139 (t1 .bool PI fd) (nj 69 (t2 .bool (fun x y=>x=.sl (vB.map .str)∧PS y) fc) (nj 140 (t2 .bool (fun x y=>(∃s:List UInt8,s.length≤64∧x=D2 s)∧y=.fn (.func 141)) fb) tD))))
  (ax hw (ax (uC hd) (ax (DZ hc) (ax (DZ hb) aH)))) (fun n=>fd (.int .u8 n)) (fun s=>fc (.sl (vB.map .str)) (.str s)) (fun s=>fb (D2 s) (.fn (.func 141))) rfl
  (fun n=>ot rfl (uD ⟨n,rfl⟩)) (fun s=>ot rfl (ot rfl (D1 ⟨rfl,s,rfl⟩))) (fun s hs=>ot rfl (ot rfl (ot rfl (D1 (x:=D2 s) ⟨⟨s,hs,rfl⟩,rfl⟩)))) s
theorem Cw (m:Int):∃f:Tree→Bool,∀x,PS x→ay (cf m) 68 [.t x] [] (.ret (.t (.bool (f x))) [] []):=by
 obtain⟨fn,hn⟩:=Q0 m
 obtain⟨f1,h1⟩:=rL (C:=cf m) (g:=106) (P:=PS) Tree.bool (fun x ⟨s,e⟩=>e▸HO (ax (uC hn) aH) (fun s=>fn (.str s)) (fun s=>uD ⟨s,rfl⟩) s)
 obtain⟨pc,hpc⟩:=eF (α:=List UInt8) (β:=List (List UInt8)) (P:=fun s=>s.length≤64) (Q:=fun s l=>l.length≤s.length+1∧ay (cf m) 105 [.t (.str s),.t (.str [58,58])] [] (.ret (.t (.sl (l.map .str))) [] [])) fun s hs=>T8 s [58,58] (by omega) (by decide)
 obtain⟨fi,hi⟩:=xd (C:=cf m) (g:=112) (P:=fun x y=>(∃s:List UInt8,s.length≤64∧x=.sl ((pc s).map .str))∧y=.fn (.func 106)) (Tree.int .i64) (fun x y ⟨⟨s,hs,e⟩,e2⟩=>by
  subst e;subst e2
  have hform:∀e∈(pc s).map Tree.str,∃u,e=.str u:=fun e he=>by obtain⟨b,_,rfl⟩:=List.mem_map.1 he;exact⟨_,rfl⟩
  exact ab1 (ax (uC h1) aH) _ (by rw[List.length_map];have:=(hpc s hs).1;omega) hform 106 f1 (fun e he=>uD (hform e he)))
 obtain⟨fc,hc⟩:=xd (C:=cf m) (g:=77) (P:=fun x y=>(∃s:List UInt8,s.length≤64∧x=.sl ((pc s).map .str))∧y=.fn (.func 106)) Tree.bool fun x y hp=>ab2 (ax (DZ hi) aH) x y (fi x y) (D1 hp)
 have hsp:kY (cf m) 105 (ct2 (fun x y=>(∃s:List UInt8,s.length≤64∧x=.str s)∧y=.str [58,58]) fun x _=>match x with|.str s=>.ret (.t (.sl ((pc s).map .str))) [] []|_=>default):=
  SX fun x y hx=>by obtain⟨⟨s,hs,rfl⟩,rfl⟩:=hx;exact(hpc s hs).2
 exact rL (P:=PS) Tree.bool fun x ⟨s,e⟩=>e▸Km (ax hsp (ax (DZ hc) aH)) pc (fun s=>fc (.sl ((pc s).map .str)) (.fn (.func 106))) (fun s hs=>SY (x:=.str s) (y:=.str [58,58]) ⟨⟨s,hs,rfl⟩,rfl⟩) (fun s hs=>ot rfl (D1 ⟨⟨s,hs,rfl⟩,rfl⟩)) s
theorem MZ (m:Int):∃f:Tree→Bool,∀x,PS x→ay (cf m) 83 [.t x] [] (.ret (.t (.bool (f x))) [] []):=by
 obtain⟨fw,hw⟩:=rL (C:=cf m) (g:=73) (P:=fun x=>∃s:List UInt8,8≤s.length∧x=.str s) (Tree.int .u64) (fun x ⟨s,hs,e⟩=>by
  subst e
  match s,hs with
  |b0::b1::b2::b3::b4::b5::b6::b7::r,_=>exact Ol aH b0 b1 b2 b3 b4 b5 b6 b7 r)
 obtain⟨fv,hv⟩:=rL (C:=cf m) (g:=29) (P:=PS) Tree.bool (fun x ⟨s,e⟩=>e▸Kk _ (ax (uC hw) aH) (fun s=>fw (.str s)) (fun s hs=>uD ⟨s,hs,rfl⟩) s)
 exact rL (P:=PS) Tree.bool fun x ⟨s,e⟩=>e▸T6 (ax (uC hv) aH) (fun s=>fv (.str s)) (fun s=>uD ⟨s,rfl⟩) s
def PL (x:Tree):Prop:=∃l,x=.sl l∧l.length≤4194304∧∀e∈l,PA e
theorem Ko (m:Int):∃f:Tree→Tree→Bool,∀x y,(PL x∧y=.fn (.func 80))→ay (cf m) 79 [.t x,.t y] [] (.ret (.t (.bool (f x y))) [] []):=by
 obtain⟨fn,hn⟩:=rL (C:=cf m) (g:=80) (P:=PA) Tree.str (fun x ⟨nm,k,s,o,a,e⟩=>e▸QX aH nm s k o a)
 exact xd Tree.bool fun x y ⟨⟨l,e,hl,hf⟩,e2⟩=>by
  subst e;subst e2
  exact QY (ax (uC hn) aH) l hl hf 80 fn (fun e he=>uD (hf e he))
theorem Ue (m:Int):∃f:Tree→Tree→Bool,∀x y,(PL x∧y=.fn (.func 82))→ay (cf m) 81 [.t x,.t y] [] (.ret (.t (.bool (f x y))) [] []):=by
 obtain⟨fb,hb⟩:=MZ m
 obtain⟨f1,h1⟩:=rL (C:=cf m) (g:=82) (P:=PA) Tree.bool (fun x ⟨nm,k,s,o,a,e⟩=>e▸T7 (ax (uC hb) aH) (fun s=>fb (.str s)) (fun s=>uD ⟨s,rfl⟩) nm s k o a)
 obtain⟨fi,hi⟩:=xd (C:=cf m) (g:=99) (P:=fun x y=>PL x∧y=.fn (.func 82)) (Tree.int .i64) fun x y ⟨⟨l,e,hl,hf⟩,e2⟩=>by
  subst e;subst e2
  exact MU (ax (uC h1) aH) l hl hf 82 f1 (fun e he=>uD (hf e he))
 exact xd Tree.bool fun x y hp=>ab3 (ax (DZ hi) aH) x y (fi x y) (D1 hp)
end
end Go.Proofs.YtijfhoelihclbaaGreatDoor.w
