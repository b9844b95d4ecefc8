/- More of it. -/
import Derived.Test.YtijfhoelihclbaaGreatDoorV
import Derived.Test.YtijfhoelihclbaaGreatDoorW
import Derived.Test.YtijfhoelihclbaaGreatDoorX
namespace Go.Proofs.YtijfhoelihclbaaGreatDoor.w
open Go Go.Abs
set_option linter.unusedVariables false
set_option maxRecDepth 100000
set_option maxHeartbeats 1000000
noncomputable section
theorem dQ {α β:Type}[Inhabited β]{P:α→Prop}{Q:α→β→Prop}(h:∀a,P a→∃b,Q a b):∃f:α→β,∀a,P a→Q a (f a):=
  Classical.axiomOfChoice (r:=fun a b=>P a→Q a b) fun a=>by
    by_cases hp:P a
    · obtain⟨b,hb⟩:=h a hp
      exact⟨b,fun _=>hb⟩
    · exact⟨default,fun h=>absurd h hp⟩
theorem qm {C:dh}{β:Type}[Inhabited β]{g:FuncId}{P:Tree→Prop}(mk:β→Tree)(h:∀x,P x→∃r:β,ay C g [.t x] [] (.ret (.t (mk r)) [] [])):∃f:Tree→β,∀x,P x→ay C g [.t x] [] (.ret (.t (mk (f x))) [] []):=dQ h
theorem vL {C:dh}{β:Type}[Inhabited β]{g:FuncId}{P:Tree→Tree→Prop}(mk:β→Tree)(h:∀x y,P x y→∃r:β,ay C g [.t x,.t y] [] (.ret (.t (mk r)) [] [])):
  ∃f:Tree→Tree→β,∀x y,P x y→ay C g [.t x,.t y] [] (.ret (.t (mk (f x y))) [] []):=by
 obtain⟨f,hf⟩:=dQ (α:=Tree×Tree) (P:=fun p=>P p.1 p.2) (Q:=fun p r=>ay C g [.t p.1,.t p.2] [] (.ret (.t (mk r)) [] [])) fun p hp=>h p.1 p.2 hp
 exact⟨fun x y=>f (x,y),fun x y hp=>hf (x,y) hp⟩
def PI (x:Tree):Prop:=∃n,x=.int .u8 n
def PS (x:Tree):Prop:=∃s,x=.str s
def PA (e:Tree):Prop:=∃nm k s o a,e=.agg [.str nm,.int .u8 k,.str s,.sl o,.sl a]
def t1 {β:Type}(mk:β→Tree)(P:Tree→Prop)(f:Tree→β):List TV→List aQ→Option bG:=ct1 P fun x=>.ret (.t (mk (f x))) [] []
def t2 {β:Type}(mk:β→Tree)(P:Tree→Tree→Prop)(f:Tree→Tree→β):List TV→List aQ→Option bG:=ct2 P fun x y=>.ret (.t (mk (f x y))) [] []
theorem tu {C:dh}{β:Type}{g:FuncId}{mk:β→Tree}{P:Tree→Prop}{f:Tree→β}(h:∀x,P x→ay C g [.t x] [] (.ret (.t (mk (f x))) [] [])):j7 C g (t1 mk P f):=aaq h
theorem Dh {C:dh}{β:Type}{g:FuncId}{mk:β→Tree}{P:Tree→Tree→Prop}{f:Tree→Tree→β}(h:∀x y,P x y→ay C g [.t x,.t y] [] (.ret (.t (mk (f x y))) [] [])):j7 C g (t2 mk P f):=R9 h
theorem tv {β:Type}{g:FuncId}{mk:β→Tree}{P:Tree→Prop}{f:Tree→β}{ev:aS}{x:Tree}(h:P x):l6 g (t1 mk P f) ev g [.t x] []=some (.ret (.t (mk (f x))) [] []):=aar h
theorem Di {β:Type}{g:FuncId}{mk:β→Tree}{P:Tree→Tree→Prop}{f:Tree→Tree→β}{ev:aS}{x y:Tree}(h:P x y):l6 g (t2 mk P f) ev g [.t x,.t y] []=some (.ret (.t (mk (f x y))) [] []):=Sb h
theorem Mg (m:Int):∃f:Tree→Bool,∀x,PI x→ay (cf m) 141 [.t x] [] (.ret (.t (.bool (f x))) [] []):=by
 obtain⟨fd,hd⟩:=qm (C:=cf m) (g:=139) (P:=PI) Tree.bool (fun x ⟨n,e⟩=>e▸JH aH n)
 obtain⟨fl,hl⟩:=qm (C:=cf m) (g:=142) (P:=PI) Tree.bool (fun x ⟨n,e⟩=>e▸Qe aH n)
 refine qm (P:=PI) Tree.bool fun x ⟨n,e⟩=>e▸Tg (ax (tu hl) (ax (tu hd) aH)) (fun n=>fl (.int .u8 n)) (fun n=>fd (.int .u8 n)) (fun n=>tv ⟨n,rfl⟩) (fun n=>nc rfl (tv ⟨n,rfl⟩)) n
def Dj (s:List UInt8):Tree:=.sl (s.map fun b=>.int .u8 b.toNat)
theorem Tq (m:Int):∃f:Tree→Tree→Bool,∀x y,((∃s:List UInt8,s.length≤64∧x=Dj s)∧y=.fn (.func 141))→ay (cf m) 140 [.t x,.t y] [] (.ret (.t (.bool (f x y))) [] []):=by
 obtain⟨f1,h1⟩:=Mg m
 obtain⟨fi,hi⟩:=vL (C:=cf m) (g:=181) (P:=fun x y=>(∃s:List UInt8,s.length≤64∧x=Dj s)∧y=.fn (.func 141)) (Tree.int .i64) (fun x y ⟨⟨s,hs,e⟩,e2⟩=>by
  subst e;subst e2
  have hform:∀e∈s.map (fun b:UInt8=>Tree.int .u8 b.toNat),∃n,e=.int .u8 n:=fun e he=>by obtain⟨b,_,rfl⟩:=List.mem_map.1 he;exact⟨_,rfl⟩
  exact aaW (ax (tu h1) aH) _ (by rw[List.length_map];omega) hform 141 f1 (fun e he=>tv (hform e he)))
 exact vL Tree.bool fun x y hp=>aaX (ax (Dh hi) aH) x y (fi x y) (Di hp)
theorem Tr (m:Int):∃f:Tree→Tree→Bool,∀x y,(x=.sl (ur.map .str)∧PS y)→ay (cf m) 69 [.t x,.t y] [] (.ret (.t (.bool (f x y))) [] []):=by
 obtain⟨fi,hi⟩:=vL (C:=cf m) (g:=108) (P:=fun x y=>x=.sl (ur.map .str)∧PS y) (Tree.int .i64) (fun x y ⟨e,s,e2⟩=>by
  subst e;subst e2
  exact aa1 aH _ (by decide) (fun e he=>by obtain⟨b,_,rfl⟩:=List.mem_map.1 he;exact⟨_,rfl⟩) s)
 exact vL Tree.bool fun x y hp=>aa2 (ax (Dh hi) aH) x y (fi x y) (Di hp)
theorem Qi (m:Int):∃f:Tree→Bool,∀x,PS x→ay (cf m) 107 [.t x] [] (.ret (.t (.bool (f x))) [] []):=by
 obtain⟨fd,hd⟩:=qm (C:=cf m) (g:=139) (P:=PI) Tree.bool (fun x ⟨n,e⟩=>e▸JH aH n)
 obtain⟨fb,hb⟩:=Tq m
 obtain⟨fc,hc⟩:=Tr m
 have hw:j7 (cf m) 70 (mE ng su):=fun args aR r h=>live.Dg m su aH args aR r h
 refine qm (P:=PS) Tree.bool fun x ⟨s,e⟩=>e▸Xx (ev:=l6 70 (mE ng su) (l6 139 (t1 .bool PI fd) (l6 69 (t2 .bool (fun x y=>x=.sl (ur.map .str)∧PS y) fc) (l6 140 (t2 .bool (fun x y=>(∃s:List UInt8,s.length≤64∧x=Dj s)∧y=.fn (.func 141)) fb) su))))
  (ax hw (ax (tu hd) (ax (Dh hc) (ax (Dh hb) aH)))) (fun n=>fd (.int .u8 n)) (fun s=>fc (.sl (ur.map .str)) (.str s)) (fun s=>fb (Dj s) (.fn (.func 141))) rfl
  (fun n=>nc rfl (tv ⟨n,rfl⟩)) (fun s=>nc rfl (nc rfl (Di ⟨rfl,s,rfl⟩))) (fun s hs=>nc rfl (nc rfl (nc rfl (Di (x:=Dj s) ⟨⟨s,hs,rfl⟩,rfl⟩)))) s
theorem BO (m:Int):∃f:Tree→Bool,∀x,PS x→ay (cf m) 68 [.t x] [] (.ret (.t (.bool (f x))) [] []):=by
 obtain⟨fn,hn⟩:=Qi m
 obtain⟨f1,h1⟩:=qm (C:=cf m) (g:=106) (P:=PS) Tree.bool (fun x ⟨s,e⟩=>e▸G4 (ax (tu hn) aH) (fun s=>fn (.str s)) (fun s=>tv ⟨s,rfl⟩) s)
 obtain⟨pc,hpc⟩:=dQ (α:=List UInt8) (β:=List (List UInt8)) (P:=fun s=>s.length≤64) (Q:=fun s l=>l.length≤s.length+1∧ay (cf m) 105 [.t (.str s),.t (.str [58,58])] [] (.ret (.t (.sl (l.map .str))) [] [])) fun s hs=>Tk s [58,58] (by omega) (by decide)
 obtain⟨fi,hi⟩:=vL (C:=cf m) (g:=112) (P:=fun x y=>(∃s:List UInt8,s.length≤64∧x=.sl ((pc s).map .str))∧y=.fn (.func 106)) (Tree.int .i64) (fun x y ⟨⟨s,hs,e⟩,e2⟩=>by
  subst e;subst e2
  have hform:∀e∈(pc s).map Tree.str,∃u,e=.str u:=fun e he=>by obtain⟨b,_,rfl⟩:=List.mem_map.1 he;exact⟨_,rfl⟩
  exact aaY (ax (tu h1) aH) _ (by rw[List.length_map];have:=(hpc s hs).1;omega) hform 106 f1 (fun e he=>tv (hform e he)))
 obtain⟨fc,hc⟩:=vL (C:=cf m) (g:=77) (P:=fun x y=>(∃s:List UInt8,s.length≤64∧x=.sl ((pc s).map .str))∧y=.fn (.func 106)) Tree.bool fun x y hp=>aaZ (ax (Dh hi) aH) x y (fi x y) (Di hp)
 have hsp:j7 (cf m) 105 (ct2 (fun x y=>(∃s:List UInt8,s.length≤64∧x=.str s)∧y=.str [58,58]) fun x _=>match x with|.str s=>.ret (.t (.sl ((pc s).map .str))) [] []|_=>default):=
  R9 fun x y hx=>by obtain⟨⟨s,hs,rfl⟩,rfl⟩:=hx;exact(hpc s hs).2
 exact qm (P:=PS) Tree.bool fun x ⟨s,e⟩=>e▸JI (ax hsp (ax (Dh hc) aH)) pc (fun s=>fc (.sl ((pc s).map .str)) (.fn (.func 106))) (fun s hs=>Sb (x:=.str s) (y:=.str [58,58]) ⟨⟨s,hs,rfl⟩,rfl⟩) (fun s hs=>nc rfl (Di ⟨⟨s,hs,rfl⟩,rfl⟩)) s
theorem Mh (m:Int):∃f:Tree→Bool,∀x,PS x→ay (cf m) 83 [.t x] [] (.ret (.t (.bool (f x))) [] []):=by
 obtain⟨fw,hw⟩:=qm (C:=cf m) (g:=73) (P:=fun x=>∃s:List UInt8,8≤s.length∧x=.str s) (Tree.int .u64) (fun x ⟨s,hs,e⟩=>by
  subst e
  match s,hs with
  |b0::b1::b2::b3::b4::b5::b6::b7::r,_=>exact ND aH b0 b1 b2 b3 b4 b5 b6 b7 r)
 obtain⟨fv,hv⟩:=qm (C:=cf m) (g:=29) (P:=PS) Tree.bool (fun x ⟨s,e⟩=>e▸Jz _ (ax (tu hw) aH) (fun s=>fw (.str s)) (fun s hs=>tv ⟨s,hs,rfl⟩) s)
 exact qm (P:=PS) Tree.bool fun x ⟨s,e⟩=>e▸Ti (ax (tu hv) aH) (fun s=>fv (.str s)) (fun s=>tv ⟨s,rfl⟩) s
def PL (x:Tree):Prop:=∃l,x=.sl l∧l.length≤4194304∧∀e∈l,PA e
theorem JK (m:Int):∃f:Tree→Tree→Bool,∀x y,(PL x∧y=.fn (.func 80))→ay (cf m) 79 [.t x,.t y] [] (.ret (.t (.bool (f x y))) [] []):=by
 obtain⟨fn,hn⟩:=qm (C:=cf m) (g:=80) (P:=PA) Tree.str (fun x ⟨nm,k,s,o,a,e⟩=>e▸Qf aH nm s k o a)
 exact vL Tree.bool fun x y ⟨⟨l,e,hl,hf⟩,e2⟩=>by
  subst e;subst e2
  exact Qg (ax (tu hn) aH) l hl hf 80 fn (fun e he=>tv (hf e he))
theorem Tt (m:Int):∃f:Tree→Tree→Bool,∀x y,(PL x∧y=.fn (.func 82))→ay (cf m) 81 [.t x,.t y] [] (.ret (.t (.bool (f x y))) [] []):=by
 obtain⟨fb,hb⟩:=Mh m
 obtain⟨f1,h1⟩:=qm (C:=cf m) (g:=82) (P:=PA) Tree.bool (fun x ⟨nm,k,s,o,a,e⟩=>e▸Tj (ax (tu hb) aH) (fun s=>fb (.str s)) (fun s=>tv ⟨s,rfl⟩) nm s k o a)
 obtain⟨fi,hi⟩:=vL (C:=cf m) (g:=99) (P:=fun x y=>PL x∧y=.fn (.func 82)) (Tree.int .i64) fun x y ⟨⟨l,e,hl,hf⟩,e2⟩=>by
  subst e;subst e2
  exact Mc (ax (tu h1) aH) l hl hf 82 f1 (fun e he=>tv (hf e he))
 exact vL Tree.bool fun x y hp=>aa0 (ax (Dh hi) aH) x y (fi x y) (Di hp)
end
end Go.Proofs.YtijfhoelihclbaaGreatDoor.w
