/- Maps of keys to numbers, told: which number a key has, what it has behind an update. -/
import Derived.Test.YtnfnihgmankidaaGreatDoorR
set_option linter.unusedVariables false
set_option linter.unusedSimpArgs false
noncomputable section
namespace Go.Abs
open Go
def KM (K:Tree->Prop)(es:List (TV×TV×Nat)):Prop:=∀e∈es,∃(x:Tree) (n:Int) (b:Nat),K x/\e=(.t x,.t (.int .i64 n),b)
theorem KM.nil {K:Tree->Prop}:KM K []:=λ_ h=>by cases h
structure KEq (P:iE)(kt:TypeId)(d:TypeDesc)(K:Tree->Prop):Prop where
 same:∀x,K x->JL P kt d (.t x) (.t x)=some true/\∃u,jT (.t x)=some u/\Instr.sameBits 10000 u u=true
 other:∀x y,K x->K y->x≠y->JL P kt d (.t x) (.t y)=some false
 ok:∀x b,K x->vJ P b kt (.t x)=true
open Classical in
def gl:List (TV×TV×Nat)->Tree->Nat->Option (Nat×TV×Nat)
 | [],_,_=>none
 |(k,v,b)::r,x,i=>if k=.t x then some (i,v,b) else gl r x (i+1)
theorem IW {P:iE}{kt:TypeId}{d:TypeDesc}{K:Tree->Prop}(h:KEq P kt d K){x:Tree}(hx:K x):∀{es:List (TV×TV×Nat)},KM K es->∀i,lS P kt d (.t x) es i=some (gl es x i)
 | [],_,i=>rfl
 | e ::es,hs,i=>by
   obtain⟨y,n,b,hy,rfl⟩:=hs e List.mem_cons_self
   unfold lS gl
   by_cases hxy:x=y
   · subst hxy
     obtain⟨h1,u,h2,h3⟩:=h.same x hx
     simp only[h1,h2,h3,if_true]
   · rw[h.other x y hx hy hxy]
     have:¬(TV.t y=TV.t x):=λe=>hxy (TV.t.inj e).symm
     rw[if_neg this]
     exact IW h hx (λe he=>hs e (List.mem_cons_of_mem _ he)) (i+1)
theorem uG {K:Tree->Prop}{x:Tree}:∀{es:List (TV×TV×Nat)},KM K es->∀i j v b,gl es x i=some (j,v,b)->i<=j/\es[j - i]?=some (.t x,v,b)/\∃n:Int,v=.t (.int .i64 n)
 | [],_,_,_,_,_,h=>by cases h
 | e ::es,hs,i,j,v,b,h=>by
   obtain⟨y,n,b',hy,rfl⟩:=hs e List.mem_cons_self
   unfold gl at h
   split at h
   · rename_i e1
     cases h
     rw[Nat.sub_self]
     exact⟨Nat.le_refl _,by rw[e1];rfl,n,rfl⟩
   · obtain⟨h1,h2,h3⟩:=uG (λe he=>hs e (List.mem_cons_of_mem _ he)) (i+1) j v b h
     refine⟨by omega, ?_,h3⟩
     rw[show j - i=(j - (i+1))+1 by omega]
     exact h2
def iG (es:List (TV×TV×Nat))(x:Tree):Int:=match gl es x 0 with
 |some (_,.t (.int _ n),_)=>n
 |_=>0
def k6 (es:List (TV×TV×Nat))(c:Nat)(x:Tree)(n:Int):List (TV×TV×Nat):=match gl es x 0 with
 |some (i,_,b)=>es.set i (.t x,.t (.int .i64 n),b)
 |none=>es++[(.t x,.t (.int .i64 n),c)]
def s7 (es:List (TV×TV×Nat))(c:Nat)(x:Tree):Nat:=match gl es x 0 with
 |some _=>c
 |none=>c+1
section
variable {P:iE}{ty kt et:TypeId}{ti tk te:TI}{K:Tree->Prop}{x:Tree}{es:List (TV×TV×Nat)}
theorem wE (ht:P.ty ty=some ti)(hd:ti.desc=.map kt et)(hk:P.ty kt=some tk)(he:P.ty et=some te)(hez:te.zero=some (.t (.int .i64 0)))(hK:KEq P kt tk.desc K)(hS:KM K es)(hx:K x):
 B3 P ty es (.t x) false=some (.t (.int .i64 (iG es x))):=by
 have h:=IW hK hx hS 0
 have h2:=uG hS 0 (x:=x)
 unfold iG
 cases hf:gl es x 0 with
 |none=>
  rw[hf] at h
  simp only[B3,bf,ht,hd,hk,he,hK.ok x _ hx,if_true,h,hez,Bool.false_eq_true,if_false]
 |some p=>
  obtain⟨j,v,b⟩:=p
  rw[hf] at h
  obtain⟨_,_,n,rfl⟩:=h2 j v b hf
  simp only[B3,bf,ht,hd,hk,he,hK.ok x _ hx,if_true,h,hez,Bool.false_eq_true,if_false]
end
theorem iL {K:Tree->Prop}{es:List (TV×TV×Nat)}(h:KM K es){x:Tree}(hx:K x)(c:Nat)(n:Int):KM K (k6 es c x n):=by
 unfold k6;split
 ·rename_i i v b hf;intro e he;rcases List.mem_or_eq_of_mem_set he with he|he
  ·exact h e he
  ·exact⟨x,n,b,hx,he⟩
 ·intro e he;rcases List.mem_append.1 he with he|he
  ·exact h e he
  ·simp only[List.mem_singleton] at he;exact⟨x,n,c,hx,he⟩
open Classical in
theorem Bg {y x:Tree}{v:TV}{c:Nat}:∀{es:List (TV×TV×Nat)} (i:Nat),gl (es++[(.t x,v,c)]) y i=match gl es y i with
    |some p=>some p
    |none=>if x=y then some (i+es.length,v,c) else none
  | [],i=>by
    simp only[List.nil_append,gl,List.length_nil,Nat.add_zero]
    by_cases h:x=y
    · rw[if_pos h,if_pos (by rw[h])]
    · rw[if_neg h,if_neg (λe=>h (TV.t.inj e))]
  | e ::es,i=>by
    obtain⟨k,w,b⟩:=e
    simp only[List.cons_append,gl]
    split
    · rfl
    · rw[Bg (i+1)]
      simp only[List.length_cons]
      rw[show i+1+es.length=i+(es.length+1) by omega]
theorem vq {y x:Tree}(hxy:x≠y){v:TV}{b:Nat}:∀{es:List (TV×TV×Nat)} (i j:Nat) (w:TV) (b':Nat),es[j]?=some (.t x,w,b')->gl (es.set j (.t x,v,b)) y i=gl es y i
 | [],_,_,_,_,h=>by simp at h
 |e::es,i,0,w,b',h=>by
  simp only[List.getElem?_cons_zero,Option.some.injEq] at h
  subst h
  have hne:¬(TV.t x=TV.t y):=λe=>hxy (TV.t.inj e)
  simp only[List.set_cons_zero,gl,if_neg hne]
 |e::es,i,j+1,w,b',h=>by
  obtain⟨k,w0,b0⟩:=e
  simp only[List.set_cons_succ,gl]
  rw[vq hxy (i+1) j w b' (by simpa using h)]
theorem wF {x:Tree}{v:TV}{b:Nat}:∀{es:List (TV×TV×Nat)} (i j:Nat) (w:TV) (b':Nat),gl es x i=some (i+j,w,b')->gl (es.set j (.t x,v,b)) x i=some (i+j,v,b)
 | [],_,_,_,_,h=>by cases h
 | e ::es,i,j,w,b',h=>by
   obtain⟨k,w0,b0⟩:=e
   unfold gl at h
   split at h
   · rename_i hk
     have:j=0:=by
       simp only[Option.some.injEq,Prod.mk.injEq] at h
       omega
     subst this
     simp only[List.set_cons_zero,gl,if_true,Nat.add_zero]
   · rename_i hk
     cases j with
     | zero=>
       exfalso
       have:∀(l:List (TV×TV×Nat)) (a q:Nat) (u:TV) (z:Nat),gl l x a=some (q,u,z)->a<=q:=by
         intro l
         induction l with
         |nil=>intro a q u z h;cases h
         | cons e r ih=>
           obtain⟨k1,w1,b1⟩:=e
           intro a q u z h
           unfold gl at h
           split at h
           · cases h;exact Nat.le_refl _
           · have:=ih _ _ _ _ h;omega
       have:=this _ _ _ _ _ h
       omega
     | succ j=>
       simp only[List.set_cons_succ,gl,if_neg hk]
       rw[show i+(j+1)=i+1+j by omega] at h ⊢
       exact wF (i+1) j w b' h
theorem qE {K:Tree->Prop}{es:List (TV×TV×Nat)}(h:KM K es)(x:Tree)(c:Nat)(n:Int):iG (k6 es c x n) x=n:=by
 unfold iG k6;cases hf:gl es x 0 with
 |some p=>
  obtain⟨i,v,b⟩:=p
  simp only
  rw[show gl (es.set i (.t x,.t (.int .i64 n),b)) x 0=some (0+i,.t (.int .i64 n),b) from wF 0 i v b (by rw[Nat.zero_add];exact hf)]
 |none=>
  simp only
  rw[Bg 0,hf]
  simp
theorem rM {K:Tree->Prop}{es:List (TV×TV×Nat)}(h:KM K es){x y:Tree}(hxy:x≠y)(c:Nat)(n:Int):iG (k6 es c x n) y=iG es y:=by
 unfold iG k6;cases hf:gl es x 0 with
 |some p=>
  obtain⟨i,v,b⟩:=p
  obtain⟨_,h2,_⟩:=uG h 0 i v b hf
  rw[Nat.sub_zero] at h2
  simp only
  rw[vq hxy 0 i v b h2]
 |none=>
  simp only
  rw[Bg 0]
  cases gl es y 0 with
  |some p=>rfl
  |none=>simp only[if_neg hxy]
theorem xB {P:iE}{ty kt et:TypeId}{ti tk te:TI}{K:Tree->Prop}{x:Tree}{es:List (TV×TV×Nat)}(ht:P.ty ty=some ti)(hd:ti.desc=.map kt et)(hk:P.ty kt=some tk)(he:P.ty et=some te)(hez:te.zero=some (.t (.int .i64 0)))(hK:KEq P kt tk.desc K)(hS:KM K es)(hx:K x)(c:Nat):
 B3 P ty (k6 es c x (iG es x)) (.t x) false=some (.t (.int .i64 (iG es x))):=by
 rw[wE ht hd hk he hez hK (iL hS hx c _) hx,qE hS]
def KB (es:List (TV×TV×Nat))(c:Nat):Prop:=(es.map (·.2.2)).Nodup/\∀e∈es,e.2.2<c
theorem KB.nil:KB [] 0:=⟨List.nodup_nil,λ_ h=>by cases h⟩
def stM (es:List (TV×TV×Nat))(c:Nat)(x:Tree):Nat:=match gl es x 0 with
 |some (_,_,b)=>b
 |none=>c
theorem KB.up {K:Tree->Prop}{es:List (TV×TV×Nat)}{c:Nat}(h:KB es c)(hS:KM K es)(x:Tree)(n:Int):KB (k6 es c x n) (s7 es c x):=by
 unfold k6 s7;cases hf:gl es x 0 with
 | some p=>
   obtain⟨i,v,b⟩:=p
   obtain⟨_,h2,_⟩:=uG hS 0 i v b hf
   rw[Nat.sub_zero] at h2
   obtain⟨hi,h3⟩:=List.getElem?_eq_some_iff.1 h2
   have e:(es.set i (.t x,.t (.int .i64 n),b)).map (·.2.2)=es.map (·.2.2):=by
     rw[List.map_set]
     have:(es.map (·.2.2))[i]'(by simpa using hi)=b:=by rw[List.getElem_map,h3]
     conv=>lhs;rw[show((TV.t x,TV.t (.int .i64 n),b):TV×TV×Nat).2.2=(es.map (·.2.2))[i]'(by simpa using hi) from this.symm]
     exact List.set_getElem_self _
   refine⟨by rw[e];exact h.1,λy hy=> ?_⟩
   rcases List.mem_or_eq_of_mem_set hy with hy|hy
   · exact h.2 y hy
   · have:=h.2 _ (List.mem_of_getElem? h2)
     rw[hy];exact this
 | none=>
   refine⟨?_,λy hy=> ?_⟩
   · rw[List.map_append]
     refine List.nodup_append.2 ⟨h.1,by simp,λa ha b hb=> ?_⟩
     simp only[List.map_cons,List.map_nil,List.mem_singleton] at hb
     subst hb
     obtain⟨e,he,rfl⟩:=List.mem_map.1 ha
     have:=h.2 e he
     omega
   · rcases List.mem_append.1 hy with hy|hy
     · have:=h.2 y hy;show _<c+1;omega
     · simp only[List.mem_singleton] at hy;rw[hy];exact Nat.lt_succ_self c
theorem yR:∀{es:List (TV×TV×Nat)} {i:Nat} {e:TV×TV×Nat} (q:Nat),(es.map (·.2.2)).Nodup->es[i]?=some e->pU es (e.2.2:Int) q=some (q+i)
 | [],_,_,_,_,h=>by simp at h
 |(k,v,b)::r,0,e,q,hn,h=>by
  simp only[List.getElem?_cons_zero,Option.some.injEq] at h
  subst h
  simp only[pU,if_true,Nat.add_zero]
 |(k,v,b)::r,i+1,e,q,hn,h=>by
  have h':r[i]?=some e:=by simpa using h
  simp only[List.map_cons,List.nodup_cons] at hn
  have hne:¬((b:Int)=(e.2.2:Int)):=λx=>hn.1 (List.mem_map.2 ⟨e,List.mem_of_getElem? h',by omega⟩)
  simp only[pU,if_neg hne]
  rw[yR (q+1) hn.2 h',show q+1+i=q+(i+1) by omega]
section
variable {P:iE}{ty kt et:TypeId}{ti tk te:TI}{K:Tree->Prop}{x:Tree}{es:List (TV×TV×Nat)}
theorem CP (ht:P.ty ty=some ti)(hd:ti.desc=.map kt et)(hk:P.ty kt=some tk)(he:P.ty et=some te)(hez:te.zero=some (.t (.int .i64 0)))(hK:KEq P kt tk.desc K)(hS:KM K es)(hx:K x)(c:Nat):
 Q6 P ty es c (.t x)=some (.t (.cv [.int .i64 (iG es x),.int .i64 (stM es c x)]),k6 es c x (iG es x),s7 es c x):=by
 have h:=IW hK hx hS 0
 have h2:=uG hS 0 (x:=x)
 unfold iG k6 s7 stM
 cases hf:gl es x 0 with
 |none=>
  rw[hf] at h
  simp only[Q6,bf,ht,hd,hk,he,hK.ok x _ hx,if_true,h,hez]
  rfl
 |some p=>
  obtain⟨j,v,b⟩:=p
  rw[hf] at h
  obtain⟨_,_,n,rfl⟩:=h2 j v b hf
  simp only[Q6,bf,ht,hd,hk,he,hK.ok x _ hx,if_true,h,hez]
  rfl
end
theorem CQ {K:Tree->Prop}{x:Tree}{es:List (TV×TV×Nat)}{c:Nat}(hS:KM K es)(hB:KB es c)(n0 n:Int):
 Ud (k6 es c x n0) (s7 es c x) (stM es c x:Nat) (.t (.int .i64 n))=some (k6 es c x n,s7 es c x):=by
 have hB2:=(hB.up hS x n0).1
 unfold Ud
 cases hf:gl es x 0 with
 |some p=>
  obtain⟨i,v,b⟩:=p
  obtain⟨_,h2,_⟩:=uG hS 0 i v b hf
  rw[Nat.sub_zero] at h2
  have hi:=(List.getElem?_eq_some_iff.1 h2).1
  have e1:∀m:Int,k6 es c x m=es.set i (.t x,.t (.int .i64 m),b):=λm=>by unfold k6;rw[hf]
  have e2:stM es c x=b:=by unfold stM;rw[hf]
  have h3:(k6 es c x n0)[i]?=some (.t x,.t (.int .i64 n0),b):=by rw[e1,List.getElem?_set_self (by simpa using hi)]
  have h4:=yR 0 hB2 h3
  rw[Nat.zero_add] at h4
  rw[e2,h4]
  simp only[h3]
  rw[e1,e1,List.set_set]
 |none=>
  have e1:∀m:Int,k6 es c x m=es++[(.t x,.t (.int .i64 m),c)]:=λm=>by unfold k6;rw[hf]
  have e2:stM es c x=c:=by unfold stM;rw[hf]
  have h3:(k6 es c x n0)[es.length]?=some (.t x,.t (.int .i64 n0),c):=by rw[e1];simp
  have h4:=yR 0 hB2 h3
  rw[Nat.zero_add] at h4
  rw[e2,h4]
  simp only[h3]
  rw[e1,e1]
  simp
theorem aee {σ:Nm->Option Nm}{K:Tree->Prop}{es:List (TV×TV×Nat)}{c:Nat}(h:KM K es):aO.rn σ (.map es c)=some (.map es c):=by
 have:Sj σ es=some es:=by
  induction es with
  |nil=>rfl
  |cons e r ih=>
   obtain⟨x,n,b,_,rfl⟩:=h e List.mem_cons_self
   simp only[Sj,TV.rn,ih λe he=>h e (List.mem_cons_of_mem _ he)]
 simp only[aO.rn,this,Option.map_some]
end Go.Abs
end
namespace Go.Abs
open Go
abbrev bM (k:Int)(b:Bool)(n:Int)(s t:List UInt8)(N L:List Tree):Tree:=.agg [.int .u8 k,.bool b,.int .i64 n,.str s,.str t,.sl N,.sl L]
abbrev eH (k:Int)(b:Bool)(n:Int)(s t:List UInt8)(N L:List Tree):List TV:=[.t (.int .u8 k),.t (.bool b),.t (.int .i64 n),.t (.str s),.t (.str t),.t (.sl N),.t (.sl L)]
theorem gW {p:Prop}(h:p:=by first|omega|(simp only[List.length_append,List.length_cons,List.length_nil,List.length_singleton] at*;omega)|(simp;done)|(simp;omega)):p:=h
theorem bh {p:Prop}(h:p:=by first|assumption|omega|(simp;done)|(simp;omega)):p:=h
theorem kQ {l:List Tree}{i:Nat}{x:Tree}(h:l[i]?=some x):x∈l:=List.mem_of_getElem? h
theorem iO (l:List Tree)(i:Nat)(h:i<l.length:=by first|omega|(simp;omega)):∃e,l[i]?=some e:=elt l i h
section
variable {ev:aW}
abbrev bO (t k:Nat)(X:List Tree):Ob ev:=oN (o:=.arr (t,true) k false ((flat X).map .t)) (λ_=>MV)
abbrev fU (K:Tree->Prop)(es:List (TV×TV×Nat))(c:Nat)(h:KM K es):Ob ev:=oN (o:=.map es c) (λ_=>aee (K:=K) h)
abbrev xC (g:FuncId)(akb:List TV)(x:Tree)(h:ev g akb []=some (.ret (.t x) [] [])):Ob ev:=oC h
end
section
variable {C:cE}{ev:aW}{f:FuncId}{R:Type}
theorem kf {fn:Func}{m:Nat}{r:bk}{K:List Fr}{e:aK}{s:St}(hm:C.P.prog.follows .mixedOrders=true)(obs:List (Ob ev))(aC:aI C ev:=by assumption)(h:aX (goK C 0 [] 100000 3000 K e s) (Ra C fn m) (vals obs)=some (r,[],vals obs):=by kernel_rfl):KE C (Ks C fn m r) K e s:=kF hm aC obs h
theorem q4 {fn:Func}{m:Nat}{r:bk}{K:List Fr}{e:aK}{s:St}(hm:C.P.prog.follows .mixedOrders=true)(f:FuncId)(once:List Nat)(obs:List (Ob ev))(aC:aI C ev:=by assumption)(h:aX (goK C f once 100000 3000 K e s) (Ra C fn m) (vals obs)=some (r,[],vals obs):=by kernel_rfl):KE C (Ks C fn m r) K e s:=ad7 hm aC obs h
theorem kx {α:Type}{st:α->St}{P:α->Prop}{Q:R->aK->St->Prop}{K:List Fr}{e:aK}{s:St}(hm:C.P.prog.follows .mixedOrders=true)(obs:List (Ob ev))(k:∃r,Q r (exOf (goK C 0 [] 100000 3000 K e s (vals obs))) (stOf (goK C 0 [] 100000 3000 K e s (vals obs))))(aC:aI C ev:=by assumption)(h:Pb (goK C 0 [] 100000 3000 K e s (vals obs))=some ([],vals obs):=by kernel_rfl):∃o,KE C (uy C st P Q o) K e s:=kO hm aC obs h k
theorem Np {α:Type}{st:α->St}{P:α->Prop}{Q:R->aK->St->Prop}{K:List Fr}{e:aK}{s:St}(hm:C.P.prog.follows .mixedOrders=true)(f:FuncId)(once:List Nat)(obs:List (Ob ev))(k:∃r,Q r (exOf (goK C f once 100000 3000 K e s (vals obs))) (stOf (goK C f once 100000 3000 K e s (vals obs))))(aC:aI C ev:=by assumption)(h:Pb (goK C f once 100000 3000 K e s (vals obs))=some ([],vals obs):=by kernel_rfl):∃o,KE C (uy C st P Q o) K e s:=aeb hm aC obs h k
theorem FL {s2:St}{K:List Fr}{e:aK}{s:St}(hm:C.P.prog.follows .mixedOrders=true)(f:FuncId)(once:List Nat)(k T:Nat)(S ks:List Nm)(live:List Nat)(obs:List (Ob ev))(aC:aI C ev:=by assumption)(h:aX (goK C f once 100000 3000 K e s) (D8 k S ks live T) (vals obs)=some (s2,[],vals obs):=by kernel_rfl):KE C (λe s=>e=.normal/\Re C s s2) K e s:=Uq hm aC obs h
theorem kr {s2:St}{K:List Fr}{e:aK}{s:St}(hm:C.P.prog.follows .mixedOrders=true)(k T:Nat)(S:List Nm)(live:List Nat)(obs:List (Ob ev))(aC:aI C ev:=by assumption)(h:aX (goK C 0 [] 100000 3000 K e s) (D8 k S S live T) (vals obs)=some (s2,[],vals obs):=by kernel_rfl):KE C (λe s=>e=.normal/\Re C s s2) K e s:=Uq hm aC obs h
theorem kl {α:Type}{K:List Fr}{e:aK}{s:St}{Q:R->aK->St->Prop}(hm:C.P.prog.follows .mixedOrders=true)(f:FuncId)(once:List Nat)(k T:Nat)(S ks:List Nm)(live:List Nat)(st:α->St)(ok:α->Prop)(μ:α->Nat)(x0:α)(L:Code×List Fr)(obs:List (Ob ev))(h0:ok x0)
 (hs:∀x,ok x->∃o,KE C (uy C st (λy=>ok y/\μ y<μ x) (λr=>KE C (Q r) L.2) o) [.c L.1] .normal (st x))(aC:aI C ev:=by assumption)(h:aX (goK C f once 100000 3000 K e s) (O9 k S ks live T) (vals obs)=some ((L,st x0),[],vals obs):=by kernel_rfl):∃r,KE C (Q r) K e s:=aea hm aC st ok μ x0 L obs h h0 hs
end
end Go.Abs
