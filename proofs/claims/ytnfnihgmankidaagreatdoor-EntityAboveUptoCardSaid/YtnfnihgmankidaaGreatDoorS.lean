/- Maps of keys to numbers, told: which number a key has, what it has behind an update. -/
import Derived.Test.YtnfnihgmankidaaGreatDoorR
set_option linter.unusedVariables false
set_option linter.unusedSimpArgs false
noncomputable section
namespace Go.Abs
open Go
def KM (K:Tree->Prop)(es:List (TV×TV×Nat)):Prop:=∀e∈es,∃(x:Tree) (n:Int) (b:Nat),K x/\e=(.t x,.t (.int .i64 n),b)
theorem KM.nil {K:Tree->Prop}:KM K []:=λ_ h=>by cases h
structure KEq (P:ij)(kt:TypeId)(d:TypeDesc)(K:Tree->Prop):Prop where
 same:∀x,K x->Jr P kt d (.t x) (.t x)=some true/\∃u,jD (.t x)=some u/\Instr.sameBits 10000 u u=true
 other:∀x y,K x->K y->x≠y->Jr P kt d (.t x) (.t y)=some false
 ok:∀x b,K x->uL P b kt (.t x)=true
open Classical in
def fH:List (TV×TV×Nat)->Tree->Nat->Option (Nat×TV×Nat)
 | [],_,_=>none
 |(k,v,b)::r,x,i=>if k=.t x then some (i,v,b) else fH r x (i+1)
theorem Is {P:ij}{kt:TypeId}{d:TypeDesc}{K:Tree->Prop}(h:KEq P kt d K){x:Tree}(hx:K x):∀{es:List (TV×TV×Nat)},KM K es->∀i,k9 P kt d (.t x) es i=some (fH es x i)
 | [],_,i=>rfl
 | e ::es,hs,i=>by
   obtain⟨y,n,b,hy,rfl⟩:=hs e List.mem_cons_self
   unfold k9 fH
   by_cases hxy:x=y
   · subst hxy
     obtain⟨h1,u,h2,h3⟩:=h.same x hx
     simp only[h1,h2,h3,if_true]
   · rw[h.other x y hx hy hxy]
     have:¬(TV.t y=TV.t x):=λe=>hxy (TV.t.inj e).symm
     rw[if_neg this]
     exact Is h hx (λe he=>hs e (List.mem_cons_of_mem _ he)) (i+1)
theorem tv {K:Tree->Prop}{x:Tree}:∀{es:List (TV×TV×Nat)},KM K es->∀i j v b,fH es x i=some (j,v,b)->i<=j/\es[j - i]?=some (.t x,v,b)/\∃n:Int,v=.t (.int .i64 n)
 | [],_,_,_,_,_,h=>by cases h
 | e ::es,hs,i,j,v,b,h=>by
   obtain⟨y,n,b',hy,rfl⟩:=hs e List.mem_cons_self
   unfold fH at h
   split at h
   · rename_i e1
     cases h
     rw[Nat.sub_self]
     exact⟨Nat.le_refl _,by rw[e1];rfl,n,rfl⟩
   · obtain⟨h1,h2,h3⟩:=tv (λe he=>hs e (List.mem_cons_of_mem _ he)) (i+1) j v b h
     refine⟨by omega, ?_,h3⟩
     rw[show j - i=(j - (i+1))+1 by omega]
     exact h2
def iq (es:List (TV×TV×Nat))(x:Tree):Int:=match fH es x 0 with
 |some (_,.t (.int _ n),_)=>n
 |_=>0
def kN (es:List (TV×TV×Nat))(c:Nat)(x:Tree)(n:Int):List (TV×TV×Nat):=match fH es x 0 with
 |some (i,_,b)=>es.set i (.t x,.t (.int .i64 n),b)
 |none=>es++[(.t x,.t (.int .i64 n),c)]
def rR (es:List (TV×TV×Nat))(c:Nat)(x:Tree):Nat:=match fH es x 0 with
 |some _=>c
 |none=>c+1
section
variable {P:ij}{ty kt et:TypeId}{ti tk te:TI}{K:Tree->Prop}{x:Tree}{es:List (TV×TV×Nat)}
theorem vC (ht:P.ty ty=some ti)(hd:ti.desc=.map kt et)(hk:P.ty kt=some tk)(he:P.ty et=some te)(hez:te.zero=some (.t (.int .i64 0)))(hK:KEq P kt tk.desc K)(hS:KM K es)(hx:K x):
 BF P ty es (.t x) false=some (.t (.int .i64 (iq es x))):=by
 have h:=Is hK hx hS 0
 have h2:=tv hS 0 (x:=x)
 unfold iq
 cases hf:fH es x 0 with
 |none=>
  rw[hf] at h
  simp only[BF,aW,ht,hd,hk,he,hK.ok x _ hx,if_true,h,hez,Bool.false_eq_true,if_false]
 |some p=>
  obtain⟨j,v,b⟩:=p
  rw[hf] at h
  obtain⟨_,_,n,rfl⟩:=h2 j v b hf
  simp only[BF,aW,ht,hd,hk,he,hK.ok x _ hx,if_true,h,hez,Bool.false_eq_true,if_false]
end
theorem iw {K:Tree->Prop}{es:List (TV×TV×Nat)}(h:KM K es){x:Tree}(hx:K x)(c:Nat)(n:Int):KM K (kN es c x n):=by
 unfold kN;split
 ·rename_i i v b hf;intro e he;rcases List.mem_or_eq_of_mem_set he with he|he
  ·exact h e he
  ·exact⟨x,n,b,hx,he⟩
 ·intro e he;rcases List.mem_append.1 he with he|he
  ·exact h e he
  ·simp only[List.mem_singleton] at he;exact⟨x,n,c,hx,he⟩
open Classical in
theorem AF {y x:Tree}{v:TV}{c:Nat}:∀{es:List (TV×TV×Nat)} (i:Nat),fH (es++[(.t x,v,c)]) y i=match fH es y i with
    |some p=>some p
    |none=>if x=y then some (i+es.length,v,c) else none
  | [],i=>by
    simp only[List.nil_append,fH,List.length_nil,Nat.add_zero]
    by_cases h:x=y
    · rw[if_pos h,if_pos (by rw[h])]
    · rw[if_neg h,if_neg (λe=>h (TV.t.inj e))]
  | e ::es,i=>by
    obtain⟨k,w,b⟩:=e
    simp only[List.cons_append,fH]
    split
    · rfl
    · rw[AF (i+1)]
      simp only[List.length_cons]
      rw[show i+1+es.length=i+(es.length+1) by omega]
theorem uo {y x:Tree}(hxy:x≠y){v:TV}{b:Nat}:∀{es:List (TV×TV×Nat)} (i j:Nat) (w:TV) (b':Nat),es[j]?=some (.t x,w,b')->fH (es.set j (.t x,v,b)) y i=fH es y i
 | [],_,_,_,_,h=>by simp at h
 |e::es,i,0,w,b',h=>by
  simp only[List.getElem?_cons_zero,Option.some.injEq] at h
  subst h
  have hne:¬(TV.t x=TV.t y):=λe=>hxy (TV.t.inj e)
  simp only[List.set_cons_zero,fH,if_neg hne]
 |e::es,i,j+1,w,b',h=>by
  obtain⟨k,w0,b0⟩:=e
  simp only[List.set_cons_succ,fH]
  rw[uo hxy (i+1) j w b' (by simpa using h)]
theorem vD {x:Tree}{v:TV}{b:Nat}:∀{es:List (TV×TV×Nat)} (i j:Nat) (w:TV) (b':Nat),fH es x i=some (i+j,w,b')->fH (es.set j (.t x,v,b)) x i=some (i+j,v,b)
 | [],_,_,_,_,h=>by cases h
 | e ::es,i,j,w,b',h=>by
   obtain⟨k,w0,b0⟩:=e
   unfold fH at h
   split at h
   · rename_i hk
     have:j=0:=by
       simp only[Option.some.injEq,Prod.mk.injEq] at h
       omega
     subst this
     simp only[List.set_cons_zero,fH,if_true,Nat.add_zero]
   · rename_i hk
     cases j with
     | zero=>
       exfalso
       have:∀(l:List (TV×TV×Nat)) (a q:Nat) (u:TV) (z:Nat),fH l x a=some (q,u,z)->a<=q:=by
         intro l
         induction l with
         |nil=>intro a q u z h;cases h
         | cons e r ih=>
           obtain⟨k1,w1,b1⟩:=e
           intro a q u z h
           unfold fH at h
           split at h
           · cases h;exact Nat.le_refl _
           · have:=ih _ _ _ _ h;omega
       have:=this _ _ _ _ _ h
       omega
     | succ j=>
       simp only[List.set_cons_succ,fH,if_neg hk]
       rw[show i+(j+1)=i+1+j by omega] at h ⊢
       exact vD (i+1) j w b' h
theorem pV {K:Tree->Prop}{es:List (TV×TV×Nat)}(h:KM K es)(x:Tree)(c:Nat)(n:Int):iq (kN es c x n) x=n:=by
 unfold iq kN;cases hf:fH es x 0 with
 |some p=>
  obtain⟨i,v,b⟩:=p
  simp only
  rw[show fH (es.set i (.t x,.t (.int .i64 n),b)) x 0=some (0+i,.t (.int .i64 n),b) from vD 0 i v b (by rw[Nat.zero_add];exact hf)]
 |none=>
  simp only
  rw[AF 0,hf]
  simp
theorem qB {K:Tree->Prop}{es:List (TV×TV×Nat)}(h:KM K es){x y:Tree}(hxy:x≠y)(c:Nat)(n:Int):iq (kN es c x n) y=iq es y:=by
 unfold iq kN;cases hf:fH es x 0 with
 |some p=>
  obtain⟨i,v,b⟩:=p
  obtain⟨_,h2,_⟩:=tv h 0 i v b hf
  rw[Nat.sub_zero] at h2
  simp only
  rw[uo hxy 0 i v b h2]
 |none=>
  simp only
  rw[AF 0]
  cases fH es y 0 with
  |some p=>rfl
  |none=>simp only[if_neg hxy]
theorem wE {P:ij}{ty kt et:TypeId}{ti tk te:TI}{K:Tree->Prop}{x:Tree}{es:List (TV×TV×Nat)}(ht:P.ty ty=some ti)(hd:ti.desc=.map kt et)(hk:P.ty kt=some tk)(he:P.ty et=some te)(hez:te.zero=some (.t (.int .i64 0)))(hK:KEq P kt tk.desc K)(hS:KM K es)(hx:K x)(c:Nat):
 BF P ty (kN es c x (iq es x)) (.t x) false=some (.t (.int .i64 (iq es x))):=by
 rw[vC ht hd hk he hez hK (iw hS hx c _) hx,pV hS]
def KB (es:List (TV×TV×Nat))(c:Nat):Prop:=(es.map (·.2.2)).Nodup/\∀e∈es,e.2.2<c
theorem KB.nil:KB [] 0:=⟨List.nodup_nil,λ_ h=>by cases h⟩
def stM (es:List (TV×TV×Nat))(c:Nat)(x:Tree):Nat:=match fH es x 0 with
 |some (_,_,b)=>b
 |none=>c
theorem KB.up {K:Tree->Prop}{es:List (TV×TV×Nat)}{c:Nat}(h:KB es c)(hS:KM K es)(x:Tree)(n:Int):KB (kN es c x n) (rR es c x):=by
 unfold kN rR;cases hf:fH es x 0 with
 | some p=>
   obtain⟨i,v,b⟩:=p
   obtain⟨_,h2,_⟩:=tv hS 0 i v b hf
   rw[Nat.sub_zero] at h2
   obtain⟨hi,h3⟩:=List.getElem?_eq_some_iff.1 h2
   have e:(es.set i (.t x,.t (.int .i64 n),b)).map (·.2.2)=es.map (·.2.2):=by
     rw[List.map_set]
     have:(es.map (·.2.2))[i]'(by simpa using hi)=b:=by rw[List.getElem_map,h3]
     conv=>lhs;rw[show((TV.t x,TV.t (.int .i64 n),b):TV×TV×Nat).2.2=(es.map (·.2.2))[i]'(by simpa using hi) from this.symm]
     exact List.set_getElem_self _
   refine⟨by rw[e];exact h.1,λy hy=> ?_⟩
   rcases List.mem_or_eq_of_mem_set hy with hy|hy
   · exact h.2 y hy
   · have:=h.2 _ (List.mem_of_getElem? h2)
     rw[hy];exact this
 | none=>
   refine⟨?_,λy hy=> ?_⟩
   · rw[List.map_append]
     refine List.nodup_append.2 ⟨h.1,by simp,λa ha b hb=> ?_⟩
     simp only[List.map_cons,List.map_nil,List.mem_singleton] at hb
     subst hb
     obtain⟨e,he,rfl⟩:=List.mem_map.1 ha
     have:=h.2 e he
     omega
   · rcases List.mem_append.1 hy with hy|hy
     · have:=h.2 y hy;show _<c+1;omega
     · simp only[List.mem_singleton] at hy;rw[hy];exact Nat.lt_succ_self c
theorem yd:∀{es:List (TV×TV×Nat)} {i:Nat} {e:TV×TV×Nat} (q:Nat),(es.map (·.2.2)).Nodup->es[i]?=some e->og es (e.2.2:Int) q=some (q+i)
 | [],_,_,_,_,h=>by simp at h
 |(k,v,b)::r,0,e,q,hn,h=>by
  simp only[List.getElem?_cons_zero,Option.some.injEq] at h
  subst h
  simp only[og,if_true,Nat.add_zero]
 |(k,v,b)::r,i+1,e,q,hn,h=>by
  have h':r[i]?=some e:=by simpa using h
  simp only[List.map_cons,List.nodup_cons] at hn
  have hne:¬((b:Int)=(e.2.2:Int)):=λx=>hn.1 (List.mem_map.2 ⟨e,List.mem_of_getElem? h',by omega⟩)
  simp only[og,if_neg hne]
  rw[yd (q+1) hn.2 h',show q+1+i=q+(i+1) by omega]
section
variable {P:ij}{ty kt et:TypeId}{ti tk te:TI}{K:Tree->Prop}{x:Tree}{es:List (TV×TV×Nat)}
theorem Ct (ht:P.ty ty=some ti)(hd:ti.desc=.map kt et)(hk:P.ty kt=some tk)(he:P.ty et=some te)(hez:te.zero=some (.t (.int .i64 0)))(hK:KEq P kt tk.desc K)(hS:KM K es)(hx:K x)(c:Nat):
 Q5 P ty es c (.t x)=some (.t (.cT [.int .i64 (iq es x),.int .i64 (stM es c x)]),kN es c x (iq es x),rR es c x):=by
 have h:=Is hK hx hS 0
 have h2:=tv hS 0 (x:=x)
 unfold iq kN rR stM
 cases hf:fH es x 0 with
 |none=>
  rw[hf] at h
  simp only[Q5,aW,ht,hd,hk,he,hK.ok x _ hx,if_true,h,hez]
  rfl
 |some p=>
  obtain⟨j,v,b⟩:=p
  rw[hf] at h
  obtain⟨_,_,n,rfl⟩:=h2 j v b hf
  simp only[Q5,aW,ht,hd,hk,he,hK.ok x _ hx,if_true,h,hez]
  rfl
end
theorem Cu {K:Tree->Prop}{x:Tree}{es:List (TV×TV×Nat)}{c:Nat}(hS:KM K es)(hB:KB es c)(n0 n:Int):
 T9 (kN es c x n0) (rR es c x) (stM es c x:Nat) (.t (.int .i64 n))=some (kN es c x n,rR es c x):=by
 have hB2:=(hB.up hS x n0).1
 unfold T9
 cases hf:fH es x 0 with
 |some p=>
  obtain⟨i,v,b⟩:=p
  obtain⟨_,h2,_⟩:=tv hS 0 i v b hf
  rw[Nat.sub_zero] at h2
  have hi:=(List.getElem?_eq_some_iff.1 h2).1
  have e1:∀m:Int,kN es c x m=es.set i (.t x,.t (.int .i64 m),b):=λm=>by unfold kN;rw[hf]
  have e2:stM es c x=b:=by unfold stM;rw[hf]
  have h3:(kN es c x n0)[i]?=some (.t x,.t (.int .i64 n0),b):=by rw[e1,List.getElem?_set_self (by simpa using hi)]
  have h4:=yd 0 hB2 h3
  rw[Nat.zero_add] at h4
  rw[e2,h4]
  simp only[h3]
  rw[e1,e1,List.set_set]
 |none=>
  have e1:∀m:Int,kN es c x m=es++[(.t x,.t (.int .i64 m),c)]:=λm=>by unfold kN;rw[hf]
  have e2:stM es c x=c:=by unfold stM;rw[hf]
  have h3:(kN es c x n0)[es.length]?=some (.t x,.t (.int .i64 n0),c):=by rw[e1];simp
  have h4:=yd 0 hB2 h3
  rw[Nat.zero_add] at h4
  rw[e2,h4]
  simp only[h3]
  rw[e1,e1]
  simp
theorem adL {σ:Nm->Option Nm}{K:Tree->Prop}{es:List (TV×TV×Nat)}{c:Nat}(h:KM K es):aK.rn σ (.map es c)=some (.map es c):=by
 have:Sc σ es=some es:=by
  induction es with
  |nil=>rfl
  |cons e r ih=>
   obtain⟨x,n,b,_,rfl⟩:=h e List.mem_cons_self
   simp only[Sc,TV.rn,ih λe he=>h e (List.mem_cons_of_mem _ he)]
 simp only[aK.rn,this,Option.map_some]
end Go.Abs
end
namespace Go.Abs
open Go
abbrev bW (k:Int)(b:Bool)(n:Int)(s t:List UInt8)(N L:List Tree):Tree:=.agg [.int .u8 k,.bool b,.int .i64 n,.str s,.str t,.sl N,.sl L]
abbrev fI (k:Int)(b:Bool)(n:Int)(s t:List UInt8)(N L:List Tree):List TV:=[.t (.int .u8 k),.t (.bool b),.t (.int .i64 n),.t (.str s),.t (.str t),.t (.sl N),.t (.sl L)]
theorem j9 {p:Prop}(h:p:=by first|omega|(simp only[List.length_append,List.length_cons,List.length_nil,List.length_singleton] at*;omega)|(simp;done)|(simp;omega)):p:=h
theorem bJ {p:Prop}(h:p:=by first|assumption|omega|(simp;done)|(simp;omega)):p:=h
theorem cg {l:List Tree}{i:Nat}{x:Tree}(h:l[i]?=some x):x∈l:=List.mem_of_getElem? h
theorem fR (l:List Tree)(i:Nat)(h:i<l.length:=by first|omega|(simp;omega)):∃e,l[i]?=some e:=elt l i h
section
variable {ev:aT}
abbrev cz (t k:Nat)(X:List Tree):Ob ev:=oN (o:=.arr (t,true) k false ((flat X).map .t)) (λ_=>MD)
abbrev fD (K:Tree->Prop)(es:List (TV×TV×Nat))(c:Nat)(h:KM K es):Ob ev:=oN (o:=.map es c) (λ_=>adL (K:=K) h)
abbrev zl (g:FuncId)(akR:List TV)(x:Tree)(h:ev g akR []=some (.ret (.t x) [] [])):Ob ev:=oC h
end
section
variable {C:cE}{ev:aT}{f:FuncId}{R:Type}
theorem kf {fn:Func}{m:Nat}{r:bB}{K:List Fr}{e:aI}{s:St}(hm:C.P.prog.follows .mixedOrders=true)(obs:List (Ob ev))(aC:aF C ev:=by assumption)(h:aS (goK C 0 [] 100000 3000 K e s) (Q9 C fn m) (vals obs)=some (r,[],vals obs):=by kernel_rfl):KE C (HN C fn m r) K e s:=kF hm aC obs h
theorem ye {fn:Func}{m:Nat}{r:bB}{K:List Fr}{e:aI}{s:St}(hm:C.P.prog.follows .mixedOrders=true)(f:FuncId)(once:List Nat)(obs:List (Ob ev))(aC:aF C ev:=by assumption)(h:aS (goK C f once 100000 3000 K e s) (Q9 C fn m) (vals obs)=some (r,[],vals obs):=by kernel_rfl):KE C (HN C fn m r) K e s:=adE hm aC obs h
theorem kx {α:Type}{st:α->St}{P:α->Prop}{Q:R->aI->St->Prop}{K:List Fr}{e:aI}{s:St}(hm:C.P.prog.follows .mixedOrders=true)(obs:List (Ob ev))(k:∃r,Q r (exOf (goK C 0 [] 100000 3000 K e s (vals obs))) (stOf (goK C 0 [] 100000 3000 K e s (vals obs))))(aC:aF C ev:=by assumption)(h:O2 (goK C 0 [] 100000 3000 K e s (vals obs))=some ([],vals obs):=by kernel_rfl):∃o,KE C (s9 C st P Q o) K e s:=kO hm aC obs h k
theorem O6 {α:Type}{st:α->St}{P:α->Prop}{Q:R->aI->St->Prop}{K:List Fr}{e:aI}{s:St}(hm:C.P.prog.follows .mixedOrders=true)(f:FuncId)(once:List Nat)(obs:List (Ob ev))(k:∃r,Q r (exOf (goK C f once 100000 3000 K e s (vals obs))) (stOf (goK C f once 100000 3000 K e s (vals obs))))(aC:aF C ev:=by assumption)(h:O2 (goK C f once 100000 3000 K e s (vals obs))=some ([],vals obs):=by kernel_rfl):∃o,KE C (s9 C st P Q o) K e s:=adI hm aC obs h k
theorem Cv {s2:St}{K:List Fr}{e:aI}{s:St}(hm:C.P.prog.follows .mixedOrders=true)(f:FuncId)(once:List Nat)(k T:Nat)(S ks:List Nm)(live:List Nat)(obs:List (Ob ev))(aC:aF C ev:=by assumption)(h:aS (goK C f once 100000 3000 K e s) (DR k S ks live T) (vals obs)=some (s2,[],vals obs):=by kernel_rfl):KE C (λe s=>e=.normal/\Re C s s2) K e s:=Um hm aC obs h
theorem kr {s2:St}{K:List Fr}{e:aI}{s:St}(hm:C.P.prog.follows .mixedOrders=true)(k T:Nat)(S:List Nm)(live:List Nat)(obs:List (Ob ev))(aC:aF C ev:=by assumption)(h:aS (goK C 0 [] 100000 3000 K e s) (DR k S S live T) (vals obs)=some (s2,[],vals obs):=by kernel_rfl):KE C (λe s=>e=.normal/\Re C s s2) K e s:=Um hm aC obs h
theorem kl {α:Type}{K:List Fr}{e:aI}{s:St}{Q:R->aI->St->Prop}(hm:C.P.prog.follows .mixedOrders=true)(f:FuncId)(once:List Nat)(k T:Nat)(S ks:List Nm)(live:List Nat)(st:α->St)(ok:α->Prop)(μ:α->Nat)(x0:α)(L:Code×List Fr)(obs:List (Ob ev))(h0:ok x0)
 (hs:∀x,ok x->∃o,KE C (s9 C st (λy=>ok y/\μ y<μ x) (λr=>KE C (Q r) L.2) o) [.c L.1] .normal (st x))(aC:aF C ev:=by assumption)(h:aS (goK C f once 100000 3000 K e s) (O1 k S ks live T) (vals obs)=some ((L,st x0),[],vals obs):=by kernel_rfl):∃r,KE C (Q r) K e s:=adH hm aC st ok μ x0 L obs h h0 hs
end
end Go.Abs
