/- Types as trees: what two are both (join), what fits one, plain. -/
import Derived.Test.YtnfnihgmankidaaGreatDoorA
set_option linter.unusedVariables false
set_option linter.unusedSimpArgs false
noncomputable section
namespace Go.Abs.Ty
open Go Go.Abs
def Kk (k:Int)(s:List UInt8)(os bs:List Tree):Tree:=.agg [.int .u8 k,.str s,.sl os,.sl bs]
def Hy:Tree:=Kk 0 [] [] []
def tyK:Tree->Int
 |.agg [.int _ k,_,_,_]=>k
 |_=>0
def tyO:Tree->List Tree
 |.agg [_,_,.sl os,_]=>os
 |_=>[]
def mkA (n:List UInt8):Tree->Tree
 |.agg r=>.agg (.str n::r)
 |x=>x
def ofT (x:Tree):Tree:=match tyO x with
 | []=>Hy
 |o::_=>o
def Dp:Nat->Tree->Prop
 |0,x=>x=Hy
 |n+1,x=>∃k s os bs,x=Kk k s os bs/\os.length<=4194304/\bs.length<=4194304/\(∀o∈os,Dp n o)/\∀e∈bs,∃nm r,e=.agg (.str nm::r)/\Dp n (.agg r)
theorem Dp.Hy:∀n,Dp n Hy
 |0=>rfl
 |n+1=>⟨0,[],[],[],rfl,by simp,by simp,by simp,by simp⟩
theorem Dp.up:∀n x,Dp n x->Dp (n+1) x
 |0,x,h=>by subst h;exact Dp.Hy 1
 | n+1,x,⟨k,s,os,bs,e,l1,l2,h1,h2⟩=>⟨k,s,os,bs,e,l1,l2,λo ho=>Dp.up n o (h1 o ho),λe he=>by
   obtain⟨nm,r,e1,h3⟩:=h2 e he
   exact⟨nm,r,e1,Dp.up n _ h3⟩⟩
theorem Dp.form {n:Nat}{x:Tree}(h:Dp n x):∃k s os bs,x=Kk k s os bs/\os.length<=4194304/\bs.length<=4194304:=by
 cases n with
 |zero=>exact⟨0,[],[],[],h,by simp,by simp⟩
 |succ n=>obtain⟨k,s,os,bs,e,l1,l2,_⟩:=h;exact⟨k,s,os,bs,e,l1,l2⟩
def Gd:Nat->Tree->Prop
 |0,x=>x=Hy
 |n+1,x=>∃k s os bs,x=Kk k s os bs/\k<7/\(k≠4->s=[])/\(k≠6->bs=[])/\(k=5->∃o,os=[o]/\Gd n o)/\(k≠5->os=[])/\∀e∈bs,∃nm r,e=.agg (.str nm::r)/\Gd n (.agg r)
theorem Gd.Hy:∀n,Gd n Hy
 |0=>rfl
 |n+1=>⟨0,[],[],[],rfl,by omega,by simp,by simp,by simp,by simp,by simp⟩
theorem Gd.agg {n:Nat}{x:Tree}(h:Gd n x):∃r,x=.agg r:=by
 cases n with
 |zero=>exact⟨_,h⟩
 |succ n=>obtain⟨k,s,os,bs,e,_⟩:=h;exact⟨_,e⟩
theorem Dp.of {n:Nat}{x:Tree}(h:Dp (n+1) x):Dp n (ofT x):=by
 obtain⟨k,s,os,bs,rfl,_,_,ho,_⟩:=h;cases os with
 |nil=>exact Dp.Hy n
 |cons o os=>exact ho o List.mem_cons_self
theorem Dp.agg {n:Nat}{x:Tree}(h:Dp n x):∃r,x=.agg r:=by obtain⟨k,s,os,bs,e,_⟩:=h.form;exact⟨_,e⟩
end Go.Abs.Ty
end
noncomputable section
namespace Go.Abs.Ty
open Go Go.Abs
end Go.Abs.Ty
end
noncomputable section
namespace Go.Abs.Ty
open Go Go.Abs
theorem Gd.up:∀n x,Gd n x->Gd (n+1) x
 |0,x,h=>by
  have h:x=Ty.Hy:=h
  subst h;exact Gd.Hy 1
 | n+1,x,⟨k,s,os,bs,e,hk,hs,hb,ho,ho',hat⟩=>⟨k,s,os,bs,e,hk,hs,hb,λq=>by
   obtain⟨o,e,h⟩:=ho q
   exact⟨o,e,Gd.up n o h⟩,ho',λe he=>by
   obtain⟨nm,r,e1,h⟩:=hat e he
   exact⟨nm,r,e1,Gd.up n _ h⟩⟩
theorem Gd.mono {n m:Nat}(hle:n<=m){x:Tree}(h:Gd n x):Gd m x:=by
 induction hle with
 |refl=>exact h
 |step _ ih=>exact Gd.up _ _ ih
def OO (x:Tree):Prop:=∃n,Gd n x
def adN (e:Tree):Prop:=∃nm r,e=.agg (.str nm::r)/\OO (.agg r)
theorem OO.Hy:OO Hy:=⟨0,rfl⟩
theorem OO.form {x:Tree}(h:OO x):∃k s os bs,x=Kk k s os bs:=by
 obtain⟨n,h⟩:=h;cases n with
 |zero=>exact⟨_,_,_,_,h⟩
 |succ n=>obtain⟨k,s,os,bs,e,_⟩:=h;exact⟨k,s,os,bs,e⟩
theorem OO.zero {x:Tree}(h:OO x)(hk:tyK x=0):x=Ty.Hy:=by
 obtain⟨n,h⟩:=h;cases n with
 |zero=>exact h
 |succ n=>
  obtain⟨k,s,os,bs,rfl,h1,h2,h3,h4,h5,h6⟩:=h
  have hk:k=0:=hk
  rw[h2 (by omega),h3 (by omega),h5 (by omega),hk];rfl
theorem OO.plain {k:Int}(h:k<7)(h5:k≠5):OO (Kk k [] [] []):=⟨1,k,[],[],[],rfl,h,λ_=>rfl,λ_=>rfl,λq=>absurd q h5,λ_=>rfl,λe he=>by cases he⟩
theorem OO.set {t:Tree}(h:OO t):OO (Kk 5 [] [t] []):=by
 obtain⟨n,h⟩:=h;exact⟨n+1,5,[],[t],[],rfl,by omega,λ_=>rfl,λ_=>rfl,λ_=>⟨t,rfl,h⟩,λq=>absurd rfl q,λe he=>by cases he⟩
theorem Z0:∀{l:List Tree},(∀e∈l,adN e)->∃n,∀e∈l,∃nm r,e=.agg (.str nm::r)/\Gd n (.agg r)
 | [],_=>⟨0,λe he=>by cases he⟩
 | a ::l,h=>by
   obtain⟨n,hn⟩:=Z0 λe he=>h e (List.mem_cons_of_mem _ he)
   obtain⟨nm,r,e0,k,hk⟩:=h a List.mem_cons_self
   refine⟨max n k,λe he=> ?_⟩
   rcases List.mem_cons.1 he with rfl|he
   · exact⟨nm,r,e0,Gd.mono (Nat.le_max_right _ _) hk⟩
   · obtain⟨nm2,r2,e2,h2⟩:=hn e he
     exact⟨nm2,r2,e2,Gd.mono (Nat.le_max_left _ _) h2⟩
theorem OO.record {l:List Tree}(h:∀e∈l,adN e):OO (Kk 6 [] [] l):=by
 obtain⟨n,hn⟩:=Z0 h;exact⟨n+1,6,[],[],l,rfl,by omega,λ_=>rfl,λq=>absurd rfl q,λq=>absurd q (by omega),λ_=>rfl,hn⟩
def adO:Tree->List Tree
 |.agg [_,_,_,_,_,.sl l]=>l
 |_=>[]
def Dx:Nat->Tree->Prop
 |0,_=>False
 |n+1,x=>∀k∈adO x,Dx n k
theorem Dx.mono:∀{n m:Nat} {x:Tree},n<=m->Dx n x->Dx m x
 |0,_,_,_,h=>h.elim
 |n+1,0,_,hle,_=>by omega
 |n+1,m+1,x,hle,h=>λk hk=>Dx.mono (by omega) (h k hk)
theorem wrap_i64 {n:Int}(h1:-9223372036854775808<=n)(h2:n<=9223372036854775807):IntKind.wrap .i64 n=n:=by
 simp only[IntKind.wrap,IntKind.bits,IntKind.signed];first|omega|(simp;omega)
mutual
def bulk:Tree->Nat
 |.sl es=>bulks es+1
 |.agg cs=>bulks cs+1
 |.cv cs=>bulks cs+1
 |.iface _ v=>bulk v+1
 |_=>1
def bulks:List Tree->Nat
 | []=>0
 |x::r=>bulk x+bulks r
end
theorem DC (x:Tree):1<=bulk x:=by cases x<;>simp[bulk]
end Go.Abs.Ty
