/- Types as trees: what two are both (join), what fits one, plain. -/
import Derived.Test.YtacmmaaabfhhoaaGreatDoorA
set_option linter.unusedVariables false
set_option linter.unusedSimpArgs false
noncomputable section
namespace Go.Abs.Ty
open Go Go.Abs
def Ic (k:Int)(s:List UInt8)(os bs:List Tree):Tree:=.agg [.int .u8 k,.str s,.sl os,.sl bs]
def Fo:Tree:=Ic 0 [] [] []
def tyK:Tree->Int
 |.agg [.int _ k,_,_,_]=>k
 |_=>0
def tyO:Tree->List Tree
 |.agg [_,_,.sl os,_]=>os
 |_=>[]
def ofT (x:Tree):Tree:=match tyO x with
 | []=>Fo
 |o::_=>o
def Dp:Nat->Tree->Prop
 |0,x=>x=Fo
 |n+1,x=>∃k s os bs,x=Ic k s os bs/\os.length<=4194304/\bs.length<=4194304/\(∀o∈os,Dp n o)/\∀e∈bs,∃nm r,e=.agg (.str nm::r)/\Dp n (.agg r)
theorem Dp.Fo:∀n,Dp n Fo
 |0=>rfl
 |n+1=>⟨0,[],[],[],rfl,by simp,by simp,by simp,by simp⟩
theorem Dp.up:∀n x,Dp n x->Dp (n+1) x
 |0,x,h=>by subst h;exact Dp.Fo 1
 | n+1,x,⟨k,s,os,bs,e,l1,l2,h1,h2⟩=>⟨k,s,os,bs,e,l1,l2,λo ho=>Dp.up n o (h1 o ho),λe he=>by
   obtain⟨nm,r,e1,h3⟩:=h2 e he
   exact⟨nm,r,e1,Dp.up n _ h3⟩⟩
theorem Dp.form {n:Nat}{x:Tree}(h:Dp n x):∃k s os bs,x=Ic k s os bs/\os.length<=4194304/\bs.length<=4194304:=by
 cases n with
 |zero=>exact⟨0,[],[],[],h,by simp,by simp⟩
 |succ n=>obtain⟨k,s,os,bs,e,l1,l2,_⟩:=h;exact⟨k,s,os,bs,e,l1,l2⟩
def Gd:Nat->Tree->Prop
 |0,x=>x=Fo
 |n+1,x=>∃k s os bs,x=Ic k s os bs/\k<7/\(k≠4->s=[])/\(k≠6->bs=[])/\(k=5->∃o,os=[o]/\Gd n o)/\(k≠5->os=[])/\∀e∈bs,∃nm r,e=.agg (.str nm::r)/\Gd n (.agg r)
theorem Gd.Fo:∀n,Gd n Fo
 |0=>rfl
 |n+1=>⟨0,[],[],[],rfl,by omega,by simp,by simp,by simp,by simp,by simp⟩
theorem Gd.agg {n:Nat}{x:Tree}(h:Gd n x):∃r,x=.agg r:=by
 cases n with
 |zero=>exact⟨_,h⟩
 |succ n=>obtain⟨k,s,os,bs,e,_⟩:=h;exact⟨_,e⟩
theorem Dp.of {n:Nat}{x:Tree}(h:Dp (n+1) x):Dp n (ofT x):=by
 obtain⟨k,s,os,bs,rfl,_,_,ho,_⟩:=h;cases os with
 |nil=>exact Dp.Fo n
 |cons o os=>exact ho o List.mem_cons_self
theorem Dp.agg {n:Nat}{x:Tree}(h:Dp n x):∃r,x=.agg r:=by obtain⟨k,s,os,bs,e,_⟩:=h.form;exact⟨_,e⟩
end Go.Abs.Ty
end
noncomputable section
namespace Go.Abs.Ty
open Go Go.Abs
end Go.Abs.Ty
end
noncomputable section
namespace Go.Abs.Ty
open Go Go.Abs
theorem Gd.up:∀n x,Gd n x->Gd (n+1) x
 |0,x,h=>by
  have h:x=Ty.Fo:=h
  subst h;exact Gd.Fo 1
 | n+1,x,⟨k,s,os,bs,e,hk,hs,hb,ho,ho',hat⟩=>⟨k,s,os,bs,e,hk,hs,hb,λq=>by
   obtain⟨o,e,h⟩:=ho q
   exact⟨o,e,Gd.up n o h⟩,ho',λe he=>by
   obtain⟨nm,r,e1,h⟩:=hat e he
   exact⟨nm,r,e1,Gd.up n _ h⟩⟩
theorem Gd.mono {n m:Nat}(hle:n<=m){x:Tree}(h:Gd n x):Gd m x:=by
 induction hle with
 |refl=>exact h
 |step _ ih=>exact Gd.up _ _ ih
def Me (x:Tree):Prop:=∃n,Gd n x
def abz (e:Tree):Prop:=∃nm r,e=.agg (.str nm::r)/\Me (.agg r)
theorem Me.Fo:Me Fo:=⟨0,rfl⟩
theorem Me.form {x:Tree}(h:Me x):∃k s os bs,x=Ic k s os bs:=by
 obtain⟨n,h⟩:=h;cases n with
 |zero=>exact⟨_,_,_,_,h⟩
 |succ n=>obtain⟨k,s,os,bs,e,_⟩:=h;exact⟨k,s,os,bs,e⟩
theorem Me.zero {x:Tree}(h:Me x)(hk:tyK x=0):x=Ty.Fo:=by
 obtain⟨n,h⟩:=h;cases n with
 |zero=>exact h
 |succ n=>
  obtain⟨k,s,os,bs,rfl,h1,h2,h3,h4,h5,h6⟩:=h
  have hk:k=0:=hk
  rw[h2 (by omega),h3 (by omega),h5 (by omega),hk];rfl
theorem Me.plain {k:Int}(h:k<7)(h5:k≠5):Me (Ic k [] [] []):=⟨1,k,[],[],[],rfl,h,λ_=>rfl,λ_=>rfl,λq=>absurd q h5,λ_=>rfl,λe he=>by cases he⟩
theorem Me.set {t:Tree}(h:Me t):Me (Ic 5 [] [t] []):=by
 obtain⟨n,h⟩:=h;exact⟨n+1,5,[],[t],[],rfl,by omega,λ_=>rfl,λ_=>rfl,λ_=>⟨t,rfl,h⟩,λq=>absurd rfl q,λe he=>by cases he⟩
theorem XS:∀{l:List Tree},(∀e∈l,abz e)->∃n,∀e∈l,∃nm r,e=.agg (.str nm::r)/\Gd n (.agg r)
 | [],_=>⟨0,λe he=>by cases he⟩
 | a ::l,h=>by
   obtain⟨n,hn⟩:=XS λe he=>h e (List.mem_cons_of_mem _ he)
   obtain⟨nm,r,e0,k,hk⟩:=h a List.mem_cons_self
   refine⟨max n k,λe he=> ?_⟩
   rcases List.mem_cons.1 he with rfl|he
   · exact⟨nm,r,e0,Gd.mono (Nat.le_max_right _ _) hk⟩
   · obtain⟨nm2,r2,e2,h2⟩:=hn e he
     exact⟨nm2,r2,e2,Gd.mono (Nat.le_max_left _ _) h2⟩
theorem Me.record {l:List Tree}(h:∀e∈l,abz e):Me (Ic 6 [] [] l):=by
 obtain⟨n,hn⟩:=XS h;exact⟨n+1,6,[],[],l,rfl,by omega,λ_=>rfl,λq=>absurd rfl q,λq=>absurd q (by omega),λ_=>rfl,hn⟩
def wH:Tree->List Tree
 |.agg [_,_,_,_,_,.sl l]=>l
 |_=>[]
def Dx:Nat->Tree->Prop
 |0,_=>False
 |n+1,x=>∀k∈wH x,Dx n k
theorem Dx.mono:∀{n m:Nat} {x:Tree},n<=m->Dx n x->Dx m x
 |0,_,_,_,h=>h.elim
 |n+1,0,_,hle,_=>by omega
 |n+1,m+1,x,hle,h=>λk hk=>Dx.mono (by omega) (h k hk)
def wg (b:Tree->Bool)(f:Tree->Int×Int×Bool)(x:Tree):Int×Int×Bool:=
 (IntKind.wrap .i64 ((wH x).foldl (λa k=>max a (f k).1) 0+1),IntKind.wrap .i64 ((wH x).foldl (λa k=>IntKind.wrap .i64 (a+(f k).2.1)) 0+1),(wH x).foldl (λo k=>o&&(f k).2.2) (b x))
def U3 (b:Tree->Bool):Nat->Tree->Int×Int×Bool
 |0=>λ_=>(0,0,false)
 |n+1=>wg b (U3 b n)
theorem abA:∀{l:List Tree},(∀y∈l,∃n,Dx n y)->∃n,∀y∈l,Dx n y
 | [],_=>⟨0,λy hy=>by cases hy⟩
 |a::l,h=>by
  obtain⟨n,hn⟩:=abA λy hy=>h y (List.mem_cons_of_mem _ hy)
  obtain⟨k,hk⟩:=h a List.mem_cons_self
  refine⟨max n k,λy hy=> ?_⟩
  rcases List.mem_cons.1 hy with rfl|hy
  · exact Dx.mono (Nat.le_max_right _ _) hk
  · exact Dx.mono (Nat.le_max_left _ _) (hn y hy)
theorem bO {α:Type}{g:α->Tree->α}{l:List Tree}{i:Nat}{e:Tree}{a:α}(he:l[i]?=some e):(l.take (i+1)).foldl g a=g ((l.take i).foldl g a) e:=by
 obtain⟨hi,rfl⟩:=List.getElem?_eq_some_iff.1 he;rw[List.take_add_one,List.foldl_append,List.getElem?_eq_getElem hi];rfl
theorem foldl_congr {α:Type}{g1 g2:α->Tree->α}:∀{l:List Tree} {a:α},(∀k∈l,∀a,g1 a k=g2 a k)->l.foldl g1 a=l.foldl g2 a
 | [],_,_=>rfl
 |x::r,a,h=>by
  rw[List.foldl_cons,List.foldl_cons,h x List.mem_cons_self]
  exact foldl_congr λk hk=>h k (List.mem_cons_of_mem _ hk)
theorem El {b:Tree->Bool}{f g:Tree->Int×Int×Bool}{x:Tree}(h:∀k∈wH x,f k=g k):wg b f x=wg b g x:=by
 unfold wg;rw[foldl_congr (g1:=λa k=>max a (f k).1) (g2:=λa k=>max a (g k).1) λk hk a=>by rw[h k hk],
  foldl_congr (g1:=λa k=>IntKind.wrap .i64 (a+(f k).2.1)) (g2:=λa k=>IntKind.wrap .i64 (a+(g k).2.1)) λk hk a=>by rw[h k hk],
  foldl_congr (g1:=λo k=>o&&(f k).2.2) (g2:=λo k=>o&&(g k).2.2) λk hk a=>by rw[h k hk]]
theorem Cb {b:Tree->Bool}:∀(n m:Nat) (x:Tree),Dx n x->Dx m x->U3 b n x=U3 b m x
 |0,_,_,h,_=>h.elim
 |_+1,0,_,_,h=>h.elim
 |n+1,m+1,x,h1,h2=>El λk hk=>Cb n m k (h1 k hk) (h2 k hk)
theorem wrap_i64 {n:Int}(h1:-9223372036854775808<=n)(h2:n<=9223372036854775807):IntKind.wrap .i64 n=n:=by
 simp only[IntKind.wrap,IntKind.bits,IntKind.signed];first|omega|(simp;omega)
theorem Ie {f:Tree->Bool}:∀{l:List Tree} {o:Bool},l.foldl (λo k=>o&&f k) o=true↔o=true/\∀k∈l,f k=true
 | [],o=>by simp
 |x::r,o=>by
  rw[List.foldl_cons,Ie]
  simp only[Bool.and_eq_true,List.mem_cons,forall_eq_or_imp,and_assoc]
def Kh (r:Int×Int×Bool):Int:=if r.2.2=false then 5 else if r.1>16 then 4 else if r.2.1>128 then 2 else 0
mutual
def bulk:Tree->Nat
 |.sl es=>bulks es+1
 |.agg cs=>bulks cs+1
 |.dr cs=>bulks cs+1
 |.iface _ v=>bulk v+1
 |_=>1
def bulks:List Tree->Nat
 | []=>0
 |x::r=>bulk x+bulks r
end
theorem Cc (x:Tree):1<=bulk x:=by cases x<;>simp[bulk]
end Go.Abs.Ty
