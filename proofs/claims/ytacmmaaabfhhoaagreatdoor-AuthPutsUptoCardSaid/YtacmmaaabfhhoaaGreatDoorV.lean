/- strings.Split by a separator that is not empty: pieces, as data. -/
import Derived.Test.YtacmmaaabfhhoaaGreatDoorN
import Derived.Test.YtacmmaaabfhhoaaGreatDoorShelf
import Derived.Lib.SplitLaws
set_option linter.unusedVariables false
set_option linter.unusedSimpArgs false
namespace Go.Proofs.YtacmmaaabfhhoaaGreatDoor.w
open Go Go.Abs
theorem Oq {m:Int}{G:Gh}{u:World}(hw:WF G u)(hg:iA (cf m) G):u.cell? ⟨3,0,none⟩=some (.int .i64 m):=by
 obtain⟨vals,h1,h2⟩:=hg 3 [.int .i64 m] rfl;have h3:=h1 0 _ rfl;have h4:=h2 0 _ rfl;generalize vals 0=v at h3 h4;cases h4;obtain⟨vs,ty,fr,h5,h6⟩:=hw.F _ _ _ h3;unfold World.cell?;simp only[h5];simpa using h6
theorem enters {F:FuncId}{fn:Func}{c:Code}(hfn:Tryz.prog.funcs[F]?=some fn)(hname:(fn.name== "runtime.NumGoroutine")=false)(hbody:fn.body=some c)(args:Array Value)(u:World):
 (callFunc F args).run Tryz.prog u=.ok (.enter F args) u:=by
 have h1:fn.name≠ "runtime.NumGoroutine" :=by simpa using hname
 simp[callFunc,hfn,h1,hbody,mark]
theorem CO:∀(l:List (List UInt8)),chunk false 1 l.length (l.map .str)=some (l.map .str)
 | []=>rfl
 |a::r=>by simp[chunk,CO r,Tree.leaf]
theorem R4 {m:Int}(s sep:List UInt8)(hs:s.length<4294967281)(h1:1<=sep.length):
 ∃l:List (List UInt8),l.length<=s.length+1/\ai (cf m) 143 [.t (.str s),.t (.str sep)] [] (.ret (.t (.sl (l.map .str))) [] []):=by
 have z1:(⟨s.toArray⟩:ByteArray).size=s.length:=by show s.toArray.size=_;simp
 have z2:(⟨sep.toArray⟩:ByteArray).size=sep.length:=by show sep.toArray.size=_;simp
 have h1:1<=(⟨sep.toArray⟩:ByteArray).size:=by rw[z2];exact h1
 refine⟨(Lib.splitB ⟨sep.toArray⟩ 0 (Lib.countB ⟨s.toArray⟩ ⟨sep.toArray⟩) ⟨s.toArray⟩).map (·.data.toList), ?_, ?_⟩
 ·rw[List.length_map,Lib.splitB_all _ h1 0 _ _ rfl];have:=Lib.countB_le ⟨sep.toArray⟩ h1 _ ⟨s.toArray⟩ (Nat.le_refl _);rw[z1] at this;omega
 ·intro G u vs hw hg had hH hv;obtain⟨a,b,rfl,ha,hb⟩:=hv.two;obtain rfl:=ha.str;obtain rfl:=hb.str;have hc:=Tryz.strings_Split ⟨s.toArray⟩ ⟨sep.toArray⟩ m u (by rw[z1];exact hs) (Oq hw hg) h1;refine .inl ⟨enters Tryz.func143 (by kernel_rfl) rfl _ u,Calls.mono hc ?_⟩;rintro e u' ⟨rfl,rfl⟩;generalize hl:Lib.splitB ⟨sep.toArray⟩ 0 (Lib.countB ⟨s.toArray⟩ ⟨sep.toArray⟩) ⟨s.toArray⟩=l;have hlen:l.length=Lib.countB ⟨s.toArray⟩ ⟨sep.toArray⟩+1:=by rw[← hl];exact Lib.splitB_all _ h1 0 _ _ rfl
  have HM:AQ G.F ((l.map (·.data.toList)).map .str) (l.map Value.string):=by
   refine⟨by simp,λj c v hc hv=> ?_⟩;simp only[List.map_map,List.getElem?_map,Option.map_eq_some_iff,Function.comp] at hc hv;obtain⟨x,hx,rfl⟩:=hc;obtain⟨y,hy,rfl⟩:=hv;rw[hx] at hy;cases hy;exact .str x.data.toList
  have hr:=JX hw HM (CO (l.map (·.data.toList))) (l.length) (by simp) (l.map Value.string) (λj u h=>h);have hst:=row_step hw (l.map Value.string) 9 (λ_=>True) (λk=>k.eR=true) (0,0);refine⟨_,G.row u.heap.size (l.map Value.string),rfl,hst,rfl,λi o h=>by simp at h,λk o h=>by simp at h,.t _ _ ?_⟩;rw[← hlen];simpa using hr
end Go.Proofs.YtacmmaaabfhhoaaGreatDoor.w
