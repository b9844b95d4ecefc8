/- What the law's own texts are parsed to. -/
import Derived.Test.YtfdnciimclnncaaGreatDoorN
import Derived.Test.YtfdnciimclnncaaGreatDoorX
set_option linter.unusedVariables false
set_option linter.unusedSimpArgs false
namespace Go.Proofs.YtfdnciimclnncaaGreatDoor.w.e
open Go Go.Abs Go.RowKit
set_option maxRecDepth 100000
set_option maxHeartbeats 2000000
noncomputable section
theorem ag0 (m:Int):GJ (live.cfg m) (live.ext m):=zF (by
 intro g s h;unfold live.ext at h;split at h<;>first
  |(obtain rfl:=Option.some.inj h;first|exact live.ZM m|exact live.alZ m|exact live.Ql m|exact live.Dh m|exact live.aho m|exact live.QJ m)
  |cases h)
theorem uC {m:Int}{g:FuncId}{args:List TV}{bq:List aP}{r:br}(h:Bn (live.cfg m) (live.ext m) 300 g args bq=some r):ai (cf m) g args bq r:=by
 rw[Df] at h;exactλG w vs hw hg ha hh hv=>C7 (live.ah m) (ag0 m) 300 g args bq _ h G w vs hw hg ha hh hv
theorem alf {C:ew}{g:FuncId}{tab:List (List UInt8×TV)}(h0:∀p∈tab,ai C g [.t (.str p.1)] [] (.ret p.2 [] [])):rE C g (vJ tab):=by
 intro ev aI args bq r h G w vs hw hg had hH hv;unfold vJ at h;split at h
 ·rename_i s;split at h
  ·rename_i v hf;simp at h;subst h;exact h0 _ (BU hf) G w vs hw hg had hH hv
  ·simp at h
 ·simp at h
def ts0:List UInt8:=[57,50,50,51,51,55,50,48,51,54,56,53,52,55,55,53,56,48,55,32,43,32,49]
def ex0:Tree:=.agg [.int .u8 24,.int .i64 0,.str [],.str [],.sl [],.sl [.agg [.int .u8 2,.int .i64 9223372036854775807,.str [],.str [],.sl [],.sl []],.agg [.int .u8 2,.int .i64 1,.str [],.str [],.sl [],.sl []]]]
theorem alg (m:Int):ai (cf m) 34 [.t (.str ts0)] [] (.ret (.t (.cG [ex0,.int .i64 0,.int .i64 0])) [] []):=uC (by kernel_rfl)
def ts1:List UInt8:=[102,97,108,115,101,32,38,38,32,40,49,32,43,32,116,114,117,101,41]
def ex1:Tree:=.agg [.int .u8 15,.int .i64 0,.str [],.str [],.sl [],.sl [.agg [.int .u8 1,.int .i64 0,.str [],.str [],.sl [],.sl []],.agg [.int .u8 24,.int .i64 0,.str [],.str [],.sl [],.sl [.agg [.int .u8 2,.int .i64 1,.str [],.str [],.sl [],.sl []],.agg [.int .u8 1,.int .i64 1,.str [],.str [],.sl [],.sl []]]]]]
theorem alh (m:Int):ai (cf m) 34 [.t (.str ts1)] [] (.ret (.t (.cG [ex1,.int .i64 0,.int .i64 0])) [] []):=uC (by kernel_rfl)
def ts2:List UInt8:=[112,114,105,110,99,105,112,97,108,32,105,110,32,91,84,58,58,34,121,34,44,32,84,58,58,34,120,34,93]
def ex2:Tree:=.agg [.int .u8 23,.int .i64 0,.str [],.str [],.sl [],.sl [.agg [.int .u8 5,.int .i64 0,.str [112,114,105,110,99,105,112,97,108],.str [],.sl [],.sl []],.agg [.int .u8 6,.int .i64 0,.str [],.str [],.sl [],.sl [.agg [.int .u8 4,.int .i64 0,.str [121],.str [84],.sl [],.sl []],.agg [.int .u8 4,.int .i64 0,.str [120],.str [84],.sl [],.sl []]]]]]
theorem ali (m:Int):ai (cf m) 34 [.t (.str ts2)] [] (.ret (.t (.cG [ex2,.int .i64 0,.int .i64 0])) [] []):=uC (by kernel_rfl)
def ts3:List UInt8:=[112,114,105,110,99,105,112,97,108,46,97]
def ex3:Tree:=.agg [.int .u8 8,.int .i64 0,.str [97],.str [],.sl [],.sl [.agg [.int .u8 5,.int .i64 0,.str [112,114,105,110,99,105,112,97,108],.str [],.sl [],.sl []]]]
theorem alj (m:Int):ai (cf m) 34 [.t (.str ts3)] [] (.ret (.t (.cG [ex3,.int .i64 0,.int .i64 0])) [] []):=uC (by kernel_rfl)
end
end Go.Proofs.YtfdnciimclnncaaGreatDoor.w.e
