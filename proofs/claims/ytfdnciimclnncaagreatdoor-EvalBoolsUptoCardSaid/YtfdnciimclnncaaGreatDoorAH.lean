/- What the law's own texts are parsed to. -/
import Derived.Test.YtfdnciimclnncaaGreatDoorN
import Derived.Test.YtfdnciimclnncaaGreatDoorX
set_option linter.unusedVariables false
set_option linter.unusedSimpArgs false
namespace Go.Proofs.YtfdnciimclnncaaGreatDoor.w.e
open Go Go.Abs Go.RowKit
set_option maxRecDepth 100000
set_option maxHeartbeats 2000000
noncomputable section
theorem agP (m:Int):Ge (live.cfg m) (live.ext m):=zi (by
 intro g s h;unfold live.ext at h;split at h<;>first
  |(obtain rfl:=Option.some.inj h;first|exact live.ZC m|exact live.alH m|exact live.P9 m|exact live.CW m|exact live.ahd m|exact live.Qx m)
  |cases h)
theorem ux {m:Int}{g:FuncId}{args:List TV}{bu:List aO}{r:br}(h:A3 (live.cfg m) (live.ext m) 300 g args bu=some r):ai (cf m) g args bu r:=by
 rw[CU] at h;exactλG w vs hw hg ha hh hv=>CJ (live.ah m) (agP m) 300 g args bu _ h G w vs hw hg ha hh hv
theorem akW {C:ey}{g:FuncId}{tab:List (List UInt8×TV)}(h0:∀p∈tab,ai C g [.t (.str p.1)] [] (.ret p.2 [] [])):q3 C g (vF tab):=by
 intro ev aJ args bu r h G w vs hw hg had hH hv;unfold vF at h;split at h
 ·rename_i s;split at h
  ·rename_i v hf;simp at h;subst h;exact h0 _ (BE hf) G w vs hw hg had hH hv
  ·simp at h
 ·simp at h
def ts0:List UInt8:=[57,50,50,51,51,55,50,48,51,54,56,53,52,55,55,53,56,48,55,32,43,32,49]
def ex0:Tree:=.agg [.int .u8 24,.int .i64 0,.str [],.str [],.sl [],.sl [.agg [.int .u8 2,.int .i64 9223372036854775807,.str [],.str [],.sl [],.sl []],.agg [.int .u8 2,.int .i64 1,.str [],.str [],.sl [],.sl []]]]
theorem akX (m:Int):ai (cf m) 34 [.t (.str ts0)] [] (.ret (.t (.cF [ex0,.int .i64 0,.int .i64 0])) [] []):=ux (by kernel_rfl)
def ts1:List UInt8:=[102,97,108,115,101,32,38,38,32,40,49,32,43,32,116,114,117,101,41]
def ex1:Tree:=.agg [.int .u8 15,.int .i64 0,.str [],.str [],.sl [],.sl [.agg [.int .u8 1,.int .i64 0,.str [],.str [],.sl [],.sl []],.agg [.int .u8 24,.int .i64 0,.str [],.str [],.sl [],.sl [.agg [.int .u8 2,.int .i64 1,.str [],.str [],.sl [],.sl []],.agg [.int .u8 1,.int .i64 1,.str [],.str [],.sl [],.sl []]]]]]
theorem akY (m:Int):ai (cf m) 34 [.t (.str ts1)] [] (.ret (.t (.cF [ex1,.int .i64 0,.int .i64 0])) [] []):=ux (by kernel_rfl)
def ts2:List UInt8:=[112,114,105,110,99,105,112,97,108,32,105,110,32,91,84,58,58,34,121,34,44,32,84,58,58,34,120,34,93]
def ex2:Tree:=.agg [.int .u8 23,.int .i64 0,.str [],.str [],.sl [],.sl [.agg [.int .u8 5,.int .i64 0,.str [112,114,105,110,99,105,112,97,108],.str [],.sl [],.sl []],.agg [.int .u8 6,.int .i64 0,.str [],.str [],.sl [],.sl [.agg [.int .u8 4,.int .i64 0,.str [121],.str [84],.sl [],.sl []],.agg [.int .u8 4,.int .i64 0,.str [120],.str [84],.sl [],.sl []]]]]]
theorem akZ (m:Int):ai (cf m) 34 [.t (.str ts2)] [] (.ret (.t (.cF [ex2,.int .i64 0,.int .i64 0])) [] []):=ux (by kernel_rfl)
def ts3:List UInt8:=[112,114,105,110,99,105,112,97,108,46,97]
def ex3:Tree:=.agg [.int .u8 8,.int .i64 0,.str [97],.str [],.sl [],.sl [.agg [.int .u8 5,.int .i64 0,.str [112,114,105,110,99,105,112,97,108],.str [],.sl [],.sl []]]]
theorem ak0 (m:Int):ai (cf m) 34 [.t (.str ts3)] [] (.ret (.t (.cF [ex3,.int .i64 0,.int .i64 0])) [] []):=ux (by kernel_rfl)
end
end Go.Proofs.YtfdnciimclnncaaGreatDoor.w.e
