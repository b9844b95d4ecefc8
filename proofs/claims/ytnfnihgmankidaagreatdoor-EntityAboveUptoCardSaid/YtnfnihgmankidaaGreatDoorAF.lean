/- What the law's own texts are read as, what is written. -/
import Derived.Test.YtnfnihgmankidaaGreatDoorAE
set_option linter.unusedVariables false
set_option linter.unusedSimpArgs false
namespace Go.Proofs.YtnfnihgmankidaaGreatDoor.w.e
open Go Go.Abs Go.RowKit Go.Lib
set_option maxRecDepth 100000
set_option maxHeartbeats 2000000
noncomputable section
theorem acG (m:Int):aq (cf m) 25 [.t (.str txA)] [] (.ret (.t (.cT [tA,.int .i64 0,.int .i64 0])) [] []):=kH (by kernel_rfl)
theorem acH (m:Int):aq (cf m) 25 [.t (.str txB)] [] (.ret (.t (.cT [tB,.int .i64 0,.int .i64 0])) [] []):=kH (by kernel_rfl)
theorem acI (m:Int):aq (cf m) 25 [.t (.str txC)] [] (.ret (.t (.cT [tC,.int .i64 0,.int .i64 0])) [] []):=kH (by kernel_rfl)
theorem afZ (m:Int):R1 (cf m) 28 tA (.int .i64 0):=kH (by kernel_rfl)
theorem af0 (m:Int):R1 (cf m) 28 tB (.int .i64 0):=kH (by kernel_rfl)
theorem af1 (m:Int):R1 (cf m) 28 tC (.int .i64 0):=kH (by kernel_rfl)
theorem ajr (m:Int):R1 (cf m) 34 uA (.int .i64 0):=kH (by kernel_rfl)
theorem ajs (m:Int):R1 (cf m) 34 uB (.int .i64 0):=kH (by kernel_rfl)
theorem ajt (m:Int):R1 (cf m) 34 uC (.int .i64 0):=kH (by kernel_rfl)
theorem acJ (m:Int):aq (cf m) 26 [.t tA] [] (.ret (.t (.cT [.str txA,.int .i64 0])) [] []):=kH (by kernel_rfl)
end
end Go.Proofs.YtnfnihgmankidaaGreatDoor.w.e
