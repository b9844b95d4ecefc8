/- What the law's own texts are read as, what is written. -/
import Derived.Test.YtnfnihgmankidaaGreatDoorAD
set_option linter.unusedVariables false
set_option linter.unusedSimpArgs false
namespace Go.Proofs.YtnfnihgmankidaaGreatDoor.w.e
open Go Go.Abs Go.RowKit Go.Lib
set_option maxRecDepth 100000
set_option maxHeartbeats 2000000
noncomputable section
theorem acR (m:Int):aq (cf m) 25 [.t (.str txA)] [] (.ret (.t (.cv [tA,.int .i64 0,.int .i64 0])) [] []):=kX (by kernel_rfl)
theorem acS (m:Int):aq (cf m) 25 [.t (.str txB)] [] (.ret (.t (.cv [tB,.int .i64 0,.int .i64 0])) [] []):=kX (by kernel_rfl)
theorem acT (m:Int):aq (cf m) 25 [.t (.str txC)] [] (.ret (.t (.cv [tC,.int .i64 0,.int .i64 0])) [] []):=kX (by kernel_rfl)
theorem afU (m:Int):R1 (cf m) 28 tA (.int .i64 0):=kX (by kernel_rfl)
theorem afV (m:Int):R1 (cf m) 28 tB (.int .i64 0):=kX (by kernel_rfl)
theorem afW (m:Int):R1 (cf m) 28 tC (.int .i64 0):=kX (by kernel_rfl)
theorem air (m:Int):R1 (cf m) 34 uA (.int .i64 0):=kX (by kernel_rfl)
theorem ais (m:Int):R1 (cf m) 34 uB (.int .i64 0):=kX (by kernel_rfl)
theorem ait (m:Int):R1 (cf m) 34 uC (.int .i64 0):=kX (by kernel_rfl)
theorem acU (m:Int):aq (cf m) 26 [.t tA] [] (.ret (.t (.cv [.str txA,.int .i64 0])) [] []):=kX (by kernel_rfl)
end
end Go.Proofs.YtnfnihgmankidaaGreatDoor.w.e
