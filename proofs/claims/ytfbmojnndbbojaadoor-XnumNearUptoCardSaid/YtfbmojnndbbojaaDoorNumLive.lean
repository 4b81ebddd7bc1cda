import Derived.Test.YtfbmojnndbbojaaDoorPrintf19
/- What must be whatever is asked, of layer 2: reckoned. -/
namespace Go.Proofs.YtfbmojnndbbojaaDoor.NumLive
open Go.RowKit Go.Proofs.YtfbmojnndbbojaaDoorW.PrintWords Go.Proofs.YtfbmojnndbbojaaDoor.Plain Go.Proofs.YtfbmojnndbbojaaDoor.Print
abbrev liveK : Nat := 64
set_option maxRecDepth 100000 in
theorem live_f : stencillaw02_live.f liveK = some true := by kernel_rfl
set_option maxRecDepth 100000 in
theorem live_65 : stencillaw02_live.f 65 = some true := by kernel_rfl
set_option maxRecDepth 100000 in
theorem live_66 : stencillaw02_live.f 66 = some true := by kernel_rfl
end Go.Proofs.YtfbmojnndbbojaaDoor.NumLive
