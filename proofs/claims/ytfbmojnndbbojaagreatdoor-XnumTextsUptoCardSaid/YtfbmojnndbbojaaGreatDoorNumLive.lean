import Derived.Test.YtfbmojnndbbojaaGreatDoorPrintf23
/- What must be whatever is asked, of layer 2: reckoned. -/
namespace Go.Proofs.YtfbmojnndbbojaaGreatDoor.NumLive
open Go.RowKit Go.Proofs.YtfbmojnndbbojaaGreatDoorW.PrintWords Go.Proofs.YtfbmojnndbbojaaGreatDoor.Plain Go.Proofs.YtfbmojnndbbojaaGreatDoor.Print
abbrev liveK : Nat := 64
set_option maxRecDepth 100000 in
theorem live_f : stencillaw02_live.f liveK = some true := by kernel_rfl
set_option maxRecDepth 100000 in
theorem live_65 : stencillaw02_live.f 65 = some true := by kernel_rfl
set_option maxRecDepth 100000 in
theorem live_66 : stencillaw02_live.f 66 = some true := by kernel_rfl
end Go.Proofs.YtfbmojnndbbojaaGreatDoor.NumLive
