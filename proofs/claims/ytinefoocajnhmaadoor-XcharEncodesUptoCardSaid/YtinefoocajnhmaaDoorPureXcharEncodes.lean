/- XcharEncodes, without Go and memory. -/
import Derived.Test.YtinefoocajnhmaaDoorPrintlaw01encodes
import Derived.Test.YtinefoocajnhmaaDoorPrintxcharencode
import Derived.Test.YtinefoocajnhmaaDoorPlainB
namespace Go.Proofs.YtinefoocajnhmaaDoor.Pure
open Go.RowKit Go.Proofs.YtinefoocajnhmaaDoorW.PrintWords Go.Proofs.YtinefoocajnhmaaDoor.Plain Go.Proofs.YtinefoocajnhmaaDoor.Print

theorem XcharEncodes (a0 : ByteArray) (a1 : Bool) (h0 : a0.size ≤ 1048576) : stencillaw01_XcharEncodes.f a0 a1 = some true := by
  have h : ∃ x, xchar_Encode.f a0 a1 = some x := by
    unfold xchar_Encode.f
    rw [if_pos (by omega)]
    repeat' split
    all_goals exact ⟨_, rfl⟩
  obtain ⟨x, hx⟩ := h
  unfold stencillaw01_XcharEncodes.f
  rw [hx, Option.bind_some]
end Go.Proofs.YtinefoocajnhmaaDoor.Pure
