/- XcharDecodes, without Go and memory. -/
import Derived.Test.YtinefoocajnhmaaDoorPrintf29
import Derived.Test.YtinefoocajnhmaaDoorPrintlaw01live
import Derived.Test.YtinefoocajnhmaaDoorPrintf26
import Derived.Test.YtinefoocajnhmaaDoorPrintf27
import Derived.Test.YtinefoocajnhmaaDoorFactsW
namespace Go.Proofs.YtinefoocajnhmaaDoor.Pure
open Go.RowKit Go.Proofs.YtinefoocajnhmaaDoorW.PrintWords Go.Proofs.YtinefoocajnhmaaDoor.Plain Go.Proofs.YtinefoocajnhmaaDoor.Print Go.Proofs.YtinefoocajnhmaaDoor.FactsW

theorem XcharDecodes (l0 : List Int) (h0 : l0.length ≤ 1048576) (hw : ∀ x ∈ l0, (Lit.int .u8 x).wf = true) : ∃ k, stencillaw01_XcharDecodes.f k l0 = some true := by
  obtain ⟨b, rfl⟩ := of_wf l0 hw
  refine ⟨300000, ?_⟩
  unfold stencillaw01_XcharDecodes.f
  have hd : ∃ x, decD b = some x := by
    unfold decD tailD wres
    repeat' split
    all_goals exact ⟨_, rfl⟩
  obtain ⟨⟨t, c, a⟩, hd⟩ := hd
  simp only [Option.bind_some, List.nil_append, List.length_nil]
  rw [if_pos (by omega), decode_x, decode_ref b 300000 (by omega), hd]
  simp only [Option.bind_some, stencillaw01_live.f, stencillaw01_sameBytes.f, if_true, beq_self_eq_true]
end Go.Proofs.YtinefoocajnhmaaDoor.Pure
