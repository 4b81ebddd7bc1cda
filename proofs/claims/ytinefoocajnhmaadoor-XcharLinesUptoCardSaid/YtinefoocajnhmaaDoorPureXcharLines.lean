/- XcharLines, without Go and memory. -/
import Derived.Test.YtinefoocajnhmaaDoorPrintlaw01lines
import Derived.Test.YtinefoocajnhmaaDoorPrintf26
import Derived.Test.YtinefoocajnhmaaDoorFactsX
namespace Go.Proofs.YtinefoocajnhmaaDoor.Pure
open Go.RowKit Go.Proofs.YtinefoocajnhmaaDoorW.PrintWords Go.Proofs.YtinefoocajnhmaaDoor.Plain Go.Proofs.YtinefoocajnhmaaDoor.Print Go.Proofs.YtinefoocajnhmaaDoor.FactsV Go.Proofs.YtinefoocajnhmaaDoor.FactsX Go.Proofs.YtinefoocajnhmaaDoor.Enc

theorem XcharLines (l0 : List Int) (h0 : l0.length ≤ 1048576) (hw : ∀ x ∈ l0, (Lit.int .u8 x).wf = true) : stencillaw01_XcharLines.f l0 = some true := by
  obtain ⟨b, rfl⟩ := of_wf l0 hw
  unfold stencillaw01_XcharLines.f
  rw [decode_x]
  rcases decD_kind b with ⟨c, a, e, hc⟩ | ⟨rs, e, ok, h13, hl⟩
  · rw [e, Option.bind_some]
    simp only
    rw [if_neg hc, if_pos trivial]
  · rw [e, Option.bind_some]
    simp only [if_true]
    rw [if_pos ⟨by rw [mk_size]; omega, h13⟩, bytesOf_mk, decode_x]
    by_cases hz : 32768 < (enc rs).length
    · have hd : decD (enc rs) = some (⟨#[]⟩, 6, 0) := by unfold decD; rw [if_pos hz]
      rw [hd, Option.bind_some, if_pos (.inl (by rw [mk_size]; exact hz))]
    · rw [dec_text ok (by omega) h13, Option.bind_some, if_pos]
      refine .inr ⟨rfl, ?_⟩
      unfold againB bomB
      rw [mk_list]
      by_cases hb : (enc rs).take 3 = [239, 187, 191]
      · simp only [hb, decide_true, if_true]
        apply ba_ext
        rw [tail_list, mk_list, mk_list]
      · simp only [hb, decide_false, Bool.false_eq_true, if_false]
end Go.Proofs.YtinefoocajnhmaaDoor.Pure
