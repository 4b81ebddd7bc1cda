/- XcharJoins, without Go and memory. -/
import Derived.Test.YtinefoocajnhmaaDoorPrintf29
import Derived.Test.YtinefoocajnhmaaDoorPrintlaw01live
import Derived.Test.YtinefoocajnhmaaDoorFactsB
namespace Go.Proofs.YtinefoocajnhmaaDoor.Pure
open Go.RowKit Go.Proofs.YtinefoocajnhmaaDoorW.PrintWords Go.Proofs.YtinefoocajnhmaaDoor.Plain Go.Proofs.YtinefoocajnhmaaDoor.Print Go.Proofs.YtinefoocajnhmaaDoor.Facts

theorem joins_data (a b : ByteArray) : ((a ++ (⟨#[58]⟩ : ByteArray)) ++ b).data.toList = a.data.toList ++ 58 :: b.data.toList := by
  rw [ByteArray.data_append, ByteArray.data_append]; simp
theorem XcharJoins (a0 a1 : ByteArray) (h0 : a0.size ≤ 1048576) (h1 : a1.size ≤ 1048576) : ∃ k, stencillaw01_XcharJoins.f k a0 a1 = some true := by
  refine ⟨3, ?_⟩
  have hsz : ((a0 ++ (⟨#[58]⟩ : ByteArray)) ++ a1).size = a0.size + 1 + a1.size := by
    rw [ByteArray.size_append, ByteArray.size_append]; rfl
  unfold stencillaw01_XcharJoins.f
  rw [if_pos (by omega), if_pos (by omega), split_f _ (by omega) 3 (by omega), isName_f a0 (by omega), isName_f a1 (by omega), joins_data, splitL_join]
  simp only [Option.bind_some]
  cases n0 : isNameL a0.data.toList <;> cases n1 : isNameL a1.data.toList <;> simp [stencillaw01_XcharJoins.j0, stencillaw01_live.f, toList_eq]
end Go.Proofs.YtinefoocajnhmaaDoor.Pure
