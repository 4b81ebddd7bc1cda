-- Laid by xprint.py (ours), out of the seat's translation; Lean checks it.
import Derived.Test.YtinefoocajnhmaaDoorPrint0
import Derived.Test.YtinefoocajnhmaaDoorPrintlaw01live
import Derived.Test.YtinefoocajnhmaaDoorPrintf29
import Derived.Test.YtinefoocajnhmaaDoorPrintxcharencode
import Derived.Test.YtinefoocajnhmaaDoorPrintrefencode
import Derived.Lib.Hide
namespace Go.Proofs.YtinefoocajnhmaaDoor.Print
open Go.RowKit Go.Proofs.YtinefoocajnhmaaDoorW.PrintWords Go.Proofs.YtinefoocajnhmaaDoorW.PrintLast Go.Proofs.YtinefoocajnhmaaDoorW.PrintMore
attribute [local go_sem] max2_int min2_int max_two min_two max_three min_three max_four min_four   -- for this text's walks alone
open Go.Proofs.YtinefoocajnhmaaDoor.Plain
set_option linter.unusedVariables false
set_option linter.unusedSimpArgs false

-- GIVEN stencil/stencillaw01.XcharEncodes making
def stencillaw01_XcharEncodes.f (a0 : ByteArray) (a1 : Bool) : Option Bool := (xchar_Encode.f a0 a1).bind fun _ => some true
set_option maxRecDepth 100000 in
set_option maxHeartbeats 4000000 in
theorem stencillaw01_XcharEncodes.calls (a0 : ByteArray) (a1 : Bool) (r : Bool) (w : World) (HLD : Laid w) (h : stencillaw01_XcharEncodes.f a0 a1 = some r) :
    Calls Tryd.prog 14 #[.string a0, .bool a1] w fun e w' => e = .returned (.bool r) ∧ Below w.heap.size w w' := by
  unfold stencillaw01_XcharEncodes.f at h
  obtain ⟨⟨l, n⟩, hE, h2⟩ := Option.bind_eq_some_iff.1 h
  obtain rfl := Option.some.inj h2
  have HE := Lib.hid hE
  have HE2 : Hid (stencilref01_Encode.f a0 a1 = some (l, n)) := Lib.hid hE
  clear h h2 hE
  go_enter Tryd.func14, Tryd.ntmps14
  go_wp2_with (first
    | (go_at_call 46; (with_reducible refine (xchar_Encode.calls a0 a1 l n _ HLD HE.out).mono ?_); rintro e w1 ⟨A1, c1, rfl, hC1, hl1, hb1⟩; have HC1 := Lib.hid hC1; have HL1 := Lib.hid hl1; have HB1 := Lib.hid hb1; clear hC1 hl1 hb1)
    | (go_at_call 47; (with_reducible refine (stencilref01_Encode.calls a0 a1 l n _ (HLD.below HB1.out) HE2.out).mono ?_); rintro e w2 ⟨A2, c2, rfl, hC2, hl2, hb2⟩; have HC2 := Lib.hid hC2; have HL2 := Lib.hid hl2; have HB2 := Lib.hid hb2; clear hC2 hl2 hb2)
    | (go_at_call 28; (with_reducible refine (stencillaw01_live.calls true _ ((HLD.below HB1.out).below HB2.out) rfl).mono ?_); rintro e w3 ⟨rfl, hb3⟩; have HB3 := Lib.hid hb3; clear hb3)
    | (go_at_call 29; (with_reducible refine (stencillaw01_sameBytes.calls A1 c1 l A2 c2 l true _ (Kd.C_below (Kd.C_below HC1.out HB2.out) HB3.out) HL1.out (Kd.C_below HC2.out HB3.out) HL2.out (((HLD.below HB1.out).below HB2.out).below HB3.out) (by unfold stencillaw01_sameBytes.f; rw [beq_self_eq_true])).mono ?_); rintro e w4 ⟨rfl, ⟨nq, rfl⟩⟩))
  go_ret
  exact ⟨rfl, pw_below_drewN (HB1.out.then_ (HB2.out.then_ HB3.out)) nq⟩

end Go.Proofs.YtinefoocajnhmaaDoor.Print
