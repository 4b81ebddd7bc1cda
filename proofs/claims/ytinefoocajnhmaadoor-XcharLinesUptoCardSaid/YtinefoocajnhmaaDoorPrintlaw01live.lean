-- Laid by xprint.py (ours), out of the seat's translation; Lean checks it.
import Derived.Test.YtinefoocajnhmaaDoorPrint0
import Derived.Test.YtinefoocajnhmaaDoorPrintf26
import Derived.Test.YtinefoocajnhmaaDoorPrintf38
import Derived.Test.YtinefoocajnhmaaDoorPrintxchartrim
import Derived.Lib.SlBytesConst
namespace Go.Proofs.YtinefoocajnhmaaDoor.Print
open Go.RowKit Go.Proofs.YtinefoocajnhmaaDoorW.PrintWords Go.Proofs.YtinefoocajnhmaaDoorW.PrintLast Go.Proofs.YtinefoocajnhmaaDoorW.PrintMore
attribute [local go_sem] max2_int min2_int max_two min_two max_three min_three max_four min_four   -- for this text's walks alone
open Go.Proofs.YtinefoocajnhmaaDoor.Plain
set_option linter.unusedVariables false
set_option linter.unusedSimpArgs false

-- GIVEN stencil/stencillaw01.live making
theorem live1_decode : xchar_Decode.f [97, 13, 10, 98, 13] = some (⟨#[97, 10, 98, 10]⟩, 0, 0) := by kernel_rfl
theorem live1_split : xchar_Split.f 9 ⟨#[97, 58, 98]⟩ = some (⟨#[97]⟩, ⟨#[98]⟩, true) := by kernel_rfl
theorem live1_trim : xchar_Trim.f ⟨#[32, 32, 97, 32, 32, 98]⟩ = some ⟨#[97, 32, 98]⟩ := by kernel_rfl
theorem bytes_lit (W : World) (l : List Int) (cs : Array Value) (h : cs.toList = l.map (Value.int .u8)) (hl : l.length ≤ 1000) (fz : Nat × Nat) :
    Kd.C (Kd.int .u8) (W.alloc (.cells cs 5 fz)) (some ⟨W.heap.size, 0, none⟩) l.length l := by
  refine Kd.C_of_reads (d := (0 : Int)) (h1 := fun _ => rfl) ⟨rfl, by omega, fun _ => ⟨_, rfl, fun j hj => ?_⟩⟩
  rw [add_plain, World.cell?_alloc_mark]
  have : cs[j]? = (l.map (Value.int .u8))[j]? := by rw [← h]; simp
  rw [this, List.getElem?_map, List.getElem?_eq_getElem hj, List.getD_eq_getElem?_getD, List.getElem?_eq_getElem hj]
  rfl
def stencillaw01_live.f : Option Bool := some true
set_option maxRecDepth 100000 in
set_option maxHeartbeats 1000000 in
theorem stencillaw01_live.calls (r : Bool) (w : World) (HL : Laid w) (h : stencillaw01_live.f = some r) :
    Calls Tryd.prog 28 #[] w fun e w' => e = .returned (.bool r) ∧ Below w.heap.size w w' := by
  obtain rfl := Option.some.inj h
  have kc := fun (w : World) (C : Array Value) (n c : Nat) => Lib.run_convert_bytes_const (P := Tryd.prog) w 37 5 C n c Tryd.underlying37 Tryd.underlying5
  have hb0 : Below w.heap.size w (w.alloc (.cells #[.int .u8 97, .int .u8 13, .int .u8 10, .int .u8 98, .int .u8 13] 5 (5, 6))) := (Below.refl _ w).alloc (Nat.le_refl _) _
  have HR := Lib.hid (bytes_lit w [97, 13, 10, 98, 13] #[.int .u8 97, .int .u8 13, .int .u8 10, .int .u8 98, .int .u8 13] rfl (by decide) (5, 6))
  have HL0 := HL.below hb0
  go_enter Tryd.func28, Tryd.ntmps28
  go_wp2_with (first
    | (go_at_call 26; refine (xchar_Decode.calls _ _ [97, 13, 10, 98, 13] _ _ _ _ HR.out (by decide) HL0 live1_decode).mono ?_; rintro e w1 ⟨rfl, hb1⟩; have HL1 := HL0.below hb1)
    | (go_at_call 38; refine (xchar_Split.calls 9 _ _ _ _ _ HL1 live1_split).mono ?_; rintro e w2 ⟨rfl, hb2⟩; have HL2 := HL1.below hb2)
    | (go_at_call 40; refine (xchar_Trim.calls _ _ _ HL2 live1_trim).mono ?_; rintro e w3 ⟨rfl, hb3⟩))
  go_ret
  exact ⟨rfl, hb0.then_ (hb1.then_ (hb2.then_ hb3))⟩

end Go.Proofs.YtinefoocajnhmaaDoor.Print
