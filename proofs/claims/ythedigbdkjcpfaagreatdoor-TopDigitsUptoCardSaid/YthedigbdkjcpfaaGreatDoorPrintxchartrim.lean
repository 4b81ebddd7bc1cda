-- Laid by xprint.py (ours), out of the seat's translation; Lean checks it.
import Derived.Test.YthedigbdkjcpfaaGreatDoorPrint0
import Derived.Test.YthedigbdkjcpfaaGreatDoorPrintf33
import Derived.Test.YthedigbdkjcpfaaGreatDoorShelf
import Derived.LoopTactic
namespace Go.Proofs.YthedigbdkjcpfaaGreatDoor.Print
open Go.RowKit Go.Proofs.YthedigbdkjcpfaaGreatDoorW.PrintWords Go.Proofs.YthedigbdkjcpfaaGreatDoorW.PrintLast Go.Proofs.YthedigbdkjcpfaaGreatDoorW.PrintMore
attribute [local go_sem] max2_int min2_int max_two min_two max_three min_three max_four min_four   -- for this text's walks alone
open Go.Proofs.YthedigbdkjcpfaaGreatDoor.Plain
set_option linter.unusedVariables false
set_option linter.unusedSimpArgs false

-- GIVEN stencil/xchar.Trim making
/-- a blank, of a rune's number -/
def isBlankN (x : Nat) : Bool := decide (x = 32) || decide (x = 9) || decide (x = 10) || decide (x = 13)
theorem isBlank_f (x : Nat) : xchar_IsBlank.f (x : Int) = some (isBlankN x) := by
  unfold xchar_IsBlank.f isBlankN
  repeat' split
  all_goals (rw [Option.some.injEq, Bool.eq_iff_iff]; simp; omega)
set_option maxRecDepth 100000 in
set_option maxHeartbeats 400000 in
theorem blank_pred (w : World) (HL : Laid w) : PredAtRunes Tryz.prog 32 #[] isBlankN w := by
  intro W x hx hb
  have HLW := HL.below hb
  have hf := isBlank_f x
  have HF := Lib.hid hf
  clear hf
  show Calls Tryz.prog 32 #[.int .i32 (x : Int)] W fun e w' => e = .returned (.bool (isBlankN x)) ∧ ∃ q, w' = W.drewN q
  go_enter Tryz.func32, Tryz.ntmps32
  go_wp2_with (go_at_call 33; refine (xchar_IsBlank.calls _ _ _ HLW HF.out).mono ?_; rintro e w' ⟨rfl, ⟨q, rfl⟩⟩)
  go_ret
  exact ⟨rfl, q, rfl⟩
def trimList (s : ByteArray) : List UInt8 := Lib.join ((Lib.goFieldsP isBlankN s).map (·.data.toList)) [32]
def xchar_Trim.f (a0 : ByteArray) : Option ByteArray :=
  if a0.size ≤ 4294967296 ∧ (Lib.goFieldsP isBlankN a0).length ≤ 140737488355328 ∧ (trimList a0).length ≤ 140737488355328 then some ⟨(trimList a0).toArray⟩ else none
set_option maxRecDepth 100000 in
set_option maxHeartbeats 400000 in
theorem xchar_Trim.calls (a0 : ByteArray) (r : ByteArray) (w : World) (HL : Laid w) (h : xchar_Trim.f a0 = some r) :
    Calls Tryz.prog 11 #[.string a0] w fun e w' => e = .returned (.string r) ∧ Below w.heap.size w w' := by
  unfold xchar_Trim.f at h
  split at h
  · rename_i hs
    obtain ⟨h1, h2, h3⟩ := hs
    have HR := Lib.hid (Option.some.inj h)
    clear h
    have cF := Tryz.strings_FieldsFunc_runes 32 #[] (enters_of Tryz.func32 (by kernel_rfl) rfl) isBlankN a0 w h1 (blank_pred w HL)
    have HT : Hid (trimList a0 = Lib.join ((Lib.goFieldsP isBlankN a0).map (·.data.toList)) [32]) := rfl
    obtain ⟨T, hT⟩ : ∃ T, trimList a0 = T := ⟨_, rfl⟩
    rw [hT] at HR HT h3
    generalize Lib.goFieldsP isBlankN a0 = xs at cF h2 HT
    have HF := Lib.hid cF
    clear cF hT
    go_enter Tryz.func11, Tryz.ntmps11
    go_wp2_with (first
      | (go_at_call 31; refine (HF.out).mono ?_; rintro e w1 ⟨A, rfl, hA, ho, hb⟩)
      | fail)
    have hjoin : Calls Tryz.prog 34 #[.slice (some ⟨A, 0, none⟩) xs.length xs.length, .string ⟨#[32]⟩] w1 fun e w' => e = .returned (.string ⟨T.toArray⟩) ∧ Below w1.heap.size w1 w' := by
      by_cases h0 : xs = []
      · subst h0
        refine (Tryz.strings_Join_none _ _ _ w1).mono ?_
        rintro e w' ⟨rfl, rfl⟩
        exact ⟨by rw [HT.out]; rfl, Below.refl _ _⟩
      · have hcell : ∀ j x, xs[j]? = some x → w1.cell? ⟨A, 0 + j, none⟩ = some (.string x) := by
          intro j x hx
          have := ho.cells (g := A) rfl j (.string x) (by rw [List.getElem?_map, hx]; rfl)
          rw [add_plain] at this
          rw [Nat.zero_add]
          exact this
        have hlt : A < w1.heap.size := World.block_lt_of_cell? w1 _ (hcell 0 _ (List.getElem?_eq_getElem (List.length_pos_iff.2 h0)))
        have := Tryz.strings_Join A 0 xs.length xs ⟨#[32]⟩ w1 hcell hlt h2 (Nat.le_refl _) (by have := HT.out; rw [show (⟨#[32]⟩ : ByteArray).data.toList = [32] from rfl, ← this]; exact h3)
        rw [show (⟨#[32]⟩ : ByteArray).data.toList = [32] from rfl, ← HT.out] at this
        exact this
    have HJ := Lib.hid hjoin
    clear hjoin ho
    go_wp2_with (go_at_call 34; refine (HJ.out).mono ?_; rintro e w2 ⟨rfl, hb2⟩)
    go_ret
    exact ⟨congrArg (fun b => Ending.returned (.string b)) HR.out, hb.then_ hb2⟩
  · cases h

end Go.Proofs.YthedigbdkjcpfaaGreatDoor.Print
