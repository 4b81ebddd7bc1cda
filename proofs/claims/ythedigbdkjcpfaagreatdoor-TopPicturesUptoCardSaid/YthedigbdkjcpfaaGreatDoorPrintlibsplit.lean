-- Laid by xprint.py (ours), out of the seat's translation; Lean checks it.
import Derived.Test.YthedigbdkjcpfaaGreatDoorPrint0
import Derived.Test.YthedigbdkjcpfaaGreatDoorShelf
namespace Go.Proofs.YthedigbdkjcpfaaGreatDoor.Print
open Go.RowKit Go.Proofs.YthedigbdkjcpfaaGreatDoorW.PrintWords Go.Proofs.YthedigbdkjcpfaaGreatDoorW.PrintLast Go.Proofs.YthedigbdkjcpfaaGreatDoorW.PrintMore
attribute [local go_sem] max2_int min2_int max_two min_two max_three min_three max_four min_four   -- for this text's walks alone
open Go.Proofs.YthedigbdkjcpfaaGreatDoor.Plain
set_option linter.unusedVariables false
set_option linter.unusedSimpArgs false

-- GIVEN strings.Split making
def strings_Split.f (a0 a1 : ByteArray) : Option (List ByteArray) := if a0.size < 4294967281 ∧ 1 ≤ a1.size ∧ (Lib.splitB a1 0 (Lib.countB a0 a1) a0).length = Lib.countB a0 a1 + 1 then some (Lib.splitB a1 0 (Lib.countB a0 a1) a0) else none
theorem strs_row (W : World) (l : List ByteArray) (hl : l.length ≤ 9223372036854775807) :
    Kd.R Kd.string 9 (W.alloc (.cells (l.map Value.string).toArray 9)) W.heap.size (fun _ => True) (.slice (some ⟨W.heap.size, 0, none⟩) l.length l.length) l := by
  have h2 := World.ownsRow_lit (base := W.heap.size) (e := 9) (size := 1) W (l.map Value.string).toArray l.length (Nat.le_refl _) (by simpa [maxLen] using hl) (by simp)
  have h3 : (W.alloc (.cells (l.map Value.string).toArray 9)).ownsRow W.heap.size 9 Kd.string.sz (.slice (some ⟨W.heap.size, 0, none⟩) l.length l.length) l.length (l.map Value.string) := h2
  refine ⟨fun _ _ => trivial, l.map Value.string, h3, ⟨by show (l.map Value.string).length = l.length * 1; simp, fun j p hj => ?_⟩⟩
  obtain ⟨hjl, rfl⟩ := List.getElem?_eq_some_iff.1 hj
  have : (((l.map Value.string).drop (j * Kd.string.sz)).take Kd.string.sz) = [Value.string l[j]] := by
    show ((l.map Value.string).drop (j * 1)).take 1 = _
    rw [Nat.mul_one, List.drop_eq_getElem_cons (by simpa using hjl)]
    simp
  rw [this]
  rfl
theorem strings_Split.calls (a0 a1 : ByteArray) (r : List ByteArray) (w : World) (HL : Laid w) (h : strings_Split.f a0 a1 = some r) :
    Calls Tryz.prog 35 #[.string a0, .string a1] w fun e w' => ∃ v0_ : Value, e = .returned (v0_) ∧ Kd.R Kd.string 9 w' w.heap.size (fun _ => True) v0_ r ∧ Below w.heap.size w w' := by
  unfold strings_Split.f at h
  split at h
  · rename_i hs
    obtain rfl := Option.some.inj h
    obtain ⟨m, hm⟩ := HL.maxLen
    refine (Tryz.strings_Split a0 a1 m w hs.1 hm hs.2.1).mono ?_
    rintro e w' ⟨rfl, rfl⟩
    refine ⟨_, rfl, ?_, (Below.refl _ w).alloc (Nat.le_refl _) _⟩
    rw [← hs.2.2]
    have hc := Lib.countB_le a1 hs.2.1 a0.size a0 (Nat.le_refl _)
    exact strs_row w _ (by omega)
  · cases h

end Go.Proofs.YthedigbdkjcpfaaGreatDoor.Print
