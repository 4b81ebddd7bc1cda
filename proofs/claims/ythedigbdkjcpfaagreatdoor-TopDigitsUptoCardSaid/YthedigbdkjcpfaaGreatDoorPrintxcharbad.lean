-- Laid by xprint.py (ours), out of the seat's translation; Lean checks it.
import Derived.Test.YthedigbdkjcpfaaGreatDoorPrint0
import Derived.Test.YthedigbdkjcpfaaGreatDoorPrintxcharkinds
import Derived.Test.YthedigbdkjcpfaaGreatDoorPrintlibdecode
import Derived.LoopTactic
namespace Go.Proofs.YthedigbdkjcpfaaGreatDoor.Print
open Go.RowKit Go.Proofs.YthedigbdkjcpfaaGreatDoorW.PrintWords Go.Proofs.YthedigbdkjcpfaaGreatDoorW.PrintLast Go.Proofs.YthedigbdkjcpfaaGreatDoorW.PrintMore
attribute [local go_sem] max2_int min2_int max_two min_two max_three min_three max_four min_four   -- for this text's walks alone
open Go.Proofs.YthedigbdkjcpfaaGreatDoor.Plain
set_option linter.unusedVariables false
set_option linter.unusedSimpArgs false

-- GIVEN stencil/xchar.bad making
set_option maxRecDepth 100000 in
set_option maxHeartbeats 1000000 in
theorem bad_any (s : ByteArray) (w : World) (HL : Laid w) :
    Calls Tryz.prog 23 #[.string s] w fun e w' => e = .returned (.tuple #[.int .i64 (badL s.size s.data.toList 0).1, .int .i64 (badL s.size s.data.toList 0).2]) ∧ Below w.heap.size w w' := by
  obtain ⟨R1, hR1⟩ : ∃ x, (badL s.size s.data.toList 0).1 = x := ⟨_, rfl⟩
  obtain ⟨R2, hR2⟩ : ∃ x, (badL s.size s.data.toList 0).2 = x := ⟨_, rfl⟩
  rw [hR1, hR2]
  have HR : Hid (badL s.size s.data.toList 0 = (R1, R2)) := by
    show _ = _
    rw [← hR1, ← hR2]
  clear hR1 hR2
  go_enter Tryz.func23, Tryz.ntmps23
  go_wp2
  go_loopw [4] (fun _ wr => ∃ (pos fuel : Nat), wr.heap[w.heap.size]? = some (.stringIter s pos) ∧ Below w.heap.size w wr ∧ Hid (badL fuel (s.data.toList.drop pos) pos = (R1, R2)) ∧ s.size ≤ pos + fuel) (fun _ wr => s.size - wr.iterPos w.heap.size)
  case atStart => exact ⟨0, s.size, World.iter_heap w s 0, (Below.refl _ w).alloc (Nat.le_refl _) _, HR, by omega⟩
  case round =>
    obtain ⟨pos, fuel, hit, hbw, hacc, hfu⟩ := hrel
    have hsz : w.heap.size < wr.heap.size := (Array.getElem?_eq_some_iff.1 hit).1
    have HLr := HL.below hbw
    by_cases hp : pos < s.size
    · obtain ⟨R, N, hd, hdl, hN, hR⟩ := decode_facts s pos
      obtain ⟨f, rfl⟩ : ∃ f, fuel = f + 1 := ⟨fuel - 1, by omega⟩
      have hacc' := hacc.out
      rw [badL, if_neg (drop_ne s pos hp), hdl] at hacc'
      simp only [List.drop_drop] at hacc'
      have HA := Lib.hid hacc'
      have HG : Hid (Lib.decodeGo (s.extract pos s.size) = (R, N)) := (decodeGo_at s pos hp).trans hd
      have hnx : ∀ ty, (Instr.next (.pointer (some ⟨w.heap.size, 0, none⟩)) true ty).run Tryz.prog wr = .ok (.tuple #[.bool true, .int .i64 pos, .int .i32 R]) (wr.iterAt w.heap.size s (pos + N)) := fun ty => by
        have := Lib.run_next_any_at (P := Tryz.prog) wr w.heap.size s pos ty hit hp
        rw [hd] at this
        exact this
      have hit2 := Lib.iterAt_heap wr w.heap.size s pos (pos + N) hit
      have hbw2 := Lib.below_iterAt hbw (k := w.heap.size) (Nat.le_refl _) s (pos + N)
      have HL2 := HL.below hbw2
      have hsz2 : w.heap.size < (wr.iterAt w.heap.size s (pos + N)).heap.size := by rw [Lib.iterAt_size]; exact hsz
      clear hacc hacc' hd hdl HR HLr
      by_cases hr : R = 65533
      · subst hr
        have cD := fun (W : World) (h : Laid W) => utf8_DecodeRuneInString.calls (s.extract pos s.size) 65533 N W h (by unfold utf8_DecodeRuneInString.f; rw [HG.out]; rfl)
        have HC := Lib.hid cD
        clear cD
        by_cases hn : N = 1
        · subst hn
          have HE : R1 = pos ∧ R2 = 3 := by
            have := HA.out
            simp at this
            exact ⟨this.1.symm, this.2.symm⟩
          obtain ⟨rfl, rfl⟩ := HE
          clear HA
          go_wp2_with (go_at_call 54; refine (HC.out _ HL2).mono ?_; rintro e w' ⟨rfl, hb⟩)
          go_ret2
          exact ⟨rfl, hbw2.trans (hb.mono (by omega))⟩
        · have hn1 : ((N : Int) == 1) = false := beq_eq_false_iff_ne.2 (by omega)
          have HA2 : Hid (badL f (s.data.toList.drop (pos + N)) (pos + N) = (R1, R2)) := by
            have h := HA.out
            rw [if_neg (by omega), if_pos (by decide)] at h
            exact h
          clear HA
          go_wp2_with (first
            | (go_at_call 54; refine (HC.out _ HL2).mono ?_; rintro e w' ⟨rfl, hb⟩)
            | (go_at_call 50; refine (isChar_any _ (by omega) (by omega) _).mono ?_; rintro e w' ⟨rfl, hb2⟩))
          go_roundw
          case rel => exact ⟨pos + N, f, iter_kept (iter_kept hit2 hb) hb2, below_from (below_from hbw2 (by omega) hb) (by have := hb.size; omega) hb2, HA2, by omega⟩
          case measure => rw [iter_pos hit, iter_pos (iter_kept (iter_kept hit2 hb) hb2)]; omega
      · have hr1 : ((R : Int) == 65533) = false := beq_eq_false_iff_ne.2 (by omega)
        by_cases hc : inSpans isCharL R = true
        · have HA2 : Hid (badL f (s.data.toList.drop (pos + N)) (pos + N) = (R1, R2)) := by
            have h := HA.out
            rw [if_neg (by omega), if_pos hc] at h
            exact h
          clear HA
          go_wp2_with (go_at_call 50; refine (isChar_any _ (by omega) (by omega) _).mono ?_; rintro e w' ⟨rfl, hb2⟩)
          go_roundw
          case rel => exact ⟨pos + N, f, iter_kept hit2 hb2, below_from hbw2 (by omega) hb2, HA2, by omega⟩
          case measure => rw [iter_pos hit, iter_pos (iter_kept hit2 hb2)]; omega
        · have hc' : inSpans isCharL R = false := by simpa using hc
          clear hc
          have HE : R1 = pos ∧ R2 = 4 := by
            have h := HA.out
            rw [if_neg (by omega), if_neg (by simp [hc'])] at h
            simp at h
            exact ⟨h.1.symm, h.2.symm⟩
          obtain ⟨rfl, rfl⟩ := HE
          clear HA
          go_wp2_with (go_at_call 50; refine (isChar_any _ (by omega) (by omega) _).mono ?_; rintro e w' ⟨rfl, hb2⟩)
          go_ret2
          exact ⟨rfl, hbw2.trans (hb2.mono (by omega))⟩
    · have hnx : ∀ ty, (Instr.next (.pointer (some ⟨w.heap.size, 0, none⟩)) true ty).run Tryz.prog wr = _ := fun ty => Lib.run_next_end_at wr w.heap.size s pos ty hit hp
      have HE : R1 = -1 ∧ R2 = 0 := by
        have h := hacc.out
        rw [drop_nil s pos hp, badL_nil] at h
        simp at h
        exact ⟨h.1.symm, h.2.symm⟩
      obtain ⟨rfl, rfl⟩ := HE
      clear hacc HR
      go_wp2
      go_ret2
      exact ⟨rfl, hbw⟩
def xchar_bad.f (a0 : ByteArray) : Option (Int × Int) := some ((badL a0.size a0.data.toList 0).1, (badL a0.size a0.data.toList 0).2)
theorem xchar_bad.calls (a0 : ByteArray) (r1 r2 : Int) (w : World) (HL : Laid w) (h : xchar_bad.f a0 = some (r1, r2)) :
    Calls Tryz.prog 23 #[.string a0] w fun e w' => e = .returned (.tuple #[.int .i64 r1, .int .i64 r2]) ∧ Below w.heap.size w w' := by
  simp only [xchar_bad.f, Option.some.injEq, Prod.mk.injEq] at h
  obtain ⟨rfl, rfl⟩ := h
  exact bad_any a0 w HL

end Go.Proofs.YthedigbdkjcpfaaGreatDoor.Print
