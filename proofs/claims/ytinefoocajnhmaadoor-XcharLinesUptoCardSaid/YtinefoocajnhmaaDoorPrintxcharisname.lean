-- Laid by xprint.py (ours), out of the seat's translation; Lean checks it.
import Derived.Test.YtinefoocajnhmaaDoorPrint0
import Derived.Test.YtinefoocajnhmaaDoorPrintxcharkinds
import Derived.Test.YtinefoocajnhmaaDoorPrintlibvalid
import Derived.LoopTactic
namespace Go.Proofs.YtinefoocajnhmaaDoor.Print
open Go.RowKit Go.Proofs.YtinefoocajnhmaaDoorW.PrintWords Go.Proofs.YtinefoocajnhmaaDoorW.PrintLast Go.Proofs.YtinefoocajnhmaaDoorW.PrintMore
attribute [local go_sem] max2_int min2_int max_two min_two max_three min_three max_four min_four   -- for this text's walks alone
open Go.Proofs.YtinefoocajnhmaaDoor.Plain
set_option linter.unusedVariables false
set_option linter.unusedSimpArgs false

-- GIVEN stencil/xchar.IsName making
set_option maxRecDepth 100000 in
set_option maxHeartbeats 1000000 in
theorem isName_any (s : ByteArray) (hs : s.size ≤ 9223372036854775807) (w0 : World) (HL : Laid w0) :
    Calls Tryd.prog 39 #[.string s] w0 fun e w' => e = .returned (.bool (isNameL s.data.toList)) ∧ Below w0.heap.size w0 w' := by
  have cV := utf8_ValidString.calls s (Lib.validD s.data.toList) w0 HL (by unfold utf8_ValidString.f; rw [if_pos hs])
  have HV := Lib.hid cV
  clear cV
  by_cases hv : Lib.validD s.data.toList = true
  · obtain ⟨R1, hR1⟩ : ∃ x, namesL s.size s.data.toList 0 = x := ⟨_, rfl⟩
    have HF : Hid (isNameL s.data.toList = (R1 && !s.data.toList.isEmpty)) := by
      show _ = _
      unfold isNameL
      rw [hv, ← Lib.size_eq, hR1, Bool.true_and]
    have HR := Lib.hid hR1
    clear hR1
    rw [HF.out]
    clear HF
    obtain ⟨E0, hE0⟩ : ∃ x, s.data.toList.isEmpty = x := ⟨_, rfl⟩
    have HE0 : Hid (s.toList.isEmpty = E0) := by
      show _ = _
      rw [Lib.toList_data, hE0]
    rw [hE0]
    clear hE0
    go_enter Tryd.func39, Tryd.ntmps39
    go_wp2_with (go_at_call 66; refine (HV.out).mono ?_; rintro e w ⟨rfl, hV0⟩)
    have HLw := HL.below hV0
    clear HV
    go_loopw [4] (fun _ wr => ∃ (pos fuel : Nat), wr.heap[w.heap.size]? = some (.stringIter s pos) ∧ Below w.heap.size w wr ∧ Hid (namesL fuel (s.data.toList.drop pos) pos = R1) ∧ s.size ≤ pos + fuel) (fun _ wr => s.size - wr.iterPos w.heap.size)
    case atStart => exact ⟨0, s.size, World.iter_heap w s 0, (Below.refl _ w).alloc (Nat.le_refl _) _, HR, by omega⟩
    case round =>
      obtain ⟨pos, fuel, hit, hbw, hacc, hfu⟩ := hrel
      have hsz : w.heap.size < wr.heap.size := (Array.getElem?_eq_some_iff.1 hit).1
      by_cases hp : pos < s.size
      · obtain ⟨R, N, hd, hdl, hN, hR⟩ := decode_facts s pos
        obtain ⟨f, rfl⟩ : ∃ f, fuel = f + 1 := ⟨fuel - 1, by omega⟩
        have hacc' := hacc.out
        rw [namesL, if_neg (drop_ne s pos hp), hdl] at hacc'
        simp only [List.drop_drop] at hacc'
        have HA := Lib.hid hacc'
        have hnx : ∀ ty, (Instr.next (.pointer (some ⟨w.heap.size, 0, none⟩)) true ty).run Tryd.prog wr = .ok (.tuple #[.bool true, .int .i64 pos, .int .i32 R]) (wr.iterAt w.heap.size s (pos + N)) := fun ty => by
          have := Lib.run_next_any_at (P := Tryd.prog) wr w.heap.size s pos ty hit hp
          rw [hd] at this
          exact this
        have hit2 := Lib.iterAt_heap wr w.heap.size s pos (pos + N) hit
        have hbw2 := Lib.below_iterAt hbw (k := w.heap.size) (Nat.le_refl _) s (pos + N)
        have hsz2 : w.heap.size < (wr.iterAt w.heap.size s (pos + N)).heap.size := by rw [Lib.iterAt_size]; exact hsz
        clear hacc hacc' hd hdl HR
        by_cases hp0 : pos = 0
        · subst hp0
          simp only [Nat.zero_add] at hit2 hbw2 hsz2 HA hnx
          by_cases hb0 : beginsS R = true
          · by_cases hg : goesOnS R = true
            · have HA2 : Hid (namesL f (s.data.toList.drop N) N = R1) := by
                have h := HA.out
                rw [if_neg (by simp [hb0, hg])] at h
                exact h
              clear HA
              go_wp2_with (first
                | (go_at_call 34; refine (begins_any _ (by omega) (by omega) _).mono ?_; rintro e w' ⟨rfl, hb⟩)
                | (go_at_call 36; refine (goesOn_any _ (by omega) (by omega) _).mono ?_; rintro e w' ⟨rfl, hb2⟩))
              go_roundw
              case rel => exact ⟨N, f, iter_kept (iter_kept hit2 hb) hb2, below_from (below_from hbw2 (by omega) hb) (by have := hb.size; omega) hb2, HA2, by omega⟩
              case measure => rw [iter_pos hit, iter_pos (iter_kept (iter_kept hit2 hb) hb2)]; omega
            · have hg' : goesOnS R = false := by simpa using hg
              clear hg
              have HE : Hid (false = R1) := by
                show _ = _
                have h := HA.out
                rw [if_pos (.inr hg')] at h
                exact h
              clear HA
              go_wp2_with (first
                | (go_at_call 34; refine (begins_any _ (by omega) (by omega) _).mono ?_; rintro e w' ⟨rfl, hb⟩)
                | (go_at_call 36; refine (goesOn_any _ (by omega) (by omega) _).mono ?_; rintro e w' ⟨rfl, hb2⟩))
              go_ret
              exact ⟨by rw [← HE.out]; rfl, hV0.then_ <| below_from (below_from hbw2 (by omega) hb) (by have := hb.size; omega) hb2⟩
          · have hb0' : beginsS R = false := by simpa using hb0
            clear hb0
            have HE : Hid (false = R1) := by
              show _ = _
              have h := HA.out
              rw [if_pos (.inl ⟨by trivial, hb0'⟩)] at h
              exact h
            clear HA
            go_wp2_with (go_at_call 34; refine (begins_any _ (by omega) (by omega) _).mono ?_; rintro e w' ⟨rfl, hb⟩)
            go_ret
            exact ⟨by rw [← HE.out]; rfl, hV0.then_ <| below_from hbw2 (by omega) hb⟩
        · have hp1 : ((pos : Int) == 0) = false := beq_eq_false_iff_ne.2 (by omega)
          by_cases hg : goesOnS R = true
          · have HA2 : Hid (namesL f (s.data.toList.drop (pos + N)) (pos + N) = R1) := by
              have h := HA.out
              rw [if_neg (by simp [hp0, hg])] at h
              exact h
            clear HA hp0
            go_wp2_with (go_at_call 36; refine (goesOn_any _ (by omega) (by omega) _).mono ?_; rintro e w' ⟨rfl, hb2⟩)
            go_roundw
            case rel => exact ⟨pos + N, f, iter_kept hit2 hb2, below_from hbw2 (by omega) hb2, HA2, by omega⟩
            case measure => rw [iter_pos hit, iter_pos (iter_kept hit2 hb2)]; omega
          · have hg' : goesOnS R = false := by simpa using hg
            have HE : Hid (false = R1) := by
              show _ = _
              have h := HA.out
              rw [if_pos (.inr hg')] at h
              exact h
            clear HA hp0 hg
            go_wp2_with (go_at_call 36; refine (goesOn_any _ (by omega) (by omega) _).mono ?_; rintro e w' ⟨rfl, hb2⟩)
            go_ret
            exact ⟨by rw [← HE.out]; rfl, hV0.then_ <| below_from hbw2 (by omega) hb2⟩
      · have hnx : ∀ ty, (Instr.next (.pointer (some ⟨w.heap.size, 0, none⟩)) true ty).run Tryd.prog wr = _ := fun ty => Lib.run_next_end_at wr w.heap.size s pos ty hit hp
        have HE : Hid (true = R1) := by
          show _ = _
          have h := hacc.out
          rw [drop_nil s pos hp, namesL_nil] at h
          exact h
        clear hacc HR
        have he : s.toList.isEmpty = E0 := HE0.out
        have he2 : (s.toList == []) = E0 := by rw [← he]; cases s.toList <;> rfl
        have he3 : (s.toList != []) = !E0 := by rw [← he2]; rfl
        go_wp2
        go_ret
        exact ⟨by rw [← HE.out, Bool.true_and]; rfl, hV0.then_ hbw⟩
  · have hv' : Lib.validD s.data.toList = false := by simpa using hv
    rw [hv'] at HV
    have HF : Hid (isNameL s.data.toList = false) := by
      show _ = _
      unfold isNameL
      rw [hv']; rfl
    clear hv
    go_enter Tryd.func39, Tryd.ntmps39
    go_wp2_with (go_at_call 66; refine (HV.out).mono ?_; rintro e w ⟨rfl, hV0⟩)
    go_ret
    exact ⟨by rw [HF.out]; rfl, hV0⟩
def xchar_IsName.f (a0 : ByteArray) : Option Bool := if a0.size ≤ 9223372036854775807 then some (isNameL a0.data.toList) else none
theorem xchar_IsName.calls (a0 : ByteArray) (r : Bool) (w : World) (HL : Laid w) (h : xchar_IsName.f a0 = some r) :
    Calls Tryd.prog 39 #[.string a0] w fun e w' => e = .returned (.bool r) ∧ Below w.heap.size w w' := by
  unfold xchar_IsName.f at h
  split at h
  · rename_i hs
    obtain rfl := Option.some.inj h
    exact isName_any a0 hs w HL
  · cases h

end Go.Proofs.YtinefoocajnhmaaDoor.Print
