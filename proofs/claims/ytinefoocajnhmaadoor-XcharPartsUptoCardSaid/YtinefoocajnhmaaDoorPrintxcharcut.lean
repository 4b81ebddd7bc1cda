-- Laid by xprint.py (ours), out of the seat's translation; Lean checks it.
import Derived.Test.YtinefoocajnhmaaDoorPrint0
import Derived.LoopTactic
namespace Go.Proofs.YtinefoocajnhmaaDoor.Print
open Go.RowKit Go.Proofs.YtinefoocajnhmaaDoorW.PrintWords Go.Proofs.YtinefoocajnhmaaDoorW.PrintLast Go.Proofs.YtinefoocajnhmaaDoorW.PrintMore
attribute [local go_sem] max2_int min2_int max_two min_two max_three min_three max_four min_four   -- for this text's walks alone
open Go.Proofs.YtinefoocajnhmaaDoor.Plain
set_option linter.unusedVariables false
set_option linter.unusedSimpArgs false

-- GIVEN stencil/xchar.Cut making
/-- begin and end of Go's loop over the runes -/
def cutGo (s : ByteArray) (from_ upto : Int) : Nat → Nat → Nat → Nat → Nat → Nat × Nat
  | 0, _, _, b, e => (b, e)
  | f + 1, pos, k, b, e => if pos < s.size then cutGo s from_ upto f (pos + (Utf8.decode s pos).2) (k + 1) (if (k : Int) = from_ then pos else b) (if (k : Int) = upto then pos else e) else (b, e)
theorem cutGo_end (s : ByteArray) (from_ upto : Int) (f pos k b e : Nat) (h : ¬ pos < s.size) : cutGo s from_ upto f pos k b e = (b, e) := by
  cases f with
  | zero => rfl
  | succ f => simp [cutGo, h]
def cutFrom (from_ : Int) : Int := if from_ < 0 then 0 else from_
set_option maxRecDepth 100000 in
set_option maxHeartbeats 6000000 in
theorem cut_any (s : ByteArray) (hs : s.size ≤ 9223372036854775807) (a1 a2 : Int) (B E : Nat) (hBE : cutGo s (cutFrom a1) a2 s.size 0 0 s.size s.size = (B, E)) (r : ByteArray)
    (hr : (if a2 ≤ cutFrom a1 ∨ B > E then ⟨#[]⟩ else s.extract B E) = r) (w : World) :
    Calls Tryd.prog 44 #[.string s, .int .i64 a1, .int .i64 a2] w fun e w' => e = .returned (.string r) ∧ Below w.heap.size w w' := by
  obtain ⟨M, hM⟩ : ∃ M, cutFrom a1 = M := ⟨_, rfl⟩
  rw [hM] at hBE hr
  have HBE := Lib.hid hBE
  have HR := Lib.hid hr
  have HM : Hid ((if a1 < 0 then 0 else a1) = M) := hM
  clear hBE hr hM
  go_enter Tryd.func44, Tryd.ntmps44
  go_wp2
  go_loopw [7, 8, 9] (fun v7 v8 v9 wr => ∃ (pos fuel k b e : Nat), v7 = .int .i64 (k : Int) ∧ v8 = .int .i64 (b : Int) ∧ v9 = .int .i64 (e : Int) ∧ wr.heap[w.heap.size]? = some (.stringIter s pos) ∧ Below w.heap.size w wr ∧ Hid (cutGo s M a2 fuel pos k b e = (B, E)) ∧ s.size ≤ pos + fuel ∧ pos ≤ s.size ∧ k ≤ pos ∧ b ≤ s.size ∧ e ≤ s.size) (fun _ _ _ wr => s.size - wr.iterPos w.heap.size)
  case atStart => exact ⟨0, s.size, 0, s.size, s.size, rfl, rfl, rfl, World.iter_heap w s 0, (Below.refl _ w).alloc (Nat.le_refl _) _, HBE, by omega, Nat.zero_le _, Nat.le_refl _, Nat.le_refl _, Nat.le_refl _⟩
  case round =>
    obtain ⟨pos, fuel, k, b, e, rfl, rfl, rfl, hit, hbw, hacc, hfu, hple, hk, hb, he⟩ := hrel
    have hsz : w.heap.size < wr.heap.size := (Array.getElem?_eq_some_iff.1 hit).1
    by_cases hp : pos < s.size
    · obtain ⟨R, N, hd, hdl, hN, hR⟩ := decode_facts s pos
      obtain ⟨f, rfl⟩ : ∃ f, fuel = f + 1 := ⟨fuel - 1, by omega⟩
      have hacc' := hacc.out
      rw [cutGo, if_pos hp, hd] at hacc'
      simp only at hacc'
      have HA := Lib.hid hacc'
      have hnx : ∀ ty, (Instr.next (.pointer (some ⟨w.heap.size, 0, none⟩)) true ty).run Tryd.prog wr = .ok (.tuple #[.bool true, .int .i64 pos, .int .i32 R]) (wr.iterAt w.heap.size s (pos + N)) := fun ty => by
        have := Lib.run_next_any_at (P := Tryd.prog) wr w.heap.size s pos ty hit hp
        rw [hd] at this
        exact this
      have hit2 := Lib.iterAt_heap wr w.heap.size s pos (pos + N) hit
      have hbw2 := Lib.below_iterAt hbw (k := w.heap.size) (Nat.le_refl _) s (pos + N)
      have hin := decode_in s pos R N hp hdl
      have e1 : s.size ≤ pos + N + f := by omega
      have e3 : k + 1 ≤ pos + N := by omega
      have e4 : s.size - (pos + N) < s.size - pos := by omega
      have e5 : k < 9223372036854775807 := by omega
      clear hacc hacc' hd hdl HBE
      by_cases hc1 : (k : Int) = M
      · by_cases hc2 : (k : Int) = a2
        · have HA2 : Hid (cutGo s M a2 f (pos + N) (k + 1) pos pos = (B, E)) := by
            have h := HA.out
            rw [if_pos hc1, if_pos hc2] at h
            exact h
          clear HA
          have c1 : ((k : Int) == M) = true := beq_iff_eq.2 hc1
          have c2 : ((k : Int) == a2) = true := beq_iff_eq.2 hc2
          clear hc1 hc2
          have hM1 : (if 0 > a1 then 0 else a1) = M := HM.out
          go_wp2
          exact ⟨⟨pos + N, f, k + 1, pos, pos, rfl, rfl, rfl, hit2, hbw2, HA2, e1, hin, e3, hple, hple⟩, by rw [iter_pos hit, iter_pos hit2]; exact e4⟩
        · have HA2 : Hid (cutGo s M a2 f (pos + N) (k + 1) pos e = (B, E)) := by
            have h := HA.out
            rw [if_pos hc1, if_neg hc2] at h
            exact h
          clear HA
          have c1 : ((k : Int) == M) = true := beq_iff_eq.2 hc1
          have c2 : ((k : Int) == a2) = false := beq_eq_false_iff_ne.2 hc2
          clear hc1 hc2
          have hM1 : (if 0 > a1 then 0 else a1) = M := HM.out
          go_wp2
          exact ⟨⟨pos + N, f, k + 1, pos, e, rfl, rfl, rfl, hit2, hbw2, HA2, e1, hin, e3, hple, he⟩, by rw [iter_pos hit, iter_pos hit2]; exact e4⟩
      · by_cases hc2 : (k : Int) = a2
        · have HA2 : Hid (cutGo s M a2 f (pos + N) (k + 1) b pos = (B, E)) := by
            have h := HA.out
            rw [if_neg hc1, if_pos hc2] at h
            exact h
          clear HA
          have c1 : ((k : Int) == M) = false := beq_eq_false_iff_ne.2 hc1
          have c2 : ((k : Int) == a2) = true := beq_iff_eq.2 hc2
          clear hc1 hc2
          have hM1 : (if 0 > a1 then 0 else a1) = M := HM.out
          go_wp2
          exact ⟨⟨pos + N, f, k + 1, b, pos, rfl, rfl, rfl, hit2, hbw2, HA2, e1, hin, e3, hb, hple⟩, by rw [iter_pos hit, iter_pos hit2]; exact e4⟩
        · have HA2 : Hid (cutGo s M a2 f (pos + N) (k + 1) b e = (B, E)) := by
            have h := HA.out
            rw [if_neg hc1, if_neg hc2] at h
            exact h
          clear HA
          have c1 : ((k : Int) == M) = false := beq_eq_false_iff_ne.2 hc1
          have c2 : ((k : Int) == a2) = false := beq_eq_false_iff_ne.2 hc2
          clear hc1 hc2
          have hM1 : (if 0 > a1 then 0 else a1) = M := HM.out
          go_wp2
          exact ⟨⟨pos + N, f, k + 1, b, e, rfl, rfl, rfl, hit2, hbw2, HA2, e1, hin, e3, hb, he⟩, by rw [iter_pos hit, iter_pos hit2]; exact e4⟩
    · have hnx : ∀ ty, (Instr.next (.pointer (some ⟨w.heap.size, 0, none⟩)) true ty).run Tryd.prog wr = _ := fun ty => Lib.run_next_end_at wr w.heap.size s pos ty hit hp
      have hacc' := hacc.out
      rw [cutGo_end _ _ _ _ _ _ _ _ hp] at hacc'
      obtain ⟨rfl, rfl⟩ := Prod.mk.inj hacc'
      clear hacc hacc' HBE
      by_cases hc1 : a2 ≤ M
      · have HE : Hid ((⟨#[]⟩ : ByteArray) = r) := by
          have h := HR.out
          rw [if_pos (.inl hc1)] at h
          exact h
        clear HR
        have c1 : decide (a2 ≤ M) = true := decide_eq_true hc1
        have hM1 : (if 0 > a1 then 0 else a1) = M := HM.out
        clear HM
        go_wp2
        go_ret
        exact ⟨by rw [← HE.out]; rfl, hbw⟩
      · by_cases hc2 : b > e
        · have HE : Hid ((⟨#[]⟩ : ByteArray) = r) := by
            have h := HR.out
            rw [if_pos (.inr hc2)] at h
            exact h
          clear HR
          have c1 : decide (a2 ≤ M) = false := decide_eq_false hc1
          have c2 : decide ((b : Int) > e) = true := decide_eq_true (by omega)
          have c3 : decide ((e : Int) < b) = true := decide_eq_true (by omega)
          have hM1 : (if 0 > a1 then 0 else a1) = M := HM.out
          clear HM
          go_wp2
          go_ret
          exact ⟨by rw [← HE.out]; rfl, hbw⟩
        · have HE : Hid (s.extract b e = r) := by
            have h := HR.out
            rw [if_neg (by rintro (h | h); exact hc1 h; exact hc2 h)] at h
            exact h
          clear HR
          have c1 : decide (a2 ≤ M) = false := decide_eq_false hc1
          have c2 : decide ((b : Int) > e) = false := decide_eq_false (by omega)
          have c3 : decide ((e : Int) < b) = false := decide_eq_false (by omega)
          have b0 : (0 : Int) ≤ (b : Int) := by omega
          have b1 : (b : Int) ≤ (e : Int) := by omega
          have b2 : (e : Int) ≤ (s.size : Int) := by omega
          have b3 : b ≤ e := by omega
          have hM1 : (if 0 > a1 then 0 else a1) = M := HM.out
          clear HM hc2
          go_wp2
          go_ret
          exact ⟨by rw [← HE.out]; rfl, hbw⟩
def xchar_Cut.f (a0 : ByteArray) (a1 a2 : Int) : Option ByteArray :=
  if a0.size ≤ 9223372036854775807 then some (if a2 ≤ cutFrom a1 ∨ (cutGo a0 (cutFrom a1) a2 a0.size 0 0 a0.size a0.size).1 > (cutGo a0 (cutFrom a1) a2 a0.size 0 0 a0.size a0.size).2 then ⟨#[]⟩ else a0.extract (cutGo a0 (cutFrom a1) a2 a0.size 0 0 a0.size a0.size).1 (cutGo a0 (cutFrom a1) a2 a0.size 0 0 a0.size a0.size).2) else none
theorem xchar_Cut.calls (a0 : ByteArray) (a1 a2 : Int) (r : ByteArray) (w : World) (HL : Laid w) (h : xchar_Cut.f a0 a1 a2 = some r) :
    Calls Tryd.prog 44 #[.string a0, .int .i64 a1, .int .i64 a2] w fun e w' => e = .returned (.string r) ∧ Below w.heap.size w w' := by
  unfold xchar_Cut.f at h
  split at h
  · rename_i hs
    exact cut_any a0 hs a1 a2 _ _ rfl r (Option.some.inj h) w
  · cases h

end Go.Proofs.YtinefoocajnhmaaDoor.Print
