/- Which texts are texts: what the reference computes, as a plain function on lists of bytes. -/
import Derived.Test.YtinefoocajnhmaaDoorPrintf61
import Derived.Test.YtinefoocajnhmaaDoorPrintf26
import Derived.Test.YtinefoocajnhmaaDoorPlainB
namespace Go.Proofs.YtinefoocajnhmaaDoor.FactsU
open Go.RowKit Go.Proofs.YtinefoocajnhmaaDoorW.PrintWords Go.Proofs.YtinefoocajnhmaaDoor.Plain Go.Proofs.YtinefoocajnhmaaDoor.Print

theorem wrap_small {i : Int} (h0 : -1000000000000 ≤ i) (h1 : i ≤ 1000000000000) : wrap64 i = i := by
  unfold wrap64
  omega

theorem isChar_f (r : Int) : stencilref01_IsChar.f r = some (inSpans isCharL r) := by
  unfold stencilref01_IsChar.f
  repeat' split
  all_goals (rw [Option.some.injEq, Bool.eq_iff_iff]; simp [inSpans, isCharL]; omega)
theorem size_len (s : ByteArray) : s.data.toList.length = s.size := by rw [Array.length_toList]; rfl
theorem toList_eq (s : ByteArray) : s.toList = s.data.toList := Lib.toList_data s
theorem extract_list (s : ByteArray) (a b : Nat) : (s.extract a b).data.toList = (s.data.toList.drop a).take (b - a) := Lib.extract_data s a b
theorem tail_list (s : ByteArray) (a : Nat) : (s.extract a s.size).data.toList = s.data.toList.drop a := by
  rw [extract_list, List.take_of_length_le (by rw [List.length_drop, size_len]; omega)]
theorem head_list (s : ByteArray) (a : Nat) : (s.extract 0 a).data.toList = s.data.toList.take a := by rw [extract_list]; simp
theorem bt_list (s : ByteArray) (i : Nat) (h : i < s.data.toList.length) : bt s (i : Int) = (s.data.toList[i].toNat : Int) := by
  rw [size_len] at h
  rw [← bt_at s i (by omega)]
  rfl
theorem ba_ext {a b : ByteArray} (h : a.data.toList = b.data.toList) : a = b := by
  cases a; cases b; congr 1; exact Array.ext' h

theorem decode_f (s : ByteArray) (pos : Nat) (h : pos < s.size) :
    utf8_DecodeRuneInString.f (s.extract ((pos : Int)).toNat s.size) = some (((Lib.decodeL (s.data.toList.drop pos)).1 : Int), ((Lib.decodeL (s.data.toList.drop pos)).2 : Int)) := by
  unfold utf8_DecodeRuneInString.f
  rw [Int.toNat_natCast, decodeGo_at s pos h, Lib.decodeL_drop]

/-- the reference's Bad, from a place on -/
theorem bad_l0 (s : ByteArray) (hs : s.size ≤ 1000000000) : ∀ (f pos k : Nat), pos ≤ s.size → s.size - pos ≤ f → 2 * f + 1 ≤ k →
    stencilref01_Bad.l0 k s (pos : Int) = some ((badL f (s.data.toList.drop pos) pos).1, decide ((badL f (s.data.toList.drop pos) pos).2 = 3)) := by
  intro f
  induction f with
  | zero =>
    intro pos k hp hf hk
    obtain ⟨k, rfl⟩ : ∃ m, k = m + 1 := ⟨k - 1, by omega⟩
    simp only [stencilref01_Bad.l0]
    rw [if_neg (by omega)]
    rfl
  | succ f ih =>
    intro pos k hp hf hk
    obtain ⟨k, rfl⟩ : ∃ m, k = m + 1 := ⟨k - 1, by omega⟩
    simp only [stencilref01_Bad.l0]
    by_cases hlt : pos < s.size
    · have hne := drop_ne s pos hlt
      have hdc := decode_f s pos hlt
      rw [if_pos (by omega), if_pos (by omega), if_pos (by omega), hdc]
      simp only [Option.bind_some]
      rw [badL, if_neg hne]
      have hin := Lib.decodeL_le _ hne
      have hw := Lib.decodeL_width (s.data.toList.drop pos)
      rw [List.length_drop, size_len] at hin
      obtain ⟨k, rfl⟩ : ∃ m, k = m + 1 := ⟨k - 1, by omega⟩
      generalize hR : (Lib.decodeL (s.data.toList.drop pos)).1 = R at *
      generalize hN : (Lib.decodeL (s.data.toList.drop pos)).2 = N at *
      have hstep := ih (pos + N) k (by omega) (by omega) (by omega)
      rw [← List.drop_drop] at hstep
      have hwrap : wrap64 ((pos : Int) + (N : Int)) = ((pos + N : Nat) : Int) := by rw [wrap_small (by omega) (by omega)]; omega
      by_cases h1 : R = 65533
      · subst h1
        rw [if_pos (by rfl)]
        by_cases h2 : N = 1
        · subst h2
          simp [stencilref01_Bad.j1]
        · have hb : (((N : Nat) : Int) == 1) = false := beq_eq_false_iff_ne.2 (by omega)
          rw [hb]
          simp only [stencilref01_Bad.j1]
          have hb2 : ¬ (True ∧ N = 1) := fun h => h2 h.2
          rw [if_neg (by simp), isChar_f, hwrap, hstep, if_neg hb2]
          simp only [Option.bind_some]
          have hc : inSpans isCharL ((65533 : Nat) : Int) = true := by decide
          rw [hc]
          rfl
      · rw [if_neg (by omega)]
        simp only [stencilref01_Bad.j1]
        have hb2 : ¬ (R = 65533 ∧ N = 1) := by omega
        rw [if_neg (by simp), isChar_f, hwrap, hstep, if_neg hb2]
        simp only [Option.bind_some]
        cases hc : inSpans isCharL (R : Int) <;> simp
    · rw [if_neg (by omega), drop_nil s pos hlt, badL_nil]
      rfl
theorem bad_f (s : ByteArray) (hs : s.size ≤ 1000000000) (k : Nat) (hk : 2 * s.size + 1 ≤ k) :
    stencilref01_Bad.f k s = some ((badL s.size s.data.toList 0).1, decide ((badL s.size s.data.toList 0).2 = 3)) := by
  have := bad_l0 s hs s.size 0 k (by omega) (by omega) hk
  simpa [stencilref01_Bad.f] using this
theorem badL_sign : ∀ (f : Nat) (l : List UInt8) (at_ : Nat), ((badL f l at_).1 < 0 ↔ (badL f l at_).2 = 0) := by
  intro f
  induction f with
  | zero => intro l at_; simp [badL]
  | succ f ih =>
    intro l at_
    rw [badL]
    split
    · simp
    · split
      · first | (simp; done) | (simp; omega)
      · split
        · exact ih _ _
        · first | (simp; done) | (simp; omega)
def isTextL (l : List UInt8) : Bool := decide ((badL l.length l 0).1 < 0)
end Go.Proofs.YtinefoocajnhmaaDoor.FactsU
