/- XcharNames, without Go and memory. -/
import Derived.Test.YtinefoocajnhmaaDoorPrintf42
import Derived.Test.YtinefoocajnhmaaDoorPrintlaw01live
import Derived.Test.YtinefoocajnhmaaDoorFactsB
namespace Go.Proofs.YtinefoocajnhmaaDoor.Pure
open Go.RowKit Go.Proofs.YtinefoocajnhmaaDoorW.PrintWords Go.Proofs.YtinefoocajnhmaaDoor.Plain Go.Proofs.YtinefoocajnhmaaDoor.Print Go.Proofs.YtinefoocajnhmaaDoor.Facts

theorem split_ref_l0 (s : ByteArray) (hs : s.size ≤ 1000000000) : ∀ (d pos k : Nat), pos ≤ s.size → s.size - pos ≤ d → d + (2 * s.size + 23) ≤ k → 58 ∉ s.data.toList.take pos →
    stencilref01_Split.l0 k s (pos : Int) = some (⟨(splitL s.data.toList).1.toArray⟩, ⟨(splitL s.data.toList).2.1.toArray⟩, (splitL s.data.toList).2.2) := by
  intro d
  have hl := size_len s
  induction d with
  | zero =>
    intro pos k hp hd hk hn
    obtain ⟨k, rfl⟩ : ∃ m, k = m + 1 := ⟨k - 1, by omega⟩
    have hno : 58 ∉ s.data.toList := by rwa [List.take_of_length_le (by omega)] at hn
    simp only [stencilref01_Split.l0]
    rw [if_neg (by omega), isName_ref s hs k (by omega)]
    simp only [Option.bind_some]
    unfold splitL
    rw [if_neg hno]
    cases h1 : isNameL s.data.toList <;> simp
  | succ d ih =>
    intro pos k hp hd hk hn
    obtain ⟨k, rfl⟩ : ∃ m, k = m + 1 := ⟨k - 1, by omega⟩
    by_cases hlt : pos < s.size
    · have hll : pos < s.data.toList.length := by omega
      have hb := bt_list s pos hll
      have hw : wrap64 ((pos : Int) + 1) = ((pos + 1 : Nat) : Int) := by rw [Facts.wrap_small (by omega) (by omega)]; omega
      have htk : s.data.toList.take (pos + 1) = s.data.toList.take pos ++ [s.data.toList[pos]] := by
        rw [List.take_succ_eq_append_getElem hll]
      simp only [stencilref01_Split.l0]
      rw [if_pos (by omega), if_pos (by omega), hb, hw]
      by_cases hc : s.data.toList[pos] = 58
      · have hmem : 58 ∈ s.data.toList := by rw [← hc]; exact List.getElem_mem hll
        have hco : colon s.data.toList = pos := by
          unfold colon
          apply Nat.le_antisymm
          · exact Nat.le_of_not_lt fun hgt => by
              have := List.not_of_lt_findIdx hgt
              simp [hc] at this
          · refine Nat.le_of_not_lt fun hlt2 => ?_
            obtain ⟨hc2, he⟩ := colon_at s.data.toList hmem
            refine hn ?_
            rw [← he]
            have : (colon s.data.toList) < (s.data.toList.take pos).length := by rw [List.length_take]; unfold colon; omega
            have e2 : (s.data.toList.take pos)[colon s.data.toList] = s.data.toList[colon s.data.toList] := List.getElem_take
            rw [← e2]
            exact List.getElem_mem this
        rw [if_pos (by rw [hc]; rfl), if_pos (by omega), Int.toNat_natCast, Int.toNat_natCast]
        rw [isName_ref _ (by rw [← size_len, head_list, List.length_take]; omega) k (by rw [← size_len, head_list, List.length_take]; omega)]
        rw [isName_ref _ (by rw [← size_len, tail_list, List.length_drop]; omega) k (by rw [← size_len, tail_list, List.length_drop]; omega)]
        rw [head_list, tail_list]
        simp only [Option.bind_some]
        unfold splitL
        rw [if_pos hmem, hco]
        have e1 : s.extract 0 pos = ⟨(s.data.toList.take pos).toArray⟩ := ba_ext (by rw [head_list])
        have e2 : s.extract (pos + 1) s.size = ⟨(s.data.toList.drop (pos + 1)).toArray⟩ := ba_ext (by rw [tail_list])
        rw [e1, e2]
        cases h1 : isNameL (s.data.toList.take pos) <;> cases h2 : isNameL (s.data.toList.drop (pos + 1)) <;> simp <;> omega
      · rw [if_neg]
        · refine ih (pos + 1) k (by omega) (by omega) (by omega) ?_
          rw [htk]
          simp only [List.mem_append, List.mem_singleton, not_or]
          exact ⟨hn, fun e => hc e.symm⟩
        · intro e
          have h58 : s.data.toList[pos].toNat = (58 : UInt8).toNat := by show _ = 58; omega
          exact hc (UInt8.toNat_inj.1 h58)
    · exact ih pos (k + 1) hp (by omega) (by omega) hn
theorem split_ref (s : ByteArray) (hs : s.size ≤ 1000000000) (k : Nat) (hk : 3 * s.size + 23 ≤ k) :
    stencilref01_Split.f k s = some (⟨(splitL s.data.toList).1.toArray⟩, ⟨(splitL s.data.toList).2.1.toArray⟩, (splitL s.data.toList).2.2) := by
  have := split_ref_l0 s hs s.size 0 k (by omega) (by omega) (by omega) (by simp)
  simpa [stencilref01_Split.f] using this
theorem splitL_name (l : List UInt8) (h : isNameL l = true) : (splitL l).2.2 = true := by
  unfold splitL
  rw [if_neg (isName_byte 58 (by decide) (by decide) l h), if_pos h]
theorem XcharNames (a0 : ByteArray) (h0 : a0.size ≤ 1048576) : ∃ k, stencillaw01_XcharNames.f k a0 = some true := by
  refine ⟨3 * a0.size + 23, ?_⟩
  have ht : xchar_IsText.f a0 = some (isTextL a0.data.toList) := by
    unfold xchar_IsText.f xchar_bad.f
    simp only [Option.bind_some]
    unfold isTextL
    rw [size_len, Option.some.injEq, Bool.eq_iff_iff]
    simp [badL_sign]
  unfold stencillaw01_XcharNames.f stencillaw01_live.f
  rw [split_f a0 (by omega) _ (by omega), split_ref a0 (by omega) _ (by omega), ht, isText_ref a0 (by omega) _ (by omega), isName_f a0 (by omega), isName_ref a0 (by omega) _ (by omega)]
  simp only [Option.bind_some, beq_self_eq_true, if_true]
  by_cases hn : isNameL a0.data.toList = true
  · rw [if_pos hn, splitL_name _ hn]
  · rw [if_neg hn]
end Go.Proofs.YtinefoocajnhmaaDoor.Pure
