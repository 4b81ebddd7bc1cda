/- XcharParts, without Go and memory. -/
import Derived.Test.YtinefoocajnhmaaDoorPrintf45
import Derived.Test.YtinefoocajnhmaaDoorPrintlaw01live
import Derived.Test.YtinefoocajnhmaaDoorPrintxcharcut
import Derived.Test.YtinefoocajnhmaaDoorFactsD
namespace Go.Proofs.YtinefoocajnhmaaDoor.Pure
open Go.RowKit Go.Proofs.YtinefoocajnhmaaDoorW.PrintWords Go.Proofs.YtinefoocajnhmaaDoor.Plain Go.Proofs.YtinefoocajnhmaaDoor.Print Go.Proofs.YtinefoocajnhmaaDoor.Facts

theorem XcharParts (a0 : ByteArray) (a1 : Int) (h0 : a0.size ≤ 1048576) (_h1 : (Lit.int .i64 a1).wf = true) : ∃ k, stencillaw01_XcharParts.f k a0 a1 = some true := by
  refine ⟨1, ?_⟩
  have hl := size_len a0
  obtain ⟨L, hL⟩ : ∃ L, a0.data.toList = L := ⟨_, rfl⟩
  rw [hL] at hl
  obtain ⟨n, hn⟩ : ∃ n, cntL a0.size L = n := ⟨_, rfl⟩
  have hc : xchar_Count.f a0 = some (n : Int) := by rw [count_f a0 (by omega), hL, hn]
  have hend : ∀ i, n ≤ i → advL i L = L.length := fun i hi => adv_end a0.size i L (by omega) (by omega)
  have c0 : cutFrom 0 = 0 := by simp [cutFrom]
  -- the first part
  have f1 : ∃ X : ByteArray, xchar_Cut.f a0 0 a1 = some X ∧ X.data.toList = L.take (advL a1.toNat L) := by
    rw [cut_f a0 (by omega), c0, hL]
    refine ⟨_, rfl, ?_⟩
    split
    · rename_i h
      rw [show a1.toNat = 0 from by omega]
      rfl
    · rw [extract_list, hL]
      simp [advL]
  have f2 : ∃ Y : ByteArray, xchar_Cut.f a0 a1 (n : Int) = some Y ∧ Y.data.toList = L.drop (advL a1.toNat L) := by
    have e1 : (cutFrom a1).toNat = a1.toNat := by unfold cutFrom; split <;> omega
    rw [cut_f a0 (by omega), e1, hL]
    refine ⟨_, rfl, ?_⟩
    split
    · rename_i h
      have h2 : n ≤ a1.toNat := by unfold cutFrom at h; split at h <;> omega
      rw [hend _ h2, List.drop_length]
    · rw [extract_list, hL, Int.toNat_natCast, hend n (Nat.le_refl _)]
      exact List.take_of_length_le (by rw [List.length_drop]; omega)
  obtain ⟨X, eX, hX⟩ := f1
  obtain ⟨Y, eY, hY⟩ := f2
  have hXs : X.size ≤ a0.size := by rw [← size_len, hX, List.length_take]; omega
  have hYs : Y.size ≤ a0.size := by rw [← size_len, hY, List.length_drop]; omega
  have hXY : (X ++ Y).toList = a0.toList := by
    rw [toList_eq, toList_eq, ByteArray.data_append, Array.toList_append, hX, hY, hL, List.take_append_drop]
  have hcx : xchar_Count.f X = some ((min a1.toNat n : Nat) : Int) := by
    rw [count_f X (by omega), hX, cnt_take a1.toNat a0.size L (by omega) X.size (by rw [← hX, size_len]; omega), hn]
  unfold stencillaw01_XcharParts.f
  rw [eX, hc, Option.bind_some, Option.bind_some, eY, Option.bind_some]
  have j : ∀ x : Int, x = (a1.toNat : Int) → stencillaw01_XcharParts.j0 1 a0 X Y x = some true := by
    intro x hx
    subst hx
    simp only [stencillaw01_XcharParts.j0, hc, hcx, stencillaw01_live.f, Option.bind_some, if_true]
    have hsz : X.size + Y.size ≤ 9223372036854775807 := by omega
    simp only [hsz, hXY, if_true]
    by_cases h : (a1.toNat : Int) > (n : Int)
    · rw [if_pos h, show ((min a1.toNat n : Nat) : Int) = (n : Int) from by omega]
      simp
    · rw [if_neg h, show ((min a1.toNat n : Nat) : Int) = (a1.toNat : Int) from by omega]
      simp
  split
  · exact j 0 (by omega)
  · exact j a1 (by omega)
end Go.Proofs.YtinefoocajnhmaaDoor.Pure
