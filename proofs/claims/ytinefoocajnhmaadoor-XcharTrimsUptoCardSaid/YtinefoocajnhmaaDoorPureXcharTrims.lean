/- XcharTrims, without Go and memory. -/
import Derived.Test.YtinefoocajnhmaaDoorPrintf29
import Derived.Test.YtinefoocajnhmaaDoorPrintlaw01live
import Derived.Test.YtinefoocajnhmaaDoorPrintxchartrim
import Derived.Test.YtinefoocajnhmaaDoorFactsC
namespace Go.Proofs.YtinefoocajnhmaaDoor.Pure
open Go.RowKit Go.Proofs.YtinefoocajnhmaaDoorW.PrintWords Go.Proofs.YtinefoocajnhmaaDoor.Plain Go.Proofs.YtinefoocajnhmaaDoor.Print Go.Proofs.YtinefoocajnhmaaDoor.Facts

def asInts (l : List UInt8) : List Int := l.map fun b => (b.toNat : Int)
theorem asInts_str (l : List UInt8) : strOfNums (asInts l) = ⟨l.toArray⟩ := by
  apply ba_ext
  rw [strOfNums_data, asInts, List.map_map, mk_list]
  conv => rhs; rw [← List.map_id l]
  apply List.map_congr_left
  intro b _
  simp
theorem ref_blank (b : UInt8) : stencilref01_IsBlank.f (wrap32 (b.toNat : Int)) = some (isB b) := by
  have hb := b.toNat_lt
  have hw : wrap32 (b.toNat : Int) = (b.toNat : Int) := by unfold wrap32; omega
  rw [hw, isBlank_ref, isB_N]
  unfold isBlankN
  congr 1
  rw [Bool.eq_iff_iff]
  simp
  omega
theorem ref_trim_l0 (s : ByteArray) (hs : s.size ≤ 1000000000) : ∀ (d pos k : Nat) (acc : List UInt8) (bl : Bool), pos ≤ s.size → s.size - pos ≤ d → d + 1 ≤ k → acc.length ≤ 2 * pos →
    stencilref01_Trim.l0 k s (asInts acc) bl (pos : Int) = some ⟨(trimGo acc bl (s.data.toList.drop pos)).toArray⟩ := by
  intro d
  have hl := size_len s
  induction d with
  | zero =>
    intro pos k acc bl hp hd hk _
    obtain ⟨k, rfl⟩ : ∃ m, k = m + 1 := ⟨k - 1, by omega⟩
    simp only [stencilref01_Trim.l0]
    rw [if_neg (by omega), asInts_str, List.drop_of_length_le (by omega), trimGo]
  | succ d ih =>
    intro pos k acc bl hp hd hk ha
    obtain ⟨k, rfl⟩ : ∃ m, k = m + 1 := ⟨k - 1, by omega⟩
    by_cases hlt : pos < s.size
    · have hll : pos < s.data.toList.length := by omega
      have hb := bt_list s pos hll
      have hw : wrap64 ((pos : Int) + 1) = ((pos + 1 : Nat) : Int) := by rw [Facts.wrap_small (by omega) (by omega)]; omega
      have hal : (asInts acc).length = acc.length := by simp [asInts]
      have hd1 : s.data.toList.drop pos = s.data.toList[pos] :: s.data.toList.drop (pos + 1) := List.drop_eq_getElem_cons hll
      have hap : ∀ (l : List UInt8) (b : UInt8), asInts l ++ [(b.toNat : Int)] = asInts (l ++ [b]) := by intro l b; simp [asInts]
      have h32 : ∀ (l : List UInt8), asInts l ++ [32] = asInts (l ++ [32]) := by intro l; simp [asInts]
      simp only [stencilref01_Trim.l0]
      rw [if_pos (by omega), if_pos (by omega), hb, ref_blank, hw, hd1, trimGo]
      simp only [Option.bind_some]
      by_cases hB : isB s.data.toList[pos] = true
      · rw [if_pos hB, if_pos hB]
        exact ih (pos + 1) k acc true (by omega) (by omega) (by omega) (by omega)
      · rw [if_neg hB, if_neg hB]
        have plain : stencilref01_Trim.l0 k s (asInts (acc ++ [s.data.toList[pos]])) false ((pos + 1 : Nat) : Int) = some ⟨(trimGo (acc ++ [s.data.toList[pos]]) false (s.data.toList.drop (pos + 1))).toArray⟩ :=
          ih (pos + 1) k _ false (by omega) (by omega) (by omega) (by simp; omega)
        have hlen : acc.length < 140737488355328 := by omega
        have hlen2 : acc.length + 1 < 140737488355328 := by omega
        have hal2 : (asInts (acc ++ [32])).length = acc.length + 1 := by simp [asInts]
        rw [h32, hap]
        simp only [hal, hal2, hap, hlen, hlen2, if_true]
        cases bl with
        | false =>
          rw [if_neg (by decide), if_neg (by simp)]
          exact plain
        | true =>
          rw [if_pos rfl]
          by_cases hn : acc = []
          · have h0 : acc.length = 0 := by rw [hn]; rfl
            rw [if_neg (by omega), if_neg (by simp [hn])]
            exact plain
          · have h0 : 0 < acc.length := List.length_pos_iff.2 hn
            rw [if_pos (by omega), if_pos (show (true = true ∧ acc ≠ []) from ⟨rfl, hn⟩)]
            exact ih (pos + 1) k _ false (by omega) (by omega) (by omega) (by rw [List.length_append, List.length_append, List.length_singleton, List.length_singleton]; omega)
    · have e : pos = s.size := by omega
      simp only [stencilref01_Trim.l0]
      rw [if_neg (by omega), asInts_str, List.drop_of_length_le (by omega), trimGo]
theorem ref_trim (s : ByteArray) (hs : s.size ≤ 1000000000) (k : Nat) (hk : s.size + 1 ≤ k) : stencilref01_Trim.f k s = some ⟨(trimGo [] false s.data.toList).toArray⟩ := by
  unfold stencilref01_Trim.f
  have h := ref_trim_l0 s hs s.size 0 k [] false (by omega) (by omega) (by omega) (by simp)
  simpa [asInts] using h
theorem XcharTrims (a0 : ByteArray) (h0 : a0.size ≤ 1048576) : ∃ k, stencillaw01_XcharTrims.f k a0 = some true := by
  refine ⟨a0.size + 1, ?_⟩
  have hl := trimGo_len a0.data.toList [] false
  rw [size_len, List.length_nil] at hl
  have hd : ((((⟨#[32]⟩ : ByteArray) ++ a0) ++ (⟨#[10]⟩ : ByteArray))).data.toList = 32 :: (a0.data.toList ++ [10]) := by
    rw [ByteArray.data_append, ByteArray.data_append]; simp
  have hz : ((((⟨#[32]⟩ : ByteArray) ++ a0) ++ (⟨#[10]⟩ : ByteArray))).size = a0.size + 2 := by
    rw [ByteArray.size_append, ByteArray.size_append]
    show 1 + a0.size + 1 = _
    omega
  have e1 : trimGo [] false (32 :: (a0.data.toList ++ [10])) = trimGo [] false a0.data.toList := by
    rw [trimGo, if_pos (by decide), trimGo_end _ _ (by decide), trimGo_nil_bl]
  unfold stencillaw01_XcharTrims.f
  rw [trim_f a0 (by omega), ref_trim a0 (by omega) _ (Nat.le_refl _)]
  simp only [Option.bind_some, stencillaw01_live.f, if_true]
  rw [trim_f _ (by rw [mk_size]; omega)]
  simp only [Option.bind_some, trim_idem, if_true]
  rw [if_pos (by omega), if_pos (by omega), trim_f _ (by rw [hz]; omega), hd, e1]
  simp
end Go.Proofs.YtinefoocajnhmaaDoor.Pure
