/- What the statements of the scanner use: live, Same. -/
import Derived.Test.YtinefoocajnhmaaDoorPrintxplexscan
import Derived.Test.YtinefoocajnhmaaDoorPrintf19
import Derived.Test.YtinefoocajnhmaaDoorPrintf21
import Derived.Test.YtinefoocajnhmaaDoorScanC
set_option linter.unusedSimpArgs false
namespace Go.Proofs.YtinefoocajnhmaaDoor.Scan
open Go.RowKit Go.Proofs.YtinefoocajnhmaaDoorW.PrintWords Go.Proofs.YtinefoocajnhmaaDoor.Plain Go.Proofs.YtinefoocajnhmaaDoor.Print Go.Proofs.YtinefoocajnhmaaDoor.Enc Go.Lib
set_option maxRecDepth 100000 in
theorem live_ok : stencillaw05_live.f = some true := by kernel_rfl
theorem rd_get {l : List S30} {j : Nat} {x : S30} (h : l[j]? = some x) : rd_T30 l (j : Int) = x := by
  simp [rd_T30, List.getD, h]
theorem same_l0 (a b : List S30) (hl : a.length = b.length) (hz : a.length ≤ 1000000) (h : ∀ (j : Nat) (x y : S30), a[j]? = some x → b[j]? = some y → x.f0 = y.f0 ∧ x.f1 = y.f1) :
    ∀ (d j k : Nat), a.length - j ≤ d → d + 1 ≤ k → j ≤ a.length → stencillaw05_Same.l0 k a b false (j : Int) = some true := by
  intro d
  induction d with
  | zero =>
    intro j k hd hk hj
    obtain ⟨k, rfl⟩ : ∃ m, k = m + 1 := ⟨k - 1, by omega⟩
    simp only [stencillaw05_Same.l0]
    rw [if_neg (by omega)]
  | succ d ih =>
    intro j k hd hk hj
    obtain ⟨k, rfl⟩ : ∃ m, k = m + 1 := ⟨k - 1, by omega⟩
    simp only [stencillaw05_Same.l0]
    by_cases hlt : j < a.length
    · have e1 : a[j]? = some a[j] := List.getElem?_eq_getElem hlt
      have e2 : b[j]? = some (b[j]'(by omega)) := List.getElem?_eq_getElem (by omega)
      have hh := h j _ _ e1 e2
      have hw : wrap64 ((j : Int) + 1) = ((j + 1 : Nat) : Int) := by unfold wrap64; omega
      rw [if_pos (by omega), if_pos (by omega), if_pos (by omega), rd_get e1, rd_get e2, if_pos hh.1, if_pos (by rw [hh.2]), if_neg (by decide), hw]
      exact ih (j + 1) k (by omega) (by omega) (by omega)
    · rw [if_neg (by omega)]
theorem same_ok (a b : List S30) (hl : a.length = b.length) (hz : a.length ≤ 1000000) (h : ∀ (j : Nat) (x y : S30), a[j]? = some x → b[j]? = some y → x.f0 = y.f0 ∧ x.f1 = y.f1) (k : Nat) (hk : a.length + 1 ≤ k) :
    stencillaw05_Same.f k a b false = some true := by
  unfold stencillaw05_Same.f
  rw [if_pos (by omega)]
  exact same_l0 a b hl hz h a.length 0 k (by omega) hk (by omega)
/-- a text of more than 512 bytes; one in which something is wrong -/
theorem scan_big (s : ByteArray) (h : 512 < s.size) : scanR s = ([], 6, 0) := by unfold scanR; rw [if_pos h]
theorem scan_bad (s : ByteArray) (hs : ¬ 512 < s.size) (h : ¬ (badL s.data.toList.length s.data.toList 0).1 < 0) : scanR s = ([], 4, (badL s.data.toList.length s.data.toList 0).1) := by
  rw [sz] at h ⊢
  unfold scanR
  rw [if_neg hs, if_pos (by omega)]
/-- what Scan may tell -/
theorem scan_cases (s : ByteArray) : (∃ e at_, scanR s = ([], e, at_) ∧ e ≠ 0) ∨ ∃ rs ts, okRs rs ∧ s.data.toList = enc rs ∧ s.size ≤ 512 ∧ scanT (s.size + 1) (trimR rs) 0 = .ok ts ∧ scanR s = (ts.map (tkS s.size), 0, 0) := by
  by_cases hz : 512 < s.size
  · exact .inl ⟨6, 0, scan_big s hz, by decide⟩
  · by_cases hb : (badL s.data.toList.length s.data.toList 0).1 < 0
    · obtain ⟨rs, h1, h2⟩ := (good_iff _).1 hb
      have := scan_enc s rs h1 h2.symm (by omega) _ rfl
      rcases hr : scanT (s.size + 1) (trimR rs) 0 with e | ts
      · rw [hr] at this
        exact .inl ⟨9, _, this, by decide⟩
      · rw [hr] at this
        exact .inr ⟨rs, ts, h1, h2.symm, by omega, hr, by rw [this]; simp [resT]⟩
    · exact .inl ⟨4, _, scan_bad s hz hb, by decide⟩
end Go.Proofs.YtinefoocajnhmaaDoor.Scan
