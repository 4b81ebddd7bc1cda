/- Which texts are names: what the reference computes, as a plain function on lists of bytes. -/
import Derived.Test.YtinefoocajnhmaaDoorPrintf64
import Derived.Test.YtinefoocajnhmaaDoorFactsT
namespace Go.Proofs.YtinefoocajnhmaaDoor.FactsN
open Go.RowKit Go.Proofs.YtinefoocajnhmaaDoorW.PrintWords Go.Proofs.YtinefoocajnhmaaDoor.Plain Go.Proofs.YtinefoocajnhmaaDoor.Print Go.Proofs.YtinefoocajnhmaaDoor.FactsT

def pairs : List Int → List (Int × Int)
  | a :: b :: t => (a, b) :: pairs t
  | _ => []
theorem rd_drop (l : List Int) (j : Nat) (a : Int) (t : List Int) (h : l.drop j = a :: t) : rd l (j : Int) = a := by
  unfold rd
  have : l[j]? = some a := by
    have := congrArg (fun x => x[0]?) h
    simpa using this
  simp [this]
theorem in_l0 (l : List Int) (r : Int) (hl : l.length ≤ 1000) : ∀ (m : List Int) (k j : Nat), l.drop (2 * j) = m → 2 * j ≤ l.length → m.length < 2 * k →
    stencilref01_in.l0 k r l (2 * j : Nat) = some (inSpans (pairs m) r) := by
  intro m
  induction m using pairs.induct with
  | case1 a b t ih =>
    intro k j hd hj hk
    obtain ⟨k, rfl⟩ : ∃ n, k = n + 1 := ⟨k - 1, by omega⟩
    have hlen : l.length = 2 * j + (t.length + 2) := by
      have := congrArg List.length hd
      simp at this
      omega
    have ha := rd_drop l (2 * j) a _ hd
    have hb := rd_drop l (2 * j + 1) b t (by rw [← List.drop_drop, hd]; rfl)
    have hd2 : l.drop (2 * (j + 1)) = t := by
      rw [show 2 * (j + 1) = 2 * j + 2 from by omega, ← List.drop_drop, hd]; rfl
    have hr := ih k (j + 1) hd2 (by omega) (by simp at hk; omega)
    have w1 : wrap64 (((2 * j : Nat) : Int) + 1) = ((2 * j + 1 : Nat) : Int) := by rw [FactsT.wrap_small (by omega) (by omega)]; omega
    have w2 : wrap64 (((2 * j : Nat) : Int) + 2) = ((2 * (j + 1) : Nat) : Int) := by rw [FactsT.wrap_small (by omega) (by omega)]; omega
    simp only [stencilref01_in.l0]
    rw [w1, w2, hr, if_pos (by omega), if_pos (by omega), if_pos (by omega), ha]
    show _ = some ((decide (a ≤ r) && decide (r ≤ b)) || inSpans (pairs t) r)
    by_cases h1 : r ≥ a
    · by_cases h2 : r ≤ b
      · rw [if_pos h1, if_pos (by omega), hb, if_pos h2]; simp [h1, h2]
      · rw [if_pos h1, if_pos (by omega), hb, if_neg h2]; simp [h2]
    · rw [if_neg h1]; simp [show ¬ a ≤ r by omega]
  | case2 m hm =>
    intro k j hd hj hk
    obtain ⟨k, rfl⟩ : ∃ n, k = n + 1 := ⟨k - 1, by omega⟩
    have hlen : l.length - 2 * j ≤ 1 := by
      have := congrArg List.length hd
      rw [List.length_drop] at this
      rw [this]
      match m, hm with
      | [], _ => simp
      | [_], _ => simp
      | a :: b :: t, h => exact absurd rfl (h a b t)
    have hp : pairs m = [] := by
      match m, hm with
      | [], _ => rfl
      | [_], _ => rfl
      | a :: b :: t, h => exact absurd rfl (h a b t)
    simp only [stencilref01_in.l0]
    rw [FactsT.wrap_small (by omega) (by omega), if_neg (by omega), hp]; rfl

def refBeginsL : List Int := [65, 90, 97, 122, 95, 95, 192, 214, 216, 246, 248, 767, 880, 893, 895, 8191, 8204, 8205, 8304, 8591, 11264, 12271, 12289, 55295, 63744, 64975, 65008, 65533, 65536, 983039]
def refGoesL : List Int := [45, 45, 46, 46, 48, 57, 183, 183, 768, 879, 8255, 8256]
theorem begins_same (r : Int) : inSpans (pairs refBeginsL) r = beginsS r := by
  unfold beginsS
  split
  · rw [Bool.eq_iff_iff]
    simp [inSpans, pairs, refBeginsL, asciiB]
    omega
  · rw [Bool.eq_iff_iff]
    simp [inSpans, pairs, refBeginsL, beginsL]
    omega
theorem goes_same (r : Int) : (beginsS r || inSpans (pairs refGoesL) r) = goesOnS r := by
  unfold goesOnS
  rw [Bool.or_assoc]
  congr 1
  rw [Bool.eq_iff_iff]
  simp [inSpans, pairs, refGoesL, goesOnL, goesOnA]
  omega
theorem begins_f (r : Int) (k : Nat) (hk : 20 ≤ k) : stencilref01_Begins.f k r = some (beginsS r) := by
  have h := in_l0 refBeginsL r (by decide) refBeginsL k 0 rfl (by decide) (by show 30 < 2 * k; omega)
  rw [begins_same] at h
  unfold stencilref01_Begins.f stencilref01_in.f
  show (stencilref01_in.l0 k r refBeginsL 0).bind _ = _
  rw [show (0 : Int) = ((2 * 0 : Nat) : Int) from rfl, h]
  rfl
theorem goes_f (r : Int) (k : Nat) (hk : 20 ≤ k) : stencilref01_GoesOn.f k r = some (goesOnS r) := by
  have h := in_l0 refGoesL r (by decide) refGoesL k 0 rfl (by decide) (by show 12 < 2 * k; omega)
  unfold stencilref01_GoesOn.f stencilref01_in.f
  rw [begins_f r k hk]
  show (if beginsS r = true then some true else (stencilref01_in.l0 k r refGoesL 0).bind _) = _
  rw [show (0 : Int) = ((2 * 0 : Nat) : Int) from rfl, h, ← goes_same]
  cases beginsS r <;> rfl
/-- what may be in names may be at all -/
theorem goesOn_isChar (r : Int) (h : goesOnS r = true) : inSpans isCharL r = true := by
  unfold goesOnS beginsS at h
  simp only [Bool.or_eq_true] at h
  rcases h with (h | h) | h
  · split at h
    · simp [asciiB] at h
      simp [inSpans, isCharL]; omega
    · simp [inSpans, beginsL] at h
      simp [inSpans, isCharL]; omega
  · simp [goesOnA] at h
    simp [inSpans, isCharL]; omega
  · simp [inSpans, goesOnL] at h
    simp [inSpans, isCharL]; omega
theorem isName_l0 (s : ByteArray) (hs : s.size ≤ 1000000000) : ∀ (f pos k : Nat), pos ≤ s.size → s.size - pos ≤ f → f + 21 ≤ k →
    stencilref01_IsName.l0 k s (pos : Int) = some (namesL f (s.data.toList.drop pos) pos) := by
  intro f
  induction f with
  | zero =>
    intro pos k hp hf hk
    obtain ⟨k, rfl⟩ : ∃ m, k = m + 1 := ⟨k - 1, by omega⟩
    simp only [stencilref01_IsName.l0]
    rw [if_neg (by omega)]
    rfl
  | succ f ih =>
    intro pos k hp hf hk
    obtain ⟨k, rfl⟩ : ∃ m, k = m + 1 := ⟨k - 1, by omega⟩
    simp only [stencilref01_IsName.l0]
    by_cases hlt : pos < s.size
    · have hne := drop_ne s pos hlt
      have hdc := decode_f s pos hlt
      rw [if_pos (by omega), if_pos (by omega), if_pos (by omega), hdc]
      simp only [Option.bind_some]
      rw [namesL, if_neg hne, begins_f _ k (by omega), goes_f _ k (by omega)]
      have hin := Lib.decodeL_le _ hne
      have hw := Lib.decodeL_width (s.data.toList.drop pos)
      rw [List.length_drop, size_len] at hin
      generalize hR : (Lib.decodeL (s.data.toList.drop pos)).1 = R at *
      generalize hN : (Lib.decodeL (s.data.toList.drop pos)).2 = N at *
      have hstep := ih (pos + N) k (by omega) (by omega) (by omega)
      rw [← List.drop_drop] at hstep
      have hwrap : wrap64 ((pos : Int) + (N : Int)) = ((pos + N : Nat) : Int) := by rw [FactsT.wrap_small (by omega) (by omega)]; omega
      rw [hwrap, hstep]
      simp only [Option.bind_some]
      by_cases hp0 : pos = 0
      · rw [if_pos (by omega)]
        cases hb : beginsS (R : Int) <;> cases hg : goesOnS (R : Int) <;> simp [hp0]
      · rw [if_neg (by omega)]
        cases hg : goesOnS (R : Int) <;> simp [hp0]
    · rw [if_neg (by omega), drop_nil s pos hlt, namesL_nil]
theorem isName_eq (l : List UInt8) : isNameL l = (isTextL l && (!l.isEmpty && namesL l.length l 0)) := by
  unfold isNameL isTextL
  cases hn : namesL l.length l 0 with
  | false => simp
  | true =>
    rw [show Lib.validD l = Lib.validGoD l.length l from rfl, names_bad l.length l 0 hn goesOn_isChar]
    simp
theorem isName_ref (s : ByteArray) (hs : s.size ≤ 1000000000) (k : Nat) (hk : 2 * s.size + 22 ≤ k) : stencilref01_IsName.f k s = some (isNameL s.data.toList) := by
  unfold stencilref01_IsName.f
  rw [isText_ref s hs k (by omega)]
  simp only [Option.bind_some]
  rw [isName_eq]
  obtain ⟨k, rfl⟩ : ∃ m, k = m + 1 := ⟨k - 1, by omega⟩
  have h0 := isName_l0 s hs s.size 0 k (by omega) (by omega) (by omega)
  rw [List.drop_zero] at h0
  simp only [stencilref01_IsName.j0]
  rw [show ((0 : Nat) : Int) = 0 from rfl] at h0
  rw [h0, size_len, toList_eq]
  cases ht : isTextL s.data.toList with
  | false => simp
  | true =>
    cases hl : s.data.toList with
    | nil => simp
    | cons b t => simp
end Go.Proofs.YtinefoocajnhmaaDoor.FactsN
