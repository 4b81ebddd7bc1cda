/- What the reference's small functions on characters compute: plain facts of the printed functions. -/
import Derived.Test.YtinefoocajnhmaaDoorPrintf55
import Derived.Test.YtinefoocajnhmaaDoorPrintf78
import Derived.Test.YtinefoocajnhmaaDoorPlain
namespace Go.Proofs.YtinefoocajnhmaaDoor.Facts
open Go.RowKit Go.Proofs.YtinefoocajnhmaaDoorW.PrintWords Go.Proofs.YtinefoocajnhmaaDoor.Plain Go.Proofs.YtinefoocajnhmaaDoor.Print

theorem wrap_small {i : Int} (h0 : -1000000000000 ≤ i) (h1 : i ≤ 1000000000000) : wrap64 i = i := by
  unfold wrap64
  omega

def pairs : List Int → List (Int × Int)
  | a :: b :: t => (a, b) :: pairs t
  | _ => []
theorem rd_drop (l : List Int) (j : Nat) (a : Int) (t : List Int) (h : l.drop j = a :: t) : rd l (j : Int) = a := by
  unfold rd
  have : l[j]? = some a := by
    have := congrArg (fun x => x[0]?) h
    simpa using this
  simp [this]
theorem in_l0 (l : List Int) (r : Int) (hl : l.length ≤ 1000) : ∀ (m : List Int) (k j : Nat), l.drop (2 * j) = m → 2 * j ≤ l.length → m.length < 2 * k →
    stencilref01_in.l0 k r l (2 * j : Nat) = some (inSpans (pairs m) r) := by
  intro m
  induction m using pairs.induct with
  | case1 a b t ih =>
    intro k j hd hj hk
    obtain ⟨k, rfl⟩ : ∃ n, k = n + 1 := ⟨k - 1, by omega⟩
    have hlen : l.length = 2 * j + (t.length + 2) := by
      have := congrArg List.length hd
      simp at this
      omega
    have ha := rd_drop l (2 * j) a _ hd
    have hb := rd_drop l (2 * j + 1) b t (by rw [← List.drop_drop, hd]; rfl)
    have hd2 : l.drop (2 * (j + 1)) = t := by
      rw [show 2 * (j + 1) = 2 * j + 2 from by omega, ← List.drop_drop, hd]; rfl
    have hr := ih k (j + 1) hd2 (by omega) (by simp at hk; omega)
    have w1 : wrap64 (((2 * j : Nat) : Int) + 1) = ((2 * j + 1 : Nat) : Int) := by rw [wrap_small (by omega) (by omega)]; omega
    have w2 : wrap64 (((2 * j : Nat) : Int) + 2) = ((2 * (j + 1) : Nat) : Int) := by rw [wrap_small (by omega) (by omega)]; omega
    simp only [stencilref01_in.l0]
    rw [w1, w2, hr, if_pos (by omega), if_pos (by omega), if_pos (by omega), ha]
    show _ = some ((decide (a ≤ r) && decide (r ≤ b)) || inSpans (pairs t) r)
    by_cases h1 : r ≥ a
    · by_cases h2 : r ≤ b
      · rw [if_pos h1, if_pos (by omega), hb, if_pos h2]; simp [h1, h2]
      · rw [if_pos h1, if_pos (by omega), hb, if_neg h2]; simp [h2]
    · rw [if_neg h1]; simp [show ¬ a ≤ r by omega]
  | case2 m hm =>
    intro k j hd hj hk
    obtain ⟨k, rfl⟩ : ∃ n, k = n + 1 := ⟨k - 1, by omega⟩
    have hlen : l.length - 2 * j ≤ 1 := by
      have := congrArg List.length hd
      rw [List.length_drop] at this
      rw [this]
      match m, hm with
      | [], _ => simp
      | [_], _ => simp
      | a :: b :: t, h => exact absurd rfl (h a b t)
    have hp : pairs m = [] := by
      match m, hm with
      | [], _ => rfl
      | [_], _ => rfl
      | a :: b :: t, h => exact absurd rfl (h a b t)
    simp only [stencilref01_in.l0]
    rw [wrap_small (by omega) (by omega), if_neg (by omega), hp]; rfl

def refBeginsL : List Int := [65, 90, 97, 122, 95, 95, 192, 214, 216, 246, 248, 767, 880, 893, 895, 8191, 8204, 8205, 8304, 8591, 11264, 12271, 12289, 55295, 63744, 64975, 65008, 65533, 65536, 983039]
def refGoesL : List Int := [45, 45, 46, 46, 48, 57, 183, 183, 768, 879, 8255, 8256]
theorem begins_same (r : Int) : inSpans (pairs refBeginsL) r = beginsS r := by
  unfold beginsS
  split
  · rw [Bool.eq_iff_iff]
    simp [inSpans, pairs, refBeginsL, asciiB]
    omega
  · rw [Bool.eq_iff_iff]
    simp [inSpans, pairs, refBeginsL, beginsL]
    omega
theorem goes_same (r : Int) : (beginsS r || inSpans (pairs refGoesL) r) = goesOnS r := by
  unfold goesOnS
  rw [Bool.or_assoc]
  congr 1
  rw [Bool.eq_iff_iff]
  simp [inSpans, pairs, refGoesL, goesOnL, goesOnA]
  omega
theorem begins_f (r : Int) (k : Nat) (hk : 20 ≤ k) : stencilref01_Begins.f k r = some (beginsS r) := by
  have h := in_l0 refBeginsL r (by decide) refBeginsL k 0 rfl (by decide) (by show 30 < 2 * k; omega)
  rw [begins_same] at h
  unfold stencilref01_Begins.f stencilref01_in.f
  show (stencilref01_in.l0 k r refBeginsL 0).bind _ = _
  rw [show (0 : Int) = ((2 * 0 : Nat) : Int) from rfl, h]
  rfl
theorem goes_f (r : Int) (k : Nat) (hk : 20 ≤ k) : stencilref01_GoesOn.f k r = some (goesOnS r) := by
  have h := in_l0 refGoesL r (by decide) refGoesL k 0 rfl (by decide) (by show 12 < 2 * k; omega)
  unfold stencilref01_GoesOn.f stencilref01_in.f
  rw [begins_f r k hk]
  show (if beginsS r = true then some true else (stencilref01_in.l0 k r refGoesL 0).bind _) = _
  rw [show (0 : Int) = ((2 * 0 : Nat) : Int) from rfl, h, ← goes_same]
  cases beginsS r <;> rfl
theorem isChar_f (r : Int) : stencilref01_IsChar.f r = some (inSpans isCharL r) := by
  unfold stencilref01_IsChar.f
  repeat' split
  all_goals (rw [Option.some.injEq, Bool.eq_iff_iff]; simp [inSpans, isCharL]; omega)
theorem isBlank_ref (r : Int) : stencilref01_IsBlank.f r = some (decide (r = 9) || decide (r = 10) || decide (r = 13) || decide (r = 32)) := by
  unfold stencilref01_IsBlank.f
  repeat' split
  all_goals (rw [Option.some.injEq, Bool.eq_iff_iff]; simp; omega)
/-- what may be in names may be at all -/
theorem goesOn_isChar (r : Int) (h : goesOnS r = true) : inSpans isCharL r = true := by
  unfold goesOnS beginsS at h
  simp only [Bool.or_eq_true] at h
  rcases h with (h | h) | h
  · split at h
    · simp [asciiB] at h
      simp [inSpans, isCharL]; omega
    · simp [inSpans, beginsL] at h
      simp [inSpans, isCharL]; omega
  · simp [goesOnA] at h
    simp [inSpans, isCharL]; omega
  · simp [inSpans, goesOnL] at h
    simp [inSpans, isCharL]; omega
end Go.Proofs.YtinefoocajnhmaaDoor.Facts
